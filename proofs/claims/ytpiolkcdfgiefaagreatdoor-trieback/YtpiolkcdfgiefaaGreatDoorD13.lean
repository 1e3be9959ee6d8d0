/- A part of the proof. -/
import Derived.Test.YtpiolkcdfgiefaaGreatDoorD9
import Derived.Test.YtpiolkcdfgiefaaGreatDoorT28
section
open Go Go.Eng Go.Proofs T7 T8 T9 T32 A0 T1 T2 T3 T4 T5 T6 T13 T14 T23 T25 T28 T29 T30 T31 D3 D6 D9
set_option maxRecDepth 100000
namespace D10
def kdL (k:TK):List B:=(uD Dd k).map (·.2)
structure LI (N:Nat->NO) (H:Nat->Prop) (k:TK) (l:List (aJ×Nat×Nat)) (j:Nat) (N':Nat->NO):Prop where
 le:j<=(bC k).length
 mrk:Mk N N'
 out:∀ z,¬ H z->N' z=N z
 rep:fE Dd N' k l H
theorem Af {k:Keep} {hp:List (Nat×aE)} {n:Nat} {L L':List B} (h:L=L'):∀ i,i < n->iK k (sub k hp 200) (idE (L.getD i [])) (idE (L'.getD i [])):=by
 subst h
 exact fun i _=>Or.inl (aN _ _ _ _)
def R5:aM:=R6.mof B (fun x y=>y=jZ x) (fun _ y=>.str y)
theorem Gh:R5.Ok Tryz.prog 19:=Eng.Spec.kW D8.Dm fun _ _=>⟨_,rfl,rfl⟩
theorem N9 {k:TK} {j:Nat} {b:UInt8} {s:TT} (h:(bC k)[j]?=some (b,s)):(aQ k).take (j+1)=(aQ k).take j++[b]:=by
 rw [iV,List.take_add_one,List.getElem?_map,h]
 rfl
theorem O4 {k:TK} {j:Nat} {b:UInt8} {s:TT} (h:(bC k)[j]?=some (b,s)):(kdL k).take (j+1)=(kdL k).take j++[lR Dd s]:=by
 unfold kdL
 rw [nY,List.take_add_one,List.getElem?_map,h]
 rfl
theorem Lf (k:TK):(kdL k).length=(bC k).length:=by
 unfold kdL
 rw [nY,List.length_map]
theorem Sz {k:Keep} {hp:List (Nat×aE)} {L L':List B} {y:B} {m:Nat} (hL:L'=L++[y]) (hm:m=L.length+1):∀ i,i < m->iK k (sub k hp 200) (eK L.length (fun j=>idE (L.getD j [])) (fun q=>hZ (.cons (.cons (.str y) .nil) .nil) (0+q)) i) (idE (L'.getD i [])):=by
 intro i hi
 subst hm hL
 have e:eK L.length (fun j=>idE (L.getD j [])) (fun q=>hZ (.cons (.cons (.str y) .nil) .nil) (0+q)) i=idE ((L++[y]).getD i []):=by
  unfold eK
  rw [Dc]
  by_cases h:i < L.length
  ·rw [if_pos h]
   show idE (L.getD i [])=_
   rw [List.getD_eq_getElem?_getD,List.getD_eq_getElem?_getD,List.getElem?_append_left h]
  ·rw [if_neg h]
   obtain rfl:i=L.length:=by omega
   rw [List.getD_eq_getElem?_getD,List.getElem?_append_right (Nat.le_refl _),Nat.sub_self]
   show hZ _ (0+0)=_
   rfl
 rw [e]
 exact Or.inl (aN _ _ _ _)
def g57:List Nat:=[14,16,13,0,5,15,3,2]
def c57:aH :=
 .seq (.region g57 [(zo 2 (.alloc 39 (.cons (.nilsl) (.cons (.str []) (.cons (.nilsl) .nil)))))]) (.seq (.region g57 [(mv 6 0),(zo 7 (.nilCheck (.s 6))),(fa 8 0 7),(ld 9 8),(zo 10 (.call (.c (.fn 80)) [.s 9])),(zo 11 (.build (.cons (.nilsl) (.cons (.str []) (.cons (.nilsl) .nil))) [(0,1,.s 10)])),(zo 3 (.alloc 39 (.cons (.nilsl) (.cons (.str []) (.cons (.nilsl) .nil))))),⟨none,none,.store 3 (.s 3) (.s 11),[]⟩]) (.seq (.seq (.region g57 [(mv 12 0),(zo 13 (.call (.c (.fn 73)) [.s 12])),(zo 14 (.lenSl (.s 13))),(zo 15 (.move (cj 0)))]) (.block 0 (.loop 0 [16,17,18,5,19,20,21,22,23,24,25,26,27,28,29,30,31,32,33,34,35,36,37,38,15] (.seq (.region g57 [(zo 16 (.bin (.lss) (.s 15) (.s 14)))]) (.seq (.cond (.s 16) .skip (.exit 0)) (.seq (.block 1 (.seq (.region g57 [(zo 17 (.idxSl 1 (.s 13) (.s 15))),(ld 18 17),(mv 5 18)]) (.seq (.region g57 [(fa 19 1 3),(ld 20 19),(mv 21 5),(zo 22 (.cnv (.i32) (.s 21))),(zo 23 (.runeS (.s 22))),(zo 24 (.bin (.add) (.s 20) (.s 23))),(fa 25 1 3),⟨none,none,.store 1 (.s 25) (.s 24),[]⟩]) (.drawn g57 (.pure 0 (fa 26 2 3) (.pure 1 (ld 27 26) (.pure 2 (mv 28 0) (.pure 3 (zo 29 (.nilCheck (.s 28))) (.pure 4 (fa 30 1 29) (.pure 6 (mv 32 5) (.eff 5 (ld 31 30) [(ld 27 26)] (.eff 7 (zo 33 (.mlook (.nilptr) false (.i (.u8)) (.s 31) (.s 32))) [(ld 27 26)] (.eff 8 (zo 34 (.call (.c (.fn 55)) [.s 33])) [(ld 27 26)] (.eff 9 (zo 35 (.buildSl 9 1 1 (.cons (.str []) .nil) [(0,1,.s 34)])) [(ld 27 26)] (.eff 10 (zo 36 (.app 9 1 16 (.s 27) (.s 35))) [] (.pure 11 (fa 37 2 3) (.eff 12 ⟨none,none,.store 1 (.s 37) (.s 36),[]⟩ [] .done .none)) .none) .none) .none) .none) .none))))))))))) (.region g57 [(zo 38 (.bin (.add) (.s 15) (cj 1))),(mv 15 38)]))))))) (.seq (.region g57 [(zo 39 (.load 3 true (.s 3))),⟨none,none,.store 3 (.s 2) (.s 39),[]⟩]) .ret)))
theorem e57:aS Tryz.prog 57 g57 [] [31,34,35] []=some (c57,[.cell 2 3 true],40):=by kernel_rfl
def shS (n:Nat):aM where
 X:=DX
 Y:=Nat->NO
 args:=fun x=>.cons (.fown 0 x.v 0) .nil
 pre:=DOk n
 h0:=fun x=>[(0,.fam fun q=>noO 0 (x.N q))]
 nx0:=1
 post:=DPo
 res:=fun x _=>.agg (.cons (.lsl 1 1 (ndT x.T).ids.length) (.cons (.str (ndT x.T).bys) (.cons (.lsl 2 1 (ndT x.T).kids.length) .nil)))
 h1:=fun x y=>[(0,.fam fun q=>noO 0 (y q)),lsH 1 (ndT x.T).ids,lsH 2 (ndT x.T).kids]
 nx1:=3
def dgS (n:Nat):aM where
 X:=DX
 Y:=Nat->NO
 args:=fun x=>.cons (.fown 0 x.v 0) .nil
 pre:=DOk n
 h0:=fun x=>[(0,.fam fun q=>noO 0 (x.N q))]
 nx0:=1
 post:=DPo
 res:=fun x _=>.str (lR Dd x.T)
 h1:=fun _ y=>[(0,.fam fun q=>noO 0 (y q))]
 nx1:=1
theorem Q7 {n:Nat} (ih:(dgS n).Ok Tryz.prog 55):(shS (n+1)).Ok Tryz.prog 57:=by
 refine Eng.aM.okR e57 .nil (fun _=>[(80,.m Ug),(73,.m Rq),(55,.m (dgS n)),(2097152,.own)]) (fun _ _=>aF.m Rr (aF.m Ka (aF.m ih (aF.o aF.nil)))) ?_
 rintro ⟨N,T,v,F⟩ ⟨hrep,hwf,hsz,htk,hlow,hht,hsh⟩
 cases T with
 | node ids k =>
 replace hsz:ids.length+szK k<=12:=hsz
 replace hht:htK k+1<=n+1:=hht
 replace hwf:Srt ids/\Sb (aQ k)/\wfK k:=hwf
 replace hlow:Ew k:=hlow
 replace hsh:(∀ i∈ids,i.length<=1000000)/\shK k:=hsh
 replace htk:∀ i l q,N i=.map l q->Tk l q:=htk
 replace hrep:dH Dd N (.node ids k) v F:=hrep
 have hkl:(aQ k).length<=12:=by have:=nH hwf.2.2; rw [iV,List.length_map]; omega
 obtain ⟨a,m,mk,l,q,H,hnv,hlst,hmp,hmk,hpm,hrk,hav,ham,hHv,hHm,hHa,hF⟩:=hrep
 refine ⟨trivial,?_⟩
 repeat' (first|apply And.intro|exact trivial|exact rfl|exact fun (i:Nat)=>aC (by exact rfl) (N i)|exact fun (i:Nat)=>aC (by exact rfl) (N' i)|exact fun (i:Nat)=>aD (by exact rfl) (by exact rfl) (N' i)|exact fun (i:Nat)=>aD (by exact rfl) (by exact rfl) (N i)|(exact fun (h:false=true)=>Bool.noConfusion h)|(refine fun (_:false=false)=>?_)|(exact fun (h:true=false)=>Bool.noConfusion h)|(refine fun (_:true=true)=>?_)|fail)
 refine Exists.intro (noO 0 (.node a ids.length m ((ids.length+szK k:Nat):Int) mk)) (And.intro (congrArg (noO 0) hnv) ?_)
 repeat' (first|apply And.intro|exact trivial|exact rfl|exact fun (i:Nat)=>aC (by exact rfl) (N i)|exact fun (i:Nat)=>aC (by exact rfl) (N' i)|exact fun (i:Nat)=>aD (by exact rfl) (by exact rfl) (N' i)|exact fun (i:Nat)=>aD (by exact rfl) (by exact rfl) (N i)|(exact fun (h:false=true)=>Bool.noConfusion h)|(refine fun (_:false=false)=>?_)|(exact fun (h:true=false)=>Bool.noConfusion h)|(refine fun (_:true=true)=>?_)|fail)
 have hln:ids.length<=1000000:=by omega
 have hl:(N a=.none/\ids.length=0)\/∃ A,N a=.arr A/\A≠[]/\ids.length<=A.length:=by
  rcases hlst with ⟨h1,h2⟩|⟨A,h1,h2,h3,_⟩
  ·exact .inl ⟨h1,by rw [h2]; rfl⟩
  ·exact .inr ⟨A,h1,h2,h3⟩
 have hids:ids=cR N a ids.length:=by
  rcases hlst with ⟨h1,h2⟩|⟨A,h1,h2,h3,h4⟩
  ·unfold cR; rw [h1,h2]
  ·rw [uZ h1,h4]
 refine Exists.intro ids (Exists.intro [] ?_)
 repeat' (first|exact hln|exact tU (h:=0) (N:=N) (a:=a) (n:=ids.length) rfl (Is.no 0 (N a)) rfl hl hids|apply And.intro|exact trivial|exact rfl|exact fun (i:Nat)=>aC (by exact rfl) (N i)|exact fun (i:Nat)=>aC (by exact rfl) (N' i)|exact fun (i:Nat)=>aD (by exact rfl) (by exact rfl) (N' i)|exact fun (i:Nat)=>aD (by exact rfl) (by exact rfl) (N i)|(exact fun (h:false=true)=>Bool.noConfusion h)|(refine fun (_:false=false)=>?_)|(exact fun (h:true=false)=>Bool.noConfusion h)|(refine fun (_:true=true)=>?_)|fail)
 refine fun (_:Unit) (_:True)=>?_
 repeat' (first|apply And.intro|exact trivial|exact rfl|exact fun (i:Nat)=>aC (by exact rfl) (N i)|exact fun (i:Nat)=>aC (by exact rfl) (N' i)|exact fun (i:Nat)=>aD (by exact rfl) (by exact rfl) (N' i)|exact fun (i:Nat)=>aD (by exact rfl) (by exact rfl) (N i)|(exact fun (h:false=true)=>Bool.noConfusion h)|(refine fun (_:false=false)=>?_)|(exact fun (h:true=false)=>Bool.noConfusion h)|(refine fun (_:true=true)=>?_)|exact fun (j:Nat) (hj:j < _)=>Or.inl (aN _ _ _ _)|fail)
 refine Exists.intro ⟨N,v,a,ids.length,m,((ids.length+szK k:Nat):Int),mk,l,q,aQ k⟩ (Exists.intro [0] ?_)
 have hb:BOk ⟨N,v,a,ids.length,m,((ids.length+szK k:Nat):Int),mk,l,q,aQ k⟩:=⟨hnv,hmp,htk _ _ _ hmp,hpm,hwf.2.1,hkl⟩
 repeat' (first|exact hb|apply And.intro|exact trivial|exact rfl|exact fun (i:Nat)=>aC (by exact rfl) (N i)|exact fun (i:Nat)=>aC (by exact rfl) (N' i)|exact fun (i:Nat)=>aD (by exact rfl) (by exact rfl) (N' i)|exact fun (i:Nat)=>aD (by exact rfl) (by exact rfl) (N i)|(exact fun (h:false=true)=>Bool.noConfusion h)|(refine fun (_:false=false)=>?_)|(exact fun (h:true=false)=>Bool.noConfusion h)|(refine fun (_:true=true)=>?_)|fail)
 refine fun (_:Unit) (_:True)=>?_
 repeat' (first|apply And.intro|exact trivial|exact rfl|exact fun (i:Nat)=>aC (by exact rfl) (N i)|exact fun (i:Nat)=>aC (by exact rfl) (N' i)|exact fun (i:Nat)=>aD (by exact rfl) (by exact rfl) (N' i)|exact fun (i:Nat)=>aD (by exact rfl) (by exact rfl) (N i)|(exact fun (h:false=true)=>Bool.noConfusion h)|(refine fun (_:false=false)=>?_)|(exact fun (h:true=false)=>Bool.noConfusion h)|(refine fun (_:true=true)=>?_)|exact fun (j:Nat) (hj:j < _)=>Or.inl (aN _ _ _ _)|fail)
 have hkd:(ndT (.node ids k)).kids=kdL k:=rfl
 refine ⟨⟨Nat×(Nat->NO),fun x=>LI N H k l x.1 x.2,fun x=>[(15,.int .i64 (x.1:Int))],fun x=>[(0,.fam fun q=>noO 0 (x.2 q)),lsH 2 ids,(3,.cells 39 (.cons (.lsl 2 1 ids.length) (.cons (.str ((aQ k).take x.1)) (.cons (.lsl 30 1 ((kdL k).take x.1).length) .nil)))),(4,.arr 5 1 (aQ k).length (lc bE 0 (bsI (aQ k)))),lsH 30 ((kdL k).take x.1)],fun x=>(bC k).length - x.1⟩,(0,N),⟨Nat.zero_le _,Mk.refl N,fun _ _=>rfl,hrk⟩,?_,?_⟩
 ·repeat' (first|apply And.intro|exact trivial|exact rfl|exact fun (i:Nat)=>aC (by exact rfl) (N i)|exact fun (i:Nat)=>aC (by exact rfl) (N' i)|exact fun (i:Nat)=>aD (by exact rfl) (by exact rfl) (N' i)|exact fun (i:Nat)=>aD (by exact rfl) (by exact rfl) (N i)|(exact fun (h:false=true)=>Bool.noConfusion h)|(refine fun (_:false=false)=>?_)|(exact fun (h:true=false)=>Bool.noConfusion h)|(refine fun (_:true=true)=>?_)|exact fun (j:Nat) (hj:j < _)=>Or.inl (aN _ _ _ _)|exact cH (fun a=>aZ _ _ _ a)|exact bJ (fun a=>aZ _ _ _ a)|fail)
 rintro ⟨j,N'⟩ ⟨(hj:j<=(bC k).length),(hM:Mk N N'),(hO:∀ z,¬ H z->N' z=N z),(hR:fE Dd N' k l H)⟩
 have hbl:(aQ k).length=(bC k).length:=by rw [iV,List.length_map]
 have hnv':N' v=.node a ids.length m ((ids.length+szK k:Nat):Int) mk:=(hO v hHv).trans hnv
 have hmp':N' m=.map l q:=(hO m hHm).trans hmp
 repeat' (first|apply And.intro|exact trivial|exact rfl|exact fun (i:Nat)=>aC (by exact rfl) (N i)|exact fun (i:Nat)=>aC (by exact rfl) (N' i)|exact fun (i:Nat)=>aD (by exact rfl) (by exact rfl) (N' i)|exact fun (i:Nat)=>aD (by exact rfl) (by exact rfl) (N i)|(exact fun (h:false=true)=>Bool.noConfusion h)|(refine fun (_:false=false)=>?_)|(exact fun (h:true=false)=>Bool.noConfusion h)|(refine fun (_:true=true)=>?_)|exact fun (j:Nat) (hj:j < _)=>Or.inl (aN _ _ _ _)|exact cH (fun a=>aZ _ _ _ a)|exact bJ (fun a=>aZ _ _ _ a)|fail)
 ·refine fun (hlt:decide ((j:Int) < ((aQ k).length:Int))=true)=>?_
  replace hlt:j < (bC k).length:=by have:=of_decide_eq_true hlt; omega
  obtain ⟨b,s,hbs⟩:∃ b s,(bC k)[j]?=some (b,s):=⟨_,_,List.getElem?_eq_getElem hlt⟩
  have hmem:=List.mem_of_getElem? hbs
  obtain ⟨f1,f2,f3,f4,f5⟩:=oC hmem hwf.2.2 hlow
  obtain ⟨u,τ,G1,hmg,hru,hG1,hup⟩:=Cc hR (qK hwf.2.1 hmem) hwf.2.1
  have hbv:(bsI (aQ k)).getD (0+(j:Int).toNat) 0=bI b:=byte_at hbs
  have g0:(0:Int)<=(j:Int):=by omega
  have g1:(j:Int) < ((aQ k).length:Int):=by omega
  have g2:0+(j:Int).toNat < (aQ k).length:=by omega
  have hbI:0<=bI b/\bI b < 128:=by unfold bI; omega
  have q1:-2147483648<=(bsI (aQ k)).getD (0+(j:Int).toNat) 0:=by rw [hbv]; omega
  have q2:(bsI (aQ k)).getD (0+(j:Int).toNat) 0<=2147483647:=by rw [hbv]; omega
  have q3:0<=(bsI (aQ k)).getD (0+(j:Int).toNat) 0:=by rw [hbv]; omega
  have q4:(bsI (aQ k)).getD (0+(j:Int).toNat) 0 < 128:=by rw [hbv]; omega
  have hk10:((kdL k).take j).length<=12:=by rw [List.length_take,Lf]; omega
  have q5:((aQ k).take j).length+1<=9223372036854775807:=by rw [List.length_take]; omega
  have ht':(aQ k).take j++[UInt8.ofNat ((bsI (aQ k)).getD (0+(j:Int).toNat) 0).toNat]=(aQ k).take (j+1):=by
   rw [hbv]; unfold bI; rw [Int.toNat_natCast,UInt8.ofNat_toNat]
   exact (N9 hbs).symm
  have hmg':mget l (.i .u8 ((bsI (aQ k)).getD (0+(j:Int).toNat) 0))=some (u,τ):=by rw [hbv]; exact hmg
  repeat' (first|apply And.intro|exact trivial|exact rfl|exact fun (i:Nat)=>aC (by exact rfl) (N i)|exact fun (i:Nat)=>aC (by exact rfl) (N' i)|exact fun (i:Nat)=>aD (by exact rfl) (by exact rfl) (N' i)|exact fun (i:Nat)=>aD (by exact rfl) (by exact rfl) (N i)|(exact fun (h:false=true)=>Bool.noConfusion h)|(refine fun (_:false=false)=>?_)|(exact fun (h:true=false)=>Bool.noConfusion h)|(refine fun (_:true=true)=>?_)|with_reducible exact g0|with_reducible exact g1|with_reducible exact g2|fail)
  ·exact q1
  ·exact q2
  ·exact q3
  ·exact q4
  ·exact q5
  refine Exists.intro (noO 0 (.node a ids.length m ((ids.length+szK k:Nat):Int) mk)) (And.intro (congrArg (noO 0) hnv') ?_)
  repeat' (first|apply And.intro|exact trivial|exact rfl|exact fun (i:Nat)=>aC (by exact rfl) (N i)|exact fun (i:Nat)=>aC (by exact rfl) (N' i)|exact fun (i:Nat)=>aD (by exact rfl) (by exact rfl) (N' i)|exact fun (i:Nat)=>aD (by exact rfl) (by exact rfl) (N i)|(exact fun (h:false=true)=>Bool.noConfusion h)|(refine fun (_:false=false)=>?_)|(exact fun (h:true=false)=>Bool.noConfusion h)|(refine fun (_:true=true)=>?_)|fail)
  refine Exists.intro (noO 0 (.map l q)) (And.intro (congrArg (noO 0) hmp') ?_)
  refine iB.tQ hmg' ?_
  repeat' (first|apply And.intro|exact trivial|exact rfl|exact fun (i:Nat)=>aC (by exact rfl) (N i)|exact fun (i:Nat)=>aC (by exact rfl) (N' i)|exact fun (i:Nat)=>aD (by exact rfl) (by exact rfl) (N' i)|exact fun (i:Nat)=>aD (by exact rfl) (by exact rfl) (N i)|(exact fun (h:false=true)=>Bool.noConfusion h)|(refine fun (_:false=false)=>?_)|(exact fun (h:true=false)=>Bool.noConfusion h)|(refine fun (_:true=true)=>?_)|fail)
  refine Exists.intro ⟨N',s,u,G1⟩ (Exists.intro [0] ?_)
  have hd:DOk n ⟨N',s,u,G1⟩:=⟨hru,f1,show szT s<=12 by omega,hM.tk htk,f3,show htT s<=n by omega,En hmem hsh.2⟩
  repeat' (first|exact hd|apply And.intro|exact trivial|exact rfl|exact fun (i:Nat)=>aC (by exact rfl) (N i)|exact fun (i:Nat)=>aC (by exact rfl) (N' i)|exact fun (i:Nat)=>aD (by exact rfl) (by exact rfl) (N' i)|exact fun (i:Nat)=>aD (by exact rfl) (by exact rfl) (N i)|(exact fun (h:false=true)=>Bool.noConfusion h)|(refine fun (_:false=false)=>?_)|(exact fun (h:true=false)=>Bool.noConfusion h)|(refine fun (_:true=true)=>?_)|fail)
  refine fun (N2:Nat->NO) (hp2:DPo ⟨N',s,u,G1⟩ N2)=>?_
  repeat' (first|apply And.intro|exact trivial|exact rfl|exact fun (i:Nat)=>aC (by exact rfl) (N i)|exact fun (i:Nat)=>aC (by exact rfl) (N' i)|exact fun (i:Nat)=>aD (by exact rfl) (by exact rfl) (N' i)|exact fun (i:Nat)=>aD (by exact rfl) (by exact rfl) (N i)|(exact fun (h:false=true)=>Bool.noConfusion h)|(refine fun (_:false=false)=>?_)|(exact fun (h:true=false)=>Bool.noConfusion h)|(refine fun (_:true=true)=>?_)|exact fun (i:Nat)=>aC (by exact rfl) (N2 i)|exact fun (i:Nat)=>aD (by exact rfl) (by exact rfl) (N2 i)|fail)
  ·exact Nat.le_refl 1
  ·exact fun j hj=>by obtain rfl:j=0:=(by omega); rfl
  ·show ((kdL k).take j).length+1<=9223372036854775807
   omega
  ·show (((kdL k).take j).length+1) * 16<=140737488355328
   omega
  ·show (-9223372036854775808:Int)<=(j:Int)+1
   omega
  ·show (j:Int)+1<=9223372036854775807
   omega
  have hkt:(kdL k).take (j+1)=(kdL k).take j++[lR Dd s]:=O4 hbs
  have hkl2:((kdL k).take j).length+1=((kdL k).take (j+1)).length:=by rw [hkt,List.length_append]; rfl
  have hLI:LI N H k l (j+1) N2:=⟨hlt,hM.trans hp2.mrk,fun z hz=>(hp2.out z fun h=>hz (hG1 z h)).trans (hO z hz),hup N2 hp2.rep hp2.out⟩
  refine Exists.intro (j+1,N2) (And.intro hLI (And.intro ?_ (show (bC k).length - (j+1) < (bC k).length - j by omega)))
  repeat' (first|apply And.intro|exact trivial|exact rfl|exact fun (i:Nat)=>aC (by exact rfl) (N i)|exact fun (i:Nat)=>aC (by exact rfl) (N' i)|exact fun (i:Nat)=>aD (by exact rfl) (by exact rfl) (N' i)|exact fun (i:Nat)=>aD (by exact rfl) (by exact rfl) (N i)|(exact fun (h:false=true)=>Bool.noConfusion h)|(refine fun (_:false=false)=>?_)|(exact fun (h:true=false)=>Bool.noConfusion h)|(refine fun (_:true=true)=>?_)|exact fun (j:Nat) (hj:j < _)=>Or.inl (aN _ _ _ _)|exact cH (fun a=>aZ _ _ _ a)|exact bJ (fun a=>aZ _ _ _ a)|exact fun (i:Nat)=>aC (by exact rfl) (N2 i)|exact fun (i:Nat)=>aD (by exact rfl) (by exact rfl) (N2 i)|exact ht'|exact hkl2|exact hkl2.symm|fail)
  ·exact Sz hkt rfl
 ·refine fun (hlt:decide ((j:Int) < ((aQ k).length:Int))=false)=>?_
  replace hlt:j=(bC k).length:=by have:=of_decide_eq_false hlt; omega
  subst hlt
  repeat' (first|apply And.intro|exact trivial|exact rfl|exact fun (i:Nat)=>aC (by exact rfl) (N i)|exact fun (i:Nat)=>aC (by exact rfl) (N' i)|exact fun (i:Nat)=>aD (by exact rfl) (by exact rfl) (N' i)|exact fun (i:Nat)=>aD (by exact rfl) (by exact rfl) (N i)|(exact fun (h:false=true)=>Bool.noConfusion h)|(refine fun (_:false=false)=>?_)|(exact fun (h:true=false)=>Bool.noConfusion h)|(refine fun (_:true=true)=>?_)|exact cH (fun a=>aZ _ _ _ a)|exact bJ (fun a=>aZ _ _ _ a)|exact fun (j:Nat) (hj:j < _)=>Or.inl (aN _ _ _ _)|fail)
  have hb1:(aQ k).take (bC k).length=(ndT (.node ids k)).bys:=by
   show _=(uD Dd k).map (·.1)
   rw [Ax,<- hbl,List.take_length]
  have hk1:(kdL k).take (bC k).length=(ndT (.node ids k)).kids:=by
   rw [<- Lf,List.take_length]; rfl
  have hk2:((kdL k).take (bC k).length).length=(ndT (.node ids k)).kids.length:=by rw [hk1]
  have hk3:(kdL k).take (bC k).length=kdL k:=hk1
  have hpo:DPo ⟨N,.node ids k,v,F⟩ N':=by
   refine ⟨hM,fun z hz=>hO z fun h=>hz ((hF z).2 (.inr (.inr (.inr h)))),a,m,mk,l,q,H,hnv',?_,hmp',hmk,hpm,hR,hav,ham,hHv,hHm,hHa,hF⟩
   rw [hO a hHa]
   exact hlst
  refine Exists.intro N' (And.intro hpo ?_)
  repeat' (first|apply And.intro|exact trivial|exact rfl|exact fun (i:Nat)=>aC (by exact rfl) (N i)|exact fun (i:Nat)=>aC (by exact rfl) (N' i)|exact fun (i:Nat)=>aD (by exact rfl) (by exact rfl) (N' i)|exact fun (i:Nat)=>aD (by exact rfl) (by exact rfl) (N i)|(exact fun (h:false=true)=>Bool.noConfusion h)|(refine fun (_:false=false)=>?_)|(exact fun (h:true=false)=>Bool.noConfusion h)|(refine fun (_:true=true)=>?_)|exact cH (fun a=>aZ _ _ _ a)|exact bJ (fun a=>aZ _ _ _ a)|exact fun (j:Nat) (hj:j < _)=>Or.inl (aN _ _ _ _)|exact hb1|exact hk2|exact hk2.symm|fail)
  exact Af hk3
def g55:List Nat:=[7,0,2]
def c55:aH :=
 .seq (.region g55 [(zo 2 (.move (.c (.str []))))]) (.seq (.seq (.region g55 [(mv 3 0),(zo 4 (.nilCheck (.s 3))),(fa 5 3 4),(ld 6 5),(zo 7 (.bin (.eql) (.s 6) (.c (.str []))))]) (.cond (.s 7) (.region g55 [(mv 8 0),(mv 9 0),(zo 10 (.call (.c (.fn 57)) [.s 9])),(zo 11 (.call (.c (.fn 19)) [.s 10])),(zo 12 (.nilCheck (.s 8))),(fa 13 3 12),⟨none,none,.store 1 (.s 13) (.s 11),[]⟩]) .skip)) (.seq (.region g55 [(mv 14 0),(zo 15 (.nilCheck (.s 14))),(fa 16 3 15),(ld 17 16),(mv 2 17)]) .ret))
theorem e55:aS Tryz.prog 55 g55 [] [] []=some (c55,[.slot 2],18):=by kernel_rfl
theorem dg0:(dgS 0).Ok Tryz.prog 55:=by
 refine ⟨nX e55,?_⟩
 intro x w μ vs T U
 intros
 rename_i hp _
 have:=Eb x.T
 have:=hp.ht
 omega
theorem Up {n:Nat} (ih:(shS n).Ok Tryz.prog 57):(dgS n).Ok Tryz.prog 55:=by
 refine Eng.aM.okR e55 .nil (fun _=>[(57,.m (shS n)),(19,.m R5)]) (fun _ _=>aF.m ih (aF.m Gh aF.nil)) ?_
 rintro ⟨N,T,v,F⟩ hok
 cases T with
 | node ids k =>
 have hrep:dH Dd N (.node ids k) v F:=hok.rep
 have hpre:=S9 hok.wf hok.sz hok.sh
 obtain ⟨a,m,mk,l,q,H,hnv,hlst,hmp,hmk,hpm,hrk,hav,ham,hHv,hHm,hHa,hF⟩:=hrep
 refine ⟨trivial,?_⟩
 repeat' (first|apply And.intro|exact trivial|exact rfl|exact fun (i:Nat)=>aC (by exact rfl) (N i)|exact fun (i:Nat)=>aC (by exact rfl) (N' i)|exact fun (i:Nat)=>aD (by exact rfl) (by exact rfl) (N' i)|exact fun (i:Nat)=>aD (by exact rfl) (by exact rfl) (N i)|(exact fun (h:false=true)=>Bool.noConfusion h)|(refine fun (_:false=false)=>?_)|(exact fun (h:true=false)=>Bool.noConfusion h)|(refine fun (_:true=true)=>?_)|fail)
 refine Exists.intro (noO 0 (.node a ids.length m ((ids.length+szK k:Nat):Int) mk)) (And.intro (congrArg (noO 0) hnv) ?_)
 repeat' (first|apply And.intro|exact trivial|exact rfl|exact fun (i:Nat)=>aC (by exact rfl) (N i)|exact fun (i:Nat)=>aC (by exact rfl) (N' i)|exact fun (i:Nat)=>aD (by exact rfl) (by exact rfl) (N' i)|exact fun (i:Nat)=>aD (by exact rfl) (by exact rfl) (N i)|(exact fun (h:false=true)=>Bool.noConfusion h)|(refine fun (_:false=false)=>?_)|(exact fun (h:true=false)=>Bool.noConfusion h)|(refine fun (_:true=true)=>?_)|fail)
 have hset:∀ (N2:Nat->NO) (d:B) (i:Nat),(bif Nat.beq i v then noO 0 (.node a ids.length m ((ids.length+szK k:Nat):Int) d) else noO 0 (N2 i))=noO 0 (Ff N2 v (.node a ids.length m ((ids.length+szK k:Nat):Int) d) i):=by
  intro N2 d i
  unfold Ff
  cases Nat.beq i v <;> rfl
 ·refine fun (hk0:decide (mk=[])=true)=>?_
  replace hk0:mk=[]:=of_decide_eq_true hk0
  repeat' (first|apply And.intro|exact trivial|exact rfl|exact fun (i:Nat)=>aC (by exact rfl) (N i)|exact fun (i:Nat)=>aC (by exact rfl) (N' i)|exact fun (i:Nat)=>aD (by exact rfl) (by exact rfl) (N' i)|exact fun (i:Nat)=>aD (by exact rfl) (by exact rfl) (N i)|(exact fun (h:false=true)=>Bool.noConfusion h)|(refine fun (_:false=false)=>?_)|(exact fun (h:true=false)=>Bool.noConfusion h)|(refine fun (_:true=true)=>?_)|fail)
  refine Exists.intro ⟨N,.node ids k,v,F⟩ (Exists.intro [0] ?_)
  repeat' (first|exact hok|apply And.intro|exact trivial|exact rfl|exact fun (i:Nat)=>aC (by exact rfl) (N i)|exact fun (i:Nat)=>aC (by exact rfl) (N' i)|exact fun (i:Nat)=>aD (by exact rfl) (by exact rfl) (N' i)|exact fun (i:Nat)=>aD (by exact rfl) (by exact rfl) (N i)|(exact fun (h:false=true)=>Bool.noConfusion h)|(refine fun (_:false=false)=>?_)|(exact fun (h:true=false)=>Bool.noConfusion h)|(refine fun (_:true=true)=>?_)|fail)
  refine fun (N2:Nat->NO) (hp2:DPo ⟨N,.node ids k,v,F⟩ N2)=>?_
  repeat' (first|apply And.intro|exact trivial|exact rfl|exact fun (i:Nat)=>aC (by exact rfl) (N2 i)|exact fun (i:Nat)=>aD (by exact rfl) (by exact rfl) (N2 i)|(exact fun (h:false=true)=>Bool.noConfusion h)|(refine fun (_:false=false)=>?_)|(exact fun (h:true=false)=>Bool.noConfusion h)|(refine fun (_:true=true)=>?_)|fail)
  refine Exists.intro (ndT (.node ids k)) (Exists.intro [] ?_)
  repeat' (first|exact hpre|apply And.intro|exact trivial|exact rfl|(exact fun (h:false=true)=>Bool.noConfusion h)|(refine fun (_:false=false)=>?_)|(exact fun (h:true=false)=>Bool.noConfusion h)|(refine fun (_:true=true)=>?_)|exact fun (j:Nat) (hj:j < _)=>Or.inl (aN _ _ _ _)|exact Nat.le_of_eq (Nat.zero_add _)|exact (fun (j:Nat) _=>by rw [Nat.zero_add]; exact Or.inl (aN _ _ _ _))|fail)
  refine fun (y:B) (hy:y=jZ (ndT (.node ids k)))=>?_
  subst hy
  repeat' (first|apply And.intro|exact trivial|exact rfl|(exact fun (h:false=true)=>Bool.noConfusion h)|(refine fun (_:false=false)=>?_)|(exact fun (h:true=false)=>Bool.noConfusion h)|(refine fun (_:true=true)=>?_)|exact fun (j:Nat) (hj:j < _)=>Or.inl (aN _ _ _ _)|fail)
  obtain ⟨a',m',mk',l',q',H',hnv2,hlst2,hmp2,hmk2,hpm2,hrk2,hav2,ham2,hHv2,hHm2,hHa2,hF2⟩:=hp2.rep
  refine Exists.intro (rnO [(0,0),(1,1),(2,2)] [(0,0),(1,1),(2,2)] (noO 0 (.node a' ids.length m' ((ids.length+szK k:Nat):Int) mk'))) (And.intro (congrArg (fun o=>rnO [(0,0),(1,1),(2,2)] [(0,0),(1,1),(2,2)] (noO 0 o)) hnv2) ?_)
  repeat' (first|apply And.intro|exact trivial|exact rfl|(exact fun (h:false=true)=>Bool.noConfusion h)|(refine fun (_:false=false)=>?_)|(exact fun (h:true=false)=>Bool.noConfusion h)|(refine fun (_:true=true)=>?_)|exact fun (j:Nat) (hj:j < _)=>Or.inl (aN _ _ _ _)|fail)
  refine Exists.intro _ (And.intro (qA _ _ _) ?_)
  repeat' (first|apply And.intro|exact trivial|exact rfl|(exact fun (h:false=true)=>Bool.noConfusion h)|(refine fun (_:false=false)=>?_)|(exact fun (h:true=false)=>Bool.noConfusion h)|(refine fun (_:true=true)=>?_)|exact fun (j:Nat) (hj:j < _)=>Or.inl (aN _ _ _ _)|fail)
  have hpo:DPo ⟨N,.node ids k,v,F⟩ (put N2 v (.node a' ids.length m' ((ids.length+szK k:Nat):Int) (jZ (ndT (.node ids k))))):=by
   have hMk2:=Px (mk':=jZ (ndT (.node ids k))) hnv2
   have hne:∀ x,x≠v->put N2 v (.node a' ids.length m' ((ids.length+szK k:Nat):Int) (jZ (ndT (.node ids k)))) x=N2 x:=fun x hx=>He (o:=.node a' ids.length m' ((ids.length+szK k:Nat):Int) (jZ (ndT (.node ids k)))) hx
   have hmv:m'≠v:=by
    intro e
    subst e
    rw [hmp2] at hnv2
    cases hnv2
   refine ⟨hp2.mrk.trans hMk2,fun z hz=>?_,a',m',_,l',q',H',xM _ _ _,?_,(hne _ hmv).trans hmp2,.inr rfl,hpm2,?_,hav2,ham2,hHv2,hHm2,hHa2,hF2⟩
   ·have hzv:z≠v:=fun e=>hz ((hF2 z).2 (.inl e))
    exact (hne z hzv).trans (hp2.out z hz)
   ·rw [hne _ hav2]
    exact hlst2
   ·exact fL hrk2 fun x hx=>hne x fun e=>hHv2 (e ▸ hx)
  refine Exists.intro (put N2 v (.node a' ids.length m' ((ids.length+szK k:Nat):Int) (jZ (ndT (.node ids k))))) (And.intro hpo ?_)
  repeat' (first|apply And.intro|exact trivial|exact rfl|(exact fun (h:false=true)=>Bool.noConfusion h)|(refine fun (_:false=false)=>?_)|(exact fun (h:true=false)=>Bool.noConfusion h)|(refine fun (_:true=true)=>?_)|exact fun (j:Nat) (hj:j < _)=>Or.inl (aN _ _ _ _)|exact mE (iH (by exact rfl)) (fun i=>aD (by exact rfl) (by exact rfl) (N2 i))|fail)
 ·refine fun (hk0:decide (mk=[])=false)=>?_
  replace hk0:mk≠[]:=of_decide_eq_false hk0
  have hmk':mk=lR Dd (.node ids k):=by
   rcases hmk with h|h
   ·exact absurd h hk0
   ·exact h
  repeat' (first|apply And.intro|exact trivial|exact rfl|exact fun (i:Nat)=>aC (by exact rfl) (N i)|exact fun (i:Nat)=>aC (by exact rfl) (N' i)|exact fun (i:Nat)=>aD (by exact rfl) (by exact rfl) (N' i)|exact fun (i:Nat)=>aD (by exact rfl) (by exact rfl) (N i)|(exact fun (h:false=true)=>Bool.noConfusion h)|(refine fun (_:false=false)=>?_)|(exact fun (h:true=false)=>Bool.noConfusion h)|(refine fun (_:true=true)=>?_)|fail)
  refine Exists.intro (noO 0 (.node a ids.length m ((ids.length+szK k:Nat):Int) mk)) (And.intro (congrArg (noO 0) hnv) ?_)
  repeat' (first|apply And.intro|exact trivial|exact rfl|exact fun (i:Nat)=>aC (by exact rfl) (N i)|exact fun (i:Nat)=>aC (by exact rfl) (N' i)|exact fun (i:Nat)=>aD (by exact rfl) (by exact rfl) (N' i)|exact fun (i:Nat)=>aD (by exact rfl) (by exact rfl) (N i)|(exact fun (h:false=true)=>Bool.noConfusion h)|(refine fun (_:false=false)=>?_)|(exact fun (h:true=false)=>Bool.noConfusion h)|(refine fun (_:true=true)=>?_)|fail)
  refine Exists.intro N (And.intro ⟨Mk.refl N,fun _ _=>rfl,hok.rep⟩ ?_)
  repeat' (first|exact hmk'|apply And.intro|exact trivial|exact rfl|exact fun (i:Nat)=>aC (by exact rfl) (N i)|exact fun (i:Nat)=>aC (by exact rfl) (N' i)|exact fun (i:Nat)=>aD (by exact rfl) (by exact rfl) (N' i)|exact fun (i:Nat)=>aD (by exact rfl) (by exact rfl) (N i)|(exact fun (h:false=true)=>Bool.noConfusion h)|(refine fun (_:false=false)=>?_)|(exact fun (h:true=false)=>Bool.noConfusion h)|(refine fun (_:true=true)=>?_)|fail)
theorem sh0:(shS 0).Ok Tryz.prog 57:=by
 refine ⟨nX e57,?_⟩
 intro x w μ vs T U
 intros
 rename_i hp _
 have:=Eb x.T
 have:=hp.ht
 omega
theorem both:∀ n,(dgS n).Ok Tryz.prog 55/\(shS n).Ok Tryz.prog 57
 | 0=>⟨dg0,sh0⟩
 | n+1=>⟨Up (Q7 (both n).1),Q7 (both n).1⟩
end D10
end
section
open Go Go.Eng Go.Proofs T1 T2 T3 T4 T5 T6 T7 T8 T13 T14 T17 T23 T25 T28 T30 T31 D3 D6 D9 D10
set_option maxRecDepth 100000
namespace D11
def g23:List Nat:=[4,0,2]
def c23:aH :=
 .seq (.region g23 [(zo 2 (.move (.c (.str []))))]) (.seq (.seq (.region g23 [(mv 3 0),(zo 4 (.ptrEq false (.s 3) (.c (.nilptr))))]) (.cond (.s 4) (.seq (.region g23 [(zo 2 (.move (.c (.str []))))]) .ret) .skip)) (.seq (.region g23 [(mv 5 0),(zo 6 (.nilCheck (.s 5))),(fa 7 0 6),(ld 8 7),(zo 9 (.call (.c (.fn 55)) [.s 8])),(mv 2 9)]) .ret))
theorem e23:aS Tryz.prog 23 g23 [] [] []=some (c23,[.slot 2],10):=by kernel_rfl
def Vn:aM where
 X:=DX
 Y:=Nat->NO
 args:=fun _=>.cons (.own 0 0) .nil
 pre:=fun x=>DOk (htT x.T) x
 h0:=fun x=>tH 0 1 x.v x.N
 nx0:=2
 post:=DPo
 res:=fun x _=>.str (lR Dd x.T)
 h1:=fun x y=>tH 0 1 x.v y
 nx1:=2
theorem Pt:Vn.Ok Tryz.prog 23:=by
 refine Eng.aM.okR e23 .nil (fun x=>[(55,.m (dgS (htT x.T)))]) (fun x _=>aF.m (both (htT x.T)).1 aF.nil) ?_
 rintro ⟨N,T,v,F⟩ (hok:DOk (htT T) ⟨N,T,v,F⟩)
 refine ⟨trivial,?_⟩
 repeat' (first|apply And.intro|exact trivial|exact rfl|exact fun (i:Nat)=>aC (by exact rfl) (N i)|exact fun (i:Nat)=>aD (by exact rfl) (by exact rfl) (N i)|(exact fun (h:false=true)=>Bool.noConfusion h)|(refine fun (_:false=false)=>?_)|(exact fun (h:true=false)=>Bool.noConfusion h)|(refine fun (_:true=true)=>?_)|fail)
 refine Exists.intro ⟨N,T,v,F⟩ (Exists.intro [1] ?_)
 repeat' (first|exact hok|apply And.intro|exact trivial|exact rfl|exact fun (i:Nat)=>aC (by exact rfl) (N i)|exact fun (i:Nat)=>aD (by exact rfl) (by exact rfl) (N i)|(exact fun (h:false=true)=>Bool.noConfusion h)|(refine fun (_:false=false)=>?_)|(exact fun (h:true=false)=>Bool.noConfusion h)|(refine fun (_:true=true)=>?_)|fail)
 refine fun (N2:Nat->NO) (hp2:DPo ⟨N,T,v,F⟩ N2)=>?_
 repeat' (first|apply And.intro|exact trivial|exact rfl|exact fun (i:Nat)=>aC (by exact rfl) (N2 i)|exact fun (i:Nat)=>aD (by exact rfl) (by exact rfl) (N2 i)|(exact fun (h:false=true)=>Bool.noConfusion h)|(refine fun (_:false=false)=>?_)|(exact fun (h:true=false)=>Bool.noConfusion h)|(refine fun (_:true=true)=>?_)|fail)
 refine Exists.intro N2 (And.intro hp2 ?_)
 repeat' (first|apply And.intro|exact trivial|exact rfl|exact fun (i:Nat)=>aC (by exact rfl) (N2 i)|exact fun (i:Nat)=>aD (by exact rfl) (by exact rfl) (N2 i)|(exact fun (h:false=true)=>Bool.noConfusion h)|(refine fun (_:false=false)=>?_)|(exact fun (h:true=false)=>Bool.noConfusion h)|(refine fun (_:true=true)=>?_)|fail)
theorem Hb {N:Nat->NO}:∀ (p:B) {T:TT} {v:Nat} {F:Nat->Prop} {s:TT},dH Dd N T v F->wfT T->cM p T=some s ->
  ∃ u G,atN N v p=some u/\dH Dd N s u G/\(∀ x,G x->F x)/\∀ N',dH Dd N' s u G->(∀ x,¬ G x->N' x=N x)->dH Dd N' T v F
 | [],T,v,F,s,h,_,e=>by
  cases e
  exact ⟨v,F,rfl,h,fun _ hx=>hx,fun N' h' _=>h'⟩
 | b::p,.node ids k,v,F,s,h,w,e=>by
  simp only [cM] at e
  obtain ⟨s1,hg,e2⟩:=Option.bind_eq_some_iff.1 e
  replace w:Srt ids/\Sb (aQ k)/\wfK k:=w
  obtain ⟨a,m,mk,l,q,H,hnv,hlst,hmp,hmk,hpm,hrk,hav,ham,hHv,hHm,hHa,hF⟩:=h
  obtain ⟨u1,τ,G1,hmg,hru,hG1,hup⟩:=Cc hrk hg w.2.1
  obtain ⟨u,G,hat,hrs,hGG,hre⟩:=Hb p hru (iA hg w.2.2).1 e2
  refine ⟨u,G,?_,hrs,fun x hx=>(hF x).2 (.inr (.inr (.inr (hG1 x (hGG x hx))))),fun N' h1 h2=>?_⟩
  ·have hk:rV N v b=some u1:=by rw [kG hnv hmp,hmg]; rfl
   simp only [atN,hk]
   exact hat
  ·have hr1:dH Dd N' s1 u1 G1:=hre N' h1 h2
   have hH:∀ x,¬ H x->N' x=N x:=fun x hx=>h2 x fun hg=>hx (hG1 x (hGG x hg))
   have hrk':=hup N' hr1 fun x hx=>h2 x fun hg=>hx (hGG x hg)
   exact ⟨a,m,mk,l,q,H,(hH v hHv).trans hnv,by rw [hH a hHa]; exact hlst,(hH m hHm).trans hmp,hmk,hpm,hrk',hav,ham,hHv,hHm,hHa,hF⟩
theorem yV:∀ {k:TK} {b:UInt8} {s:TT},bQ k b=some s->(b,s)∈bC k
 | .nil,_,_,h=>by cases h
 | .cons x t r,b,s,h=>by
  simp only [bQ] at h
  simp only [bC]
  by_cases e:x=b
  ·rw [if_pos e] at h; cases h; subst e; exact List.mem_cons_self
  ·rw [if_neg e] at h; exact List.mem_cons_of_mem _ (yV h)
theorem xQ:∀ (p:B) {T s:TT},cM p T=some s->wfT T->Bs T->shT T->wfT s/\Bs s/\shT s/\htT s<=htT T/\szT s<=szT T
 | [],_,_,e,w,l,h=>by cases e; exact ⟨w,l,h,Nat.le_refl _,Nat.le_refl _⟩
 | b::p,.node ids k,s,e,w,l,h=>by
  simp only [cM] at e
  obtain ⟨s1,hg,e2⟩:=Option.bind_eq_some_iff.1 e
  replace w:Srt ids/\Sb (aQ k)/\wfK k:=w
  replace h:(∀ i∈ids,i.length<=1000000)/\shK k:=h
  obtain ⟨f1,f2,f3,f4,f5⟩:=oC (yV hg) w.2.2 l
  obtain ⟨g1,g2,g3,g4,g5⟩:=xQ p e2 f1 f3 (En (yV hg) h.2)
  exact ⟨g1,g2,g3,by simp only [htT]; omega,by simp only [szT]; omega⟩
structure NX where
 x:DX
 c:Nat
 p:B
def ndO:Option TT->ND
 | none=>⟨[],[],[]⟩
 | some s=>ndT s
def g25:List Nat:=[0,1,11,6,4,5]
def c25:aH :=
 .seq (.region g25 [(zo 4 (.alloc 39 (.cons (.nilsl) (.cons (.str []) (.cons (.nilsl) .nil))))),(zo 5 (.move cF))]) (.seq (.region g25 [(mv 7 0),(mv 8 1),(zo 9 (.call (.c (.fn 56)) [.s 7,.s 8])),(mv 6 9)]) (.seq (.seq (.region g25 [(mv 10 6),(zo 11 (.ptrEq false (.s 10) (.c (.nilptr))))]) (.cond (.s 11) (.seq (.region g25 [(zo 12 (.build (.cons (.nilsl) (.cons (.str []) (.cons (.nilsl) .nil))) [])),⟨none,none,.store 3 (.s 4) (.s 12),[]⟩,(zo 5 (.move cF))]) .ret) .skip)) (.seq (.region g25 [(mv 13 6),(zo 14 (.call (.c (.fn 57)) [.s 13])),⟨none,none,.store 3 (.s 4) (.s 14),[]⟩,(zo 5 (.move cT))]) .ret)))
theorem e25:aS Tryz.prog 25 g25 [] [] []=some (c25,[.cell 4 3 true,.slot 5],15):=by kernel_rfl
def Qz:aM where
 X:=NX
 Y:=(Nat->NO)×ND×Bool
 args:=fun x=>.cons (.own 0 0) (.cons (.str x.p) .nil)
 pre:=fun x=>DOk (htT x.x.T) x.x/\Cl x.x.N x.c/\x.p.length<=1000000
 h0:=fun x=>tH 0 1 x.x.v x.x.N
 nx0:=2
 post:=fun x y=>DPo x.x y.1/\y.2.1=ndO (cM x.p x.x.T)/\y.2.2=(cM x.p x.x.T).isSome
 res:=fun _ y=>.tup (.cons (.agg (.cons (.lsl 2 1 y.2.1.ids.length) (.cons (.str y.2.1.bys) (.cons (.lsl 3 1 y.2.1.kids.length) .nil)))) (.cons (.bool y.2.2) .nil))
 h1:=fun x y=>lsH 3 y.2.1.kids::lsH 2 y.2.1.ids::tH 0 1 x.x.v y.1
 nx1:=4
theorem Pm:Qz.Ok Tryz.prog 25:=by
 refine Eng.aM.okR e25 .nil (fun x=>[(56,.m atS),(57,.m (shS (htT x.x.T)))]) (fun x _=>aF.m wM (aF.m (both (htT x.x.T)).2 aF.nil)) ?_
 rintro ⟨⟨N,T,v,F⟩,c,p⟩ ⟨(hok:DOk (htT T) ⟨N,T,v,F⟩),(hcl:Cl N c),(hp:p.length<=1000000)⟩
 have hrep:dH Dd N T v F:=hok.rep
 have hnd:isNode N v:=by
  cases T with
  | node ids k =>
  obtain ⟨a,m,mk,l,q,H,hnv,_⟩:=hrep
  exact ⟨_,_,_,_,_,hnv⟩
 have hpre:Cl N c/\isNode N v/\p.length < 4611686018427387904:=⟨hcl,hnd,by omega⟩
 refine ⟨trivial,?_⟩
 repeat' (first|apply And.intro|exact trivial|exact rfl|exact fun (i:Nat)=>aC (by exact rfl) (N i)|exact fun (i:Nat)=>aD (by exact rfl) (by exact rfl) (N i)|(exact fun (h:false=true)=>Bool.noConfusion h)|(refine fun (_:false=false)=>?_)|(exact fun (h:true=false)=>Bool.noConfusion h)|(refine fun (_:true=true)=>?_)|fail)
 refine Exists.intro (v,N,c,p) (Exists.intro [0,1] ?_)
 repeat' (first|exact hpre|apply And.intro|exact trivial|exact rfl|exact fun (i:Nat)=>aC (by exact rfl) (N i)|exact fun (i:Nat)=>aD (by exact rfl) (by exact rfl) (N i)|(exact fun (h:false=true)=>Bool.noConfusion h)|(refine fun (_:false=false)=>?_)|(exact fun (h:true=false)=>Bool.noConfusion h)|(refine fun (_:true=true)=>?_)|fail)
 refine fun (y:Option Nat) (hy:y=atN N v p)=>?_
 obtain ⟨o,ho⟩:∃ o,cM p T=o:=⟨_,rfl⟩
 cases o with
 | none =>
  have hat:atN N v p=none:=(yA p hrep hok.wf).2 ho
  obtain rfl:y=none:=hy.trans hat
  repeat' (first|apply And.intro|exact trivial|exact rfl|exact fun (i:Nat)=>aC (by exact rfl) (N i)|exact fun (i:Nat)=>aD (by exact rfl) (by exact rfl) (N i)|(exact fun (h:false=true)=>Bool.noConfusion h)|(refine fun (_:false=false)=>?_)|(exact fun (h:true=false)=>Bool.noConfusion h)|(refine fun (_:true=true)=>?_)|fail)
  have h1:(ndO (cM p T)).ids.length=0:=by rw [ho]; rfl
  have h2:(ndO (cM p T)).kids.length=0:=by rw [ho]; rfl
  have h3:(ndO (cM p T)).bys=[]:=by rw [ho]; rfl
  have h4:(cM p T).isSome=false:=by rw [ho]; rfl
  refine Exists.intro (N,ndO (cM p T),(cM p T).isSome) (And.intro ⟨⟨Mk.refl N,fun _ _=>rfl,hok.rep⟩,rfl,rfl⟩ ?_)
  repeat' (first|exact h1|exact h1.symm|exact h2|exact h2.symm|exact h3|exact h3.symm|exact h4|exact h4.symm|apply And.intro|exact trivial|exact rfl|exact fun (i:Nat)=>aC (by exact rfl) (N i)|exact fun (i:Nat)=>aD (by exact rfl) (by exact rfl) (N i)|(exact fun (h:false=true)=>Bool.noConfusion h)|(refine fun (_:false=false)=>?_)|(exact fun (h:true=false)=>Bool.noConfusion h)|(refine fun (_:true=true)=>?_)|fail)
 | some s =>
  obtain ⟨u,G,hat,hrs,hGF,hre⟩:=Hb p hrep hok.wf ho
  obtain rfl:y=some u:=hy.trans hat
  obtain ⟨f1,f2,f3,f4,f5⟩:=xQ p ho hok.wf hok.low hok.sh
  have hks:DOk (htT T) ⟨N,s,u,G⟩:=⟨hrs,f1,show szT s<=12 from Nat.le_trans f5 hok.sz,hok.tk,f2,f4,f3⟩
  have h1:(ndO (cM p T)).ids=(ndT s).ids:=by rw [ho]; rfl
  have h2:(ndO (cM p T)).kids=(ndT s).kids:=by rw [ho]; rfl
  have h3:(ndO (cM p T)).bys=(ndT s).bys:=by rw [ho]; rfl
  have h4:(cM p T).isSome=true:=by rw [ho]; rfl
  have h5:(ndO (cM p T)).ids.length=(ndT s).ids.length:=by rw [h1]
  have h6:(ndO (cM p T)).kids.length=(ndT s).kids.length:=by rw [h2]
  repeat' (first|apply And.intro|exact trivial|exact rfl|exact fun (i:Nat)=>aC (by exact rfl) (N i)|exact fun (i:Nat)=>aD (by exact rfl) (by exact rfl) (N i)|(exact fun (h:false=true)=>Bool.noConfusion h)|(refine fun (_:false=false)=>?_)|(exact fun (h:true=false)=>Bool.noConfusion h)|(refine fun (_:true=true)=>?_)|fail)
  refine Exists.intro ⟨N,s,u,G⟩ (Exists.intro [1] ?_)
  repeat' (first|exact hks|apply And.intro|exact trivial|exact rfl|exact fun (i:Nat)=>aC (by exact rfl) (N i)|exact fun (i:Nat)=>aD (by exact rfl) (by exact rfl) (N i)|(exact fun (h:false=true)=>Bool.noConfusion h)|(refine fun (_:false=false)=>?_)|(exact fun (h:true=false)=>Bool.noConfusion h)|(refine fun (_:true=true)=>?_)|fail)
  refine fun (N2:Nat->NO) (hp2:DPo ⟨N,s,u,G⟩ N2)=>?_
  repeat' (first|apply And.intro|exact trivial|exact rfl|exact fun (i:Nat)=>aC (by exact rfl) (N2 i)|exact fun (i:Nat)=>aD (by exact rfl) (by exact rfl) (N2 i)|(exact fun (h:false=true)=>Bool.noConfusion h)|(refine fun (_:false=false)=>?_)|(exact fun (h:true=false)=>Bool.noConfusion h)|(refine fun (_:true=true)=>?_)|exact fun (j:Nat) (hj:j < _)=>Or.inl (aN _ _ _ _)|fail)
  have hpo:DPo ⟨N,T,v,F⟩ N2:=⟨hp2.mrk,fun z hz=>hp2.out z fun h=>hz (hGF z h),hre N2 hp2.rep hp2.out⟩
  refine Exists.intro (N2,ndO (cM p T),(cM p T).isSome) (And.intro ⟨hpo,rfl,rfl⟩ ?_)
  repeat' (first|exact h5|exact h5.symm|exact h6|exact h6.symm|exact h3|exact h3.symm|exact h4|exact h4.symm|apply And.intro|exact trivial|exact rfl|exact fun (i:Nat)=>aC (by exact rfl) (N2 i)|exact fun (i:Nat)=>aD (by exact rfl) (by exact rfl) (N2 i)|(exact fun (h:false=true)=>Bool.noConfusion h)|(refine fun (_:false=false)=>?_)|(exact fun (h:true=false)=>Bool.noConfusion h)|(refine fun (_:true=true)=>?_)|exact Af h1.symm|exact Af h2.symm|fail)
end D11
end
section
open Go Go.Eng Go.Proofs L1 L2 L3 L4 L5 L6 L8 L9 T1 T2 T3 T4 T5 T6 T7 T8 T9 T10 T11 T12 T13 T14 T17 T18 T19 T23 T25 T28 T30 T31 D3 D6 D9 D10 D11
set_option maxRecDepth 100000
namespace D12
theorem xB {N N':Nat->NO} (h:Mk N N') {i:Nat} (hn:isNode N i):isNode N' i:=by
 obtain ⟨a,n,m,sz,mk,e⟩:=hn
 rcases h i with f|⟨_,_,_,_,_,_,_,f⟩
 ·exact ⟨_,_,_,_,_,f.trans e⟩
 ·exact ⟨_,_,_,_,_,f⟩
theorem oH {N N':Nat->NO} (h:Mk N N') {i a n m:Nat} {sz:Int} {mk:B} (e:N' i=.node a n m sz mk):∃ mk',N i=.node a n m sz mk':=by
 rcases h i with f|⟨_,_,_,_,_,_,e2,f⟩
 ·exact ⟨_,f.symm.trans e⟩
 ·rw [f] at e; cases e; exact ⟨_,e2⟩
theorem qS {N N':Nat->NO} (h:Mk N N') {i:Nat} {o:NO} (hi:N i=o) (ho:∀ a n m sz mk,o≠.node a n m sz mk):N' i=o:=by
 rcases h i with f|⟨_,_,_,_,_,_,e2,f⟩
 ·exact f.trans hi
 ·exact absurd (hi.symm.trans e2) (ho _ _ _ _ _)
theorem Iz {N N':Nat->NO} (h:Mk N N') {i:Nat} {o:NO} (hi:N' i=o) (ho:∀ a n m sz mk,o≠.node a n m sz mk):N i=o:=by
 rcases h i with f|⟨_,_,_,_,_,_,e2,f⟩
 ·exact f.symm.trans hi
 ·exact absurd (hi.symm.trans f) (ho _ _ _ _ _)
theorem Vf {N N':Nat->NO} {c:Nat} (h:Mk N N') (k:Cl N c):Cl N' c:=by
 refine ⟨fun i hi=>?_,fun i a n m sz mk e=>?_,fun i l q e x hx=>?_,fun i a n m sz mk e=>?_,fun i a n m sz mk e=>?_,fun i j a n m sz mk n' m' sz' mk' e e'=>?_,h.tk k.tick⟩
 ·exact qS h (k.free i hi) fun _ _ _ _ _ e=>by cases e
 ·obtain ⟨mk',e1⟩:=oH h e
  obtain ⟨l,q,e2⟩:=k.kids _ _ _ _ _ _ e1
  exact ⟨l,q,qS h e2 fun _ _ _ _ _ e=>by cases e⟩
 ·have e1:=Iz h e fun _ _ _ _ _ e=>by cases e
  obtain ⟨h1,h2⟩:=k.ent i l q e1 x hx
  exact ⟨h1,xB h h2⟩
 ·obtain ⟨mk',e1⟩:=oH h e
  rcases k.lst _ _ _ _ _ _ e1 with ⟨h1,h2⟩|⟨A,h1,h2⟩
  ·exact .inl ⟨qS h h1 (fun _ _ _ _ _ e=>by cases e),h2⟩
  ·exact .inr ⟨A,qS h h1 (fun _ _ _ _ _ e=>by cases e),h2⟩
 ·obtain ⟨mk',e1⟩:=oH h e
  exact k.lim _ _ _ _ _ _ e1
 ·obtain ⟨mk1,e1⟩:=oH h e
  obtain ⟨mk2,e2⟩:=oH h e'
  exact k.own _ _ _ _ _ _ _ _ _ _ _ e1 e2
theorem Vg {N N':Nat->NO} {c r:Nat} {K:Int} (h:Mk N N') (k:T8.Ok ⟨N,c,r⟩ K):T8.Ok ⟨N',c,r⟩ K:=by
 refine ⟨Vf h k.cl,xB h k.nd,fun i a n m sz mk e=>?_⟩
 obtain ⟨mk',e1⟩:=oH h e
 exact k.bd _ _ _ _ _ _ e1
theorem _root_.T18.Tr.mark {T:TT} {N N2:Nat->NO} {c r:Nat} {K:Int} {F:Nat->Prop} (h:Tr Dd T N c r K) (hF:∀ z,F z->z < c) (hp:DPo ⟨N,T,r,F⟩ N2):Tr Dd T N2 c r K :=
 ⟨⟨F,hp.rep,hF⟩,Vg hp.mrk h.ok,h.wf,h.val,h.sz⟩
mutual
theorem lK:∀ {T:TT},0 < szT T->wfT T->∃ t i,dJ t i T
 | .node ids k,h,w=>by
  cases ids with
  | cons i r=>exact ⟨[],i,_,rfl,List.mem_cons_self⟩
  | nil =>
   simp only [szT,List.length_nil,Nat.zero_add] at h
   simp only [wfT] at w
   obtain ⟨b,s,t,i,hg,hm⟩:=Jd h w.2.2
   obtain ⟨u,h1,h2⟩:=hm
   exact ⟨b::t,i,u,by simp only [cM,hg,Option.bind_some,h1],h2⟩
theorem Jd:∀ {k:TK},0 < szK k->wfK k->∃ b s t i,bQ k b=some s/\dJ t i s
 | .nil,h,_=>absurd h (Nat.lt_irrefl _)
 | .cons b s r,_,w=>by
  simp only [wfK] at w
  obtain ⟨t,i,hm⟩:=lK w.2.1 w.1
  exact ⟨b,s,t,i,by simp only [bQ,if_pos],hm⟩
end
def Jr (n:Nat) (t i:B):Prop:=(∀ b∈t,b.toNat < 128)/\t.length<=n/\i.length<=1000000
theorem Pe {ids:List B} {k:TK} {b:UInt8} {s:TT} {t i:B} (hs:Sb (aQ k)) (h:(b,s)∈bC k) (hm:dJ t i s):dJ (b::t) i (.node ids k):=by
 obtain ⟨u,h1,h2⟩:=hm
 exact ⟨u,by simp only [cM,qK hs h,Option.bind_some,h1],h2⟩
mutual
theorem A4:∀ (T:TT) (n:Nat),wfT T->(∀ t i,dJ t i T->Jr n t i)->Bs T/\shT T/\htT T<=n+1
 | .node ids k,n,w,h=>by
  simp only [wfT] at w
  obtain ⟨h1,h2,h3⟩:=Kt k n w.2.2 fun b s hbs t i hm=>h _ _ (Pe w.2.1 hbs hm)
  refine ⟨h1,⟨fun i hi=>(h [] i ⟨_,rfl,hi⟩).2.2,h2⟩,?_⟩
  simp only [htT]
  omega
theorem Kt:∀ (k:TK) (n:Nat),wfK k->(∀ b s,(b,s)∈bC k->∀ t i,dJ t i s->Jr n (b::t) i)->Ew k/\shK k/\htK k<=n
 | .nil,_,_,_=>⟨trivial,trivial,Nat.zero_le _⟩
 | .cons b s r,n,w,h=>by
  simp only [wfK] at w
  obtain ⟨t,i,hm⟩:=lK w.2.1 w.1
  have h0:=h b s List.mem_cons_self t i hm
  obtain ⟨m,rfl⟩:∃ m,n=m+1:=⟨n - 1,by have:=h0.2.1; simp only [List.length_cons] at this; omega⟩
  obtain ⟨h1,h2,h3⟩:=A4 s m w.1 fun t i hm=>by
   obtain ⟨a1,a2,a3⟩:=h b s List.mem_cons_self t i hm
   exact ⟨fun x hx=>a1 x (List.mem_cons_of_mem _ hx),by simp only [List.length_cons] at a2; omega,a3⟩
  obtain ⟨h4,h5,h6⟩:=Kt r (m+1) w.2.2 fun b' s' hb=>h b' s' (List.mem_cons_of_mem _ hb)
  exact ⟨⟨h0.1 b List.mem_cons_self,h1,h4⟩,⟨h2,h5⟩,Nat.max_le.2 ⟨h3,h6⟩⟩
end
theorem Lh {t i:B} (h:iI t i=true):Jr 120 t i:=by
 unfold iI at h
 simp only [Bool.and_eq_true,decide_eq_true_eq,List.all_eq_true] at h
 obtain ⟨h1,h2,h3⟩:=h
 refine ⟨fun b hb=>?_,h2,?_⟩
 ·have:=h1 b hb
  unfold okB at this
  simp at this
  omega
 ·unfold idV fP at h3
  by_cases e:20000 < i.length
  ·rw [if_pos e] at h3
   simp at h3
  ·omega
theorem _root_.T18.Tr.facts {D:Dg} {T:TT} {N:Nat->NO} {c r:Nat} {K:Int} (h:Tr D T N c r K):Bs T/\shT T/\htT T<=121:=A4 T 120 h.wf fun t i hm=>Lh (h.val t i hm)
theorem _root_.T18.Tr.dok {T:TT} {N:Nat->NO} {c r:Nat} {K:Int} (h:Tr Dd T N c r K) (hs:szT T<=12):∃ F,DOk (htT T) ⟨N,T,r,F⟩/\∀ z,F z->z < c:=by
 obtain ⟨F,h1,h2⟩:=h.rep
 exact ⟨F,⟨h1,h.wf,hs,h.ok.cl.tick,h.facts.1,Nat.le_refl _,h.facts.2.1⟩,h2⟩
theorem _root_.T18.Tr.aok {D:Dg} {T:TT} {N:Nat->NO} {c r:Nat} {K:Int} (h:Tr D T N c r K) (hs:szT T<=12):AOk (htT T) ⟨N,T,r,[]⟩:=by
 obtain ⟨F,h1,h2⟩:=h.rep
 have:=h.facts.2.2
 exact ⟨⟨D,F,h1⟩,h.wf,hs,h.ok.cl.tick,h.facts.1,Nat.le_refl _,by simp only [List.length_nil]; omega⟩
end D12
end
section
open Go Go.Eng Go.Proofs T1 T2 T3 T4 T5 T6 T7 T8 T9 T11 T12 T13 T14 T17 T18 T19 T20 T26 D9 D10 D11 D12
set_option maxRecDepth 100000
namespace D13
def via (S:aM) {X' Y':Type} (g:X'->S.X) (pre':X'->Prop) (post':X'->Y'->Prop) (res':X'->Y'->SV) (h1':X'->Y'->List (Nat×aE)):aM :=
 { X:=X',Y:=Y',args:=fun x=>S.args (g x),pre:=pre',h0:=fun x=>S.h0 (g x),nx0:=S.nx0,post:=post',res:=res',h1:=h1',nx1:=S.nx1,fresh:=S.fresh }
theorem Nj {P:Program} {f:Nat} {S:aM} (h:S.Ok P f) {X' Y':Type} {g:X'->S.X} {pre':X'->Prop} {post':X'->Y'->Prop} {res':X'->Y'->SV} {h1':X'->Y'->List (Nat×aE)}
  (hp:∀ x,pre' x->S.pre (g x)) (hy:∀ x y,pre' x->S.post (g x) y->∃ y',post' x y'/\res' x y'=S.res (g x) y/\h1' x y'=S.h1 (g x) y):(via S g pre' post' res' h1').Ok P f:=by
 refine ⟨h.call,?_⟩
 intro x w μ vs T U hU hg hh hpr hR
 refine (h.does (g x) w μ vs T U hU hg hh (hp x hpr) hR).mono ?_
 intro e w' he
 cases e with
 | returned v =>
  obtain ⟨y,μ',h1,h2,h3,h4⟩:=he
  obtain ⟨y',k1,k2,k3⟩:=hy x y hpr h1
  refine ⟨y',μ',k1,?_,?_,h4⟩
  ·show aG _ μ' (h1' x y') S.nx1 w'
   rw [k3]
   exact h2
  ·show R (aA _ μ' (h1' x y') w') (res' x y') [v]
   rw [k2,k3]
   exact h3
 | panicked c=>exact he.elim
 | outgrown=>exact he.elim
structure PX where
 T:TT
 N:Nat->NO
 c:Nat
 r:Nat
 K:Int
 k:Ky
structure POk (x:PX):Prop where
 tr:Tr Dd x.T x.N x.c x.r x.K
 k0:0<=x.K
 k1:x.K<=1000000000000
 len:x.k.1.length < 4611686018427387904
def dcT (T:TT) (k:Ky):Int:=bif rT T k.1 k.2 then 0 else 10
def ptS:aM:=via Pr (X':=PX) (Y':=(Nat->NO)×Nat×Int) (fun x=>HX.mk true x.N x.c x.r x.k.1 x.k.2) POk
 (fun x y=>Tr Dd (gS x.T x.k) y.1 y.2.1 x.r (x.K+1000)/\y.2.2=pcT x.T x.k) (fun _ y=>.int .i64 y.2.2) (fun x y=>tH 0 1 x.r y.1)
theorem Q0:ptS.Ok Tryz.prog 15:=by
 refine Nj Mm (fun x h=>h.tr.G9 h.k1 h.len) fun x y h hy=>?_
 exact ⟨(nM ⟨true,x.N,x.c,x.r,x.k.1,x.k.2⟩ y,putc ⟨true,x.N,x.c,x.r,x.k.1,x.k.2⟩,lG ⟨true,x.N,x.c,x.r,x.k.1,x.k.2⟩),⟨h.tr.put1 h.k0 x.k hy,h.tr.code⟩,rfl,rfl⟩
def dtS:aM:=via Kk (X':=PX) (Y':=(Nat->NO)×Int) (fun x=>HX.mk false x.N x.c x.r x.k.1 x.k.2) POk
 (fun x y=>Tr Dd (iQ x.T x.k) y.1 x.c x.r (x.K+1000)/\y.2=dcT x.T x.k) (fun _ y=>.int .i64 y.2) (fun x y=>tH 0 1 x.r y.1)
theorem Qi:dtS.Ok Tryz.prog 14:=by
 refine Nj Og (fun x h=>h.tr.Kl h.k1 h.len) fun x y h hy=>?_
 refine ⟨(iD ⟨false,x.N,x.c,x.r,x.k.1,x.k.2⟩,sR ⟨false,x.N,x.c,x.r,x.k.1,x.k.2⟩),⟨h.tr.drop1 h.k0 x.k,?_⟩,rfl,rfl⟩
 show sR _=dcT _ _
 unfold sR dcT
 have e:HX.has ⟨false,x.N,x.c,x.r,x.k.1,x.k.2⟩=rT x.T x.k.1 x.k.2:=by rw [Bool.eq_iff_iff,h.tr.has,fY]
 rw [e]
end D13
end
