/- A part of the proof. -/
import Derived.Test.YtpiolkcdfgiefaaGreatDoorT31
import Derived.Test.YtpiolkcdfgiefaaGreatDoorT28
section
open Go Go.Eng Go.Proofs A0 T1 T2 T3 T4 T5 T6 T13 T14 T28 T29 T30 T31
set_option maxRecDepth 100000
namespace T32
theorem bL {k:Keep} {hp:List (Nat×aE)} (st:Nat->Option Obj) (i:Nat):dN k hp (nO st i) (nO st i):=by
 unfold nO
 cases st i with
 | none=>exact rfl
 | some o=>exact rfl
theorem aL {k:Keep} {hp:List (Nat×aE)} (st:Nat->Option Obj) (i:Nat):dN k hp (aP st i) (aP st i):=by
 unfold aP
 cases st i with
 | none=>exact rfl
 | some o=>exact rfl
def g48:List Nat:=[0,1,2,3,4]
def c48:aH :=
 .seq (.region g48 [(zo 2 (.box 61 (.s 0))),(zo 3 (.box 9 (.s 1))),(zo 4 (.move (.c (.nilfn))))]) (.seq (.region g48 [(zo 5 (.mkfn 72 [.s 2,.s 3])),(mv 4 5)]) .ret)
theorem e48:aS Tryz.prog 48 g48 [] [] []=some (c48,[.slot 4],6):=by kernel_rfl
def Ri:aM where
 X:=(Nat->NO)×Nat×B
 Y:=Unit
 args:=fun x=>.cons (.fown 0 x.2.1 0) (.cons (.str x.2.2) .nil)
 pre:=fun _=>True
 h0:=fun x=>[(0,.fam fun q=>noO 0 (x.1 q))]
 nx0:=1
 post:=fun _ _=>True
 res:=fun x _=>.fn 72 (caps x.2.1 x.2.2)
 h1:=fun x _=>[(0,.fam fun q=>noO 0 (x.1 q))]
 nx1:=1
theorem J2:Ri.Ok Tryz.prog 48:=by
 refine Eng.aM.okR e48 .nil (fun _=>[]) (fun _ _=>aF.nil) ?_
 rintro ⟨N,v,t⟩ _
 refine ⟨trivial,?_⟩
 repeat' (first|apply And.intro|exact trivial|exact rfl|exact fun (i:Nat)=>aC (by exact rfl) (N i)|(exact fun (h:false=true)=>Bool.noConfusion h)|(refine fun (_:false=false)=>?_)|(exact fun (h:true=false)=>Bool.noConfusion h)|(refine fun (_:true=true)=>?_)|fail)
 refine Exists.intro () ?_
 repeat' (first|apply And.intro|exact trivial|exact rfl|exact fun (i:Nat)=>aC (by exact rfl) (N i)|(exact fun (h:false=true)=>Bool.noConfusion h)|(refine fun (_:false=false)=>?_)|(exact fun (h:true=false)=>Bool.noConfusion h)|(refine fun (_:true=true)=>?_)|fail)
def g72:List Nat:=[0,13,15,12,5,23,14,27,29,26,1,2,7,43,44,3,8,48,28]
def c72:aH :=
 .seq (.region g72 [(zo 3 (.box 60 (.s 0)))]) (.seq (.seq (.region g72 [(ld 9 1),(zo 10 (.nilCheck (.s 9))),(fa 11 0 10),(ld 12 11),(zo 13 (.lenSl (.s 12))),(zo 14 (.move (cj 0)))]) (.block 0 (.loop 0 [15,16,17,5,18,19,20,21,22,23,24,14] (.seq (.region g72 [(zo 15 (.bin (.lss) (.s 14) (.s 13)))]) (.seq (.cond (.s 15) .skip (.exit 0)) (.seq (.block 1 (.seq (.region g72 [(zo 16 (.idxSl 1 (.s 12) (.s 14))),(ld 17 16),(mv 5 17)]) (.seq (.region g72 [(ld 18 3),(ld 19 2),(mv 20 5),(zo 21 (.build (.cons (.str []) (.cons (.str []) .nil)) [(0,1,.s 19),(1,1,.s 20)])),(zo 22 (.call (.s 18) [.s 21])),(zo 23 (.not (.s 22)))]) (.cond (.s 23) .ret .skip)))) (.region g72 [(zo 24 (.bin (.add) (.s 14) (cj 1))),(mv 14 24)]))))))) (.seq (.region g72 [(ld 25 1),(zo 26 (.call (.c (.fn 73)) [.s 25])),(zo 27 (.lenSl (.s 26))),(zo 28 (.move (cj 0)))]) (.block 2 (.loop 1 [29,30,31,7,32,33,34,35,36,37,38,39,40,41,42,43,49,28] (.seq (.region g72 [(zo 29 (.bin (.lss) (.s 28) (.s 27)))]) (.seq (.cond (.s 29) .skip (.exit 2)) (.seq (.block 3 (.seq (.region g72 [(zo 30 (.idxSl 1 (.s 26) (.s 28))),(ld 31 30),(mv 7 31)]) (.seq (.join 2 [32,33,34,35,36,37,38,39,40,41,42,43] (.drawn g72 (.pure 0 (ld 32 1) (.pure 1 (zo 33 (.nilCheck (.s 32))) (.pure 2 (fa 34 1 33) (.pure 4 (mv 36 7) (.pure 6 (ld 38 2) (.pure 7 (mv 39 7) (.pure 8 (zo 40 (.cnv (.i32) (.s 39))) (.pure 9 (zo 41 (.runeS (.s 40))) (.pure 10 (zo 42 (.bin (.add) (.s 38) (.s 41))) (.eff 3 (ld 35 34) [(ld 38 2)] (.eff 5 (zo 37 (.mlook (.nilptr) false (.i (.u8)) (.s 35) (.s 36))) [(ld 38 2)] (.eff 11 (zo 43 (.call (.c (.fn 48)) [.s 37,.s 42])) [] .done .none) .none) .none)))))))))))) (.block 4 (.rangeY (.s 43) [44] (.region g72 [(zo 8 (.alloc 32 (.cons (.str []) (.cons (.str []) .nil)))),⟨none,none,.store 2 (.s 8) (.s 44),[]⟩]) (.block 5 (.seq (.region g72 [(ld 45 3),(zo 46 (.load 2 true (.s 8))),(zo 47 (.call (.s 45) [.s 46])),(zo 48 (.not (.s 47)))]) (.cond (.s 48) .ret .skip)))))))) (.region g72 [(zo 49 (.bin (.add) (.s 28) (cj 1))),(mv 28 49)]))))))))
theorem e72:aS Tryz.prog 72 g72 [1000000,1000001,1000002,1000003,1000004,1000005,1000006,1000007,1000008,1000009,1000010,1000011,1000012] [35,43] []=some (c72,[],50):=by kernel_rfl
theorem it0:(Hr 0).Ok Tryz.prog 72:=by
 refine ⟨nX e72,?_⟩
 intro x w μ vs T U r0 l st0 J _ _ _ _ hp
 have:=Eb x.T
 have:=hp.ht
 omega
theorem item1 {t:B} {ids:List B} {k:TK} {j:Nat} (h:j < ids.length):((dF t (.node ids k)).map mK)[j]?=some (mK (t,ids.getD j [])):=by
 simp only [dF,List.map_append,List.map_map]
 rw [List.getElem?_append_left (by simpa using h),List.getElem?_map,List.getElem?_eq_getElem h,List.getD_eq_getElem?_getD,List.getElem?_eq_getElem h]
 rfl
theorem U2 {A ids:List B} (h:A.take ids.length=ids) {j:Nat} (hj:j < ids.length):A.getD (j:Int).toNat []=ids.getD j []:=by
 rw [Int.toNat_natCast,List.getD_eq_getElem?_getD,List.getD_eq_getElem?_getD]
 congr 1
 rw [<- List.getElem?_take_of_lt hj,h]
def oM (t:B) (k:TK) (j:Nat):Nat:=(((bC k).take j).flatMap fun p=>dF (t++[p.1]) p.2).length
theorem byte_at {k:TK} {j:Nat} {b:UInt8} {s:TT} (h:(bC k)[j]?=some (b,s)):(bsI (aQ k)).getD (0+(j:Int).toNat) 0=bI b:=by
 rw [Nat.zero_add,Int.toNat_natCast,List.getD_eq_getElem?_getD]
 unfold bsI
 rw [iV,List.getElem?_map,List.getElem?_map,h]
 rfl
theorem Lj {t:B} {ids:List B} {k:TK} {j i:Nat} {b:UInt8} {s:TT} {p:B×B} (h:(bC k)[j]?=some (b,s)) (hi:(dF (t++[b]) s)[i]?=some p) :
  ((dF t (.node ids k)).map mK)[ids.length+oM t k j+i]?=some (mK p):=by
 rw [List.getElem?_map]
 have hj:j < (bC k).length:=(List.getElem?_eq_some_iff.1 h).1
 have e:(bC k)=(bC k).take j++(b,s)::(bC k).drop (j+1):=by
  have h2:(bC k)[j]=(b,s):=(List.getElem?_eq_some_iff.1 h).2
  rw [<- h2,List.getElem_cons_drop,List.take_append_drop]
 have hlt:i < (dF (t++[b]) s).length:=(List.getElem?_eq_some_iff.1 hi).1
 have key:(dF t (.node ids k))[ids.length+oM t k j+i]?=some p:=by
  simp only [dF]
  rw [uS,List.getElem?_append_right (by simp; omega)]
  rw [e,List.flatMap_append,List.flatMap_cons]
  unfold oM
  rw [List.getElem?_append_right (by simp; omega),List.getElem?_append_left (by simp; omega),<- hi]
  congr 1
  simp
  omega
 rw [key]
 rfl
theorem Mb {t:B} {k:TK} {j:Nat} {b:UInt8} {s:TT} (h:(bC k)[j]?=some (b,s)):oM t k (j+1)=oM t k j+(dF (t++[b]) s).length:=by
 unfold oM
 have hj:j < (bC k).length:=(List.getElem?_eq_some_iff.1 h).1
 have h2:(bC k)[j]=(b,s):=(List.getElem?_eq_some_iff.1 h).2
 rw [List.take_succ_eq_append_getElem hj,h2,List.flatMap_append,List.length_append]
 simp
theorem Po {t:B} {ids:List B} {k:TK}:ids.length+oM t k (bC k).length=((dF t (.node ids k)).map mK).length:=by
 unfold oM
 rw [List.take_length,<- uS]
 simp [dF]
theorem it1 {n:Nat} (ih:(Hr n).Ok Tryz.prog 72):(Hr (n+1)).Ok Tryz.prog 72:=by
 refine mX.okR e72 .nil (fun _=>[(73,.m Rq),(48,.m Ri),(72,.y (Hr n))]) (fun _ _=>aF.m Ka (aF.m J2 (aF.y ih aF.nil))) ?_
 rintro ⟨N,T,v,t⟩ ⟨⟨D,F,hrep⟩,hwf,hsz,htk,hlow,hht,hln⟩
 cases T with
 | node ids k =>
 refine ⟨trivial,?_⟩
 intro G st hG
 repeat' (first|apply And.intro|exact trivial|exact rfl|exact fun (i:Nat)=>aC (by exact rfl) (N i)|exact fun (i:Nat)=>aD (by exact rfl) (by exact rfl) (N i)|exact fun (i:Nat)=>bL _ i|exact fun (i:Nat)=>aL _ i|(exact fun (h:false=true)=>Bool.noConfusion h)|(refine fun (_:false=false)=>?_)|(exact fun (h:true=false)=>Bool.noConfusion h)|(refine fun (_:true=true)=>?_)|fail)
 replace hsz:ids.length+szK k<=12:=hsz
 replace hht:htK k+1<=n+1:=hht
 replace hln:t.length+(htK k+1)<=1000000:=hln
 replace hwf:Srt ids/\Sb (aQ k)/\wfK k:=hwf
 replace hlow:Ew k:=hlow
 replace htk:∀ i l q,N i=.map l q->Tk l q:=htk
 replace hrep:dH D N (.node ids k) v F:=hrep
 have hkl:(aQ k).length<=12:=by have:=nH hwf.2.2; rw [iV,List.length_map]; omega
 obtain ⟨a,m,mk,l,q,H,hnv,hlst,hmp,_,hpm,hrk,_⟩:=hrep
 refine Exists.intro (noO 0 (.node a ids.length m ((ids.length+szK k:Nat):Int) mk)) (And.intro (congrArg (noO 0) hnv) ?_)
 repeat' (first|apply And.intro|exact trivial|exact rfl|exact fun (i:Nat)=>aC (by exact rfl) (N i)|exact fun (i:Nat)=>aD (by exact rfl) (by exact rfl) (N i)|exact fun (i:Nat)=>bL _ i|exact fun (i:Nat)=>aL _ i|(exact fun (h:false=true)=>Bool.noConfusion h)|(refine fun (_:false=false)=>?_)|(exact fun (h:true=false)=>Bool.noConfusion h)|(refine fun (_:true=true)=>?_)|fail)
 refine ⟨⟨Nat×(Nat->Option Obj),fun x=>x.1<=ids.length/\G x.1 x.2,fun x=>[(14,.int .i64 (x.1:Int))],fun x=>[(1,.fam (nO x.2))],fun x=>ids.length - x.1⟩,(0,st),⟨Nat.zero_le _,hG⟩,?_,?_⟩
 ·repeat' (first|apply And.intro|exact trivial|exact rfl|exact fun (i:Nat)=>aC (by exact rfl) (N i)|exact fun (i:Nat)=>aD (by exact rfl) (by exact rfl) (N i)|exact fun (i:Nat)=>bL _ i|exact fun (i:Nat)=>aL _ i|(exact fun (h:false=true)=>Bool.noConfusion h)|(refine fun (_:false=false)=>?_)|(exact fun (h:true=false)=>Bool.noConfusion h)|(refine fun (_:true=true)=>?_)|fail)
 rintro ⟨j,st⟩ ⟨(hj:j<=ids.length),(hG:G j st)⟩
 repeat' (first|apply And.intro|exact trivial|exact rfl|exact fun (i:Nat)=>aC (by exact rfl) (N i)|exact fun (i:Nat)=>aD (by exact rfl) (by exact rfl) (N i)|exact fun (i:Nat)=>bL _ i|exact fun (i:Nat)=>aL _ i|(exact fun (h:false=true)=>Bool.noConfusion h)|(refine fun (_:false=false)=>?_)|(exact fun (h:true=false)=>Bool.noConfusion h)|(refine fun (_:true=true)=>?_)|fail)
 ·refine fun (hlt:decide ((j:Int) < (ids.length:Int))=true)=>?_
  replace hlt:j < ids.length:=by have:=of_decide_eq_true hlt; omega
  rcases hlst with ⟨_,h0⟩|⟨A,hA,hA0,hA1,hA2⟩
  ·rw [h0] at hlt; exact absurd hlt (Nat.not_lt_zero _)
  have g0:(0:Int)<=(j:Int):=by omega
  have g1:(j:Int) < (ids.length:Int):=by omega
  repeat' (first|apply And.intro|exact trivial|exact rfl|exact fun (i:Nat)=>aC (by exact rfl) (N i)|exact fun (i:Nat)=>aD (by exact rfl) (by exact rfl) (N i)|exact fun (i:Nat)=>bL _ i|exact fun (i:Nat)=>aL _ i|(exact fun (h:false=true)=>Bool.noConfusion h)|(refine fun (_:false=false)=>?_)|(exact fun (h:true=false)=>Bool.noConfusion h)|(refine fun (_:true=true)=>?_)|with_reducible exact g0|with_reducible exact g1|fail)
  refine Exists.intro (noO 0 (.arr A)) (And.intro (congrArg (noO 0) hA) ?_)
  repeat' (first|apply And.intro|exact trivial|exact rfl|exact fun (i:Nat)=>aC (by exact rfl) (N i)|exact fun (i:Nat)=>aD (by exact rfl) (by exact rfl) (N i)|exact fun (i:Nat)=>bL _ i|exact fun (i:Nat)=>aL _ i|(exact fun (h:false=true)=>Bool.noConfusion h)|(refine fun (_:false=false)=>?_)|(exact fun (h:true=false)=>Bool.noConfusion h)|(refine fun (_:true=true)=>?_)|with_reducible exact g0|with_reducible exact g1|fail)
  ·show (j:Int).toNat < A.length
   omega
  refine Exists.intro j (Exists.intro st (Exists.intro (mK (t,ids.getD j [])) (And.intro hG (And.intro rfl (And.intro (item1 hlt) (And.intro ?_ ?_))))))
  ·repeat' (first|apply And.intro|exact trivial|exact rfl|exact U2 hA2 hlt|fail)
  refine fun (st':Nat->Option Obj) (hG':G (j+1) st')=>?_
  have g4:j+1<=ids.length:=hlt
  have g5:ids.length - (j+1) < ids.length - j:=by omega
  have g2:-9223372036854775808<=(j:Int)+1:=by omega
  have g3:(j:Int)+1<=9223372036854775807:=by omega
  repeat' (first|apply And.intro|exact trivial|exact rfl|exact fun (i:Nat)=>aC (by exact rfl) (N i)|exact fun (i:Nat)=>aD (by exact rfl) (by exact rfl) (N i)|exact fun (i:Nat)=>bL _ i|exact fun (i:Nat)=>aL _ i|(exact fun (h:false=true)=>Bool.noConfusion h)|(refine fun (_:false=false)=>?_)|(exact fun (h:true=false)=>Bool.noConfusion h)|(refine fun (_:true=true)=>?_)|with_reducible exact g2|with_reducible exact g3|fail)
  refine Exists.intro (j+1,st') (And.intro ⟨g4,hG'⟩ (And.intro ?_ g5))
  repeat' (first|apply And.intro|exact trivial|exact rfl|exact fun (i:Nat)=>aC (by exact rfl) (N i)|exact fun (i:Nat)=>aD (by exact rfl) (by exact rfl) (N i)|exact fun (i:Nat)=>bL _ i|exact fun (i:Nat)=>aL _ i|(exact fun (h:false=true)=>Bool.noConfusion h)|(refine fun (_:false=false)=>?_)|(exact fun (h:true=false)=>Bool.noConfusion h)|(refine fun (_:true=true)=>?_)|fail)
 ·refine fun (hlt:decide ((j:Int) < (ids.length:Int))=false)=>?_
  replace hlt:j=ids.length:=by have:=of_decide_eq_false hlt; omega
  repeat' (first|apply And.intro|exact trivial|exact rfl|exact fun (i:Nat)=>aC (by exact rfl) (N i)|exact fun (i:Nat)=>aD (by exact rfl) (by exact rfl) (N i)|exact fun (i:Nat)=>bL _ i|exact fun (i:Nat)=>aL _ i|(exact fun (h:false=true)=>Bool.noConfusion h)|(refine fun (_:false=false)=>?_)|(exact fun (h:true=false)=>Bool.noConfusion h)|(refine fun (_:true=true)=>?_)|fail)
  refine Exists.intro ⟨N,v,a,ids.length,m,((ids.length+szK k:Nat):Int),mk,l,q,aQ k⟩ (Exists.intro [0] ?_)
  have hb:BOk ⟨N,v,a,ids.length,m,((ids.length+szK k:Nat):Int),mk,l,q,aQ k⟩:=⟨hnv,hmp,htk _ _ _ hmp,hpm,hwf.2.1,hkl⟩
  repeat' (first|exact hb|apply And.intro|exact trivial|exact rfl|exact fun (i:Nat)=>aC (by exact rfl) (N i)|exact fun (i:Nat)=>aD (by exact rfl) (by exact rfl) (N i)|exact fun (i:Nat)=>bL _ i|exact fun (i:Nat)=>aL _ i|(exact fun (h:false=true)=>Bool.noConfusion h)|(refine fun (_:false=false)=>?_)|(exact fun (h:true=false)=>Bool.noConfusion h)|(refine fun (_:true=true)=>?_)|fail)
  refine fun (_:Unit) (_:True)=>?_
  repeat' (first|apply And.intro|exact trivial|exact rfl|exact fun (i:Nat)=>aC (by exact rfl) (N i)|exact fun (i:Nat)=>aD (by exact rfl) (by exact rfl) (N i)|exact fun (i:Nat)=>bL _ i|exact fun (i:Nat)=>aL _ i|(exact fun (h:false=true)=>Bool.noConfusion h)|(refine fun (_:false=false)=>?_)|(exact fun (h:true=false)=>Bool.noConfusion h)|(refine fun (_:true=true)=>?_)|fail)
  subst hlt
  refine ⟨⟨Nat×(Nat->Option Obj),fun x=>x.1<=(bC k).length/\G (ids.length+oM t k x.1) x.2,fun x=>[(28,.int .i64 (x.1:Int))],fun x=>[(0,.fam fun q=>noO 0 (N q)),(1,.fam (nO x.2)),(4,.arr 5 1 (aQ k).length (lc bE 0 (bsI (aQ k))))],fun x=>(bC k).length - x.1⟩,(0,st),⟨Nat.zero_le _,hG⟩,?_,?_⟩
  ·repeat' (first|apply And.intro|exact trivial|exact rfl|exact fun (i:Nat)=>aC (by exact rfl) (N i)|exact fun (i:Nat)=>aD (by exact rfl) (by exact rfl) (N i)|exact fun (i:Nat)=>bL _ i|exact fun (i:Nat)=>aL _ i|(exact fun (h:false=true)=>Bool.noConfusion h)|(refine fun (_:false=false)=>?_)|(exact fun (h:true=false)=>Bool.noConfusion h)|(refine fun (_:true=true)=>?_)|exact cH (fun a=>aZ _ _ _ a)|exact bJ (fun a=>aZ _ _ _ a)|fail)
  rintro ⟨j,st⟩ ⟨(hj:j<=(bC k).length),(hG:G (ids.length+oM t k j) st)⟩
  repeat' (first|apply And.intro|exact trivial|exact rfl|exact fun (i:Nat)=>aC (by exact rfl) (N i)|exact fun (i:Nat)=>aD (by exact rfl) (by exact rfl) (N i)|exact fun (i:Nat)=>bL _ i|exact fun (i:Nat)=>aL _ i|(exact fun (h:false=true)=>Bool.noConfusion h)|(refine fun (_:false=false)=>?_)|(exact fun (h:true=false)=>Bool.noConfusion h)|(refine fun (_:true=true)=>?_)|exact cH (fun a=>aZ _ _ _ a)|exact bJ (fun a=>aZ _ _ _ a)|fail)
  ·refine fun (hlt:decide ((j:Int) < ((aQ k).length:Int))=true)=>?_
   have hbl:(aQ k).length=(bC k).length:=by rw [iV,List.length_map]
   replace hlt:j < (bC k).length:=by have:=of_decide_eq_true hlt; omega
   obtain ⟨b,s,hbs⟩:∃ b s,(bC k)[j]?=some (b,s):=⟨_,_,List.getElem?_eq_getElem hlt⟩
   have hmem:=List.mem_of_getElem? hbs
   obtain ⟨f1,f2,f3,f4,f5⟩:=oC hmem hwf.2.2 hlow
   obtain ⟨u,τ,G1,G2,hmg,hru,_⟩:=jW hrk (qK hwf.2.1 hmem) hwf.2.1
   have hbv:(bsI (aQ k)).getD (0+(j:Int).toNat) 0=bI b:=byte_at hbs
   have g0:(0:Int)<=(j:Int):=by omega
   have g1:(j:Int) < ((aQ k).length:Int):=by omega
   have g2:0+(j:Int).toNat < (aQ k).length:=by omega
   have hbI:0<=bI b/\bI b < 128:=by unfold bI; omega
   have q1:-2147483648<=(bsI (aQ k)).getD (0+(j:Int).toNat) 0:=by rw [hbv]; omega
   have q2:(bsI (aQ k)).getD (0+(j:Int).toNat) 0<=2147483647:=by rw [hbv]; omega
   have q3:0<=(bsI (aQ k)).getD (0+(j:Int).toNat) 0:=by rw [hbv]; omega
   have q4:(bsI (aQ k)).getD (0+(j:Int).toNat) 0 < 128:=by rw [hbv]; omega
   have q5:t.length+1<=9223372036854775807:=by omega
   have ht':t++[UInt8.ofNat ((bsI (aQ k)).getD (0+(j:Int).toNat) 0).toNat]=t++[b]:=by rw [hbv]; unfold bI; rw [Int.toNat_natCast,UInt8.ofNat_toNat]
   have hmg':mget l (.i .u8 ((bsI (aQ k)).getD (0+(j:Int).toNat) 0))=some (u,τ):=by rw [hbv]; exact hmg
   repeat' (first|apply And.intro|exact trivial|exact rfl|exact fun (i:Nat)=>aC (by exact rfl) (N i)|exact fun (i:Nat)=>aD (by exact rfl) (by exact rfl) (N i)|exact fun (i:Nat)=>bL _ i|exact fun (i:Nat)=>aL _ i|(exact fun (h:false=true)=>Bool.noConfusion h)|(refine fun (_:false=false)=>?_)|(exact fun (h:true=false)=>Bool.noConfusion h)|(refine fun (_:true=true)=>?_)|with_reducible exact g0|with_reducible exact g1|with_reducible exact g2|fail)
   refine ⟨⟨Unit,fun _=>True,fun _=>[(43,.fn 72 (caps u (t++[b])))],fun _=>[(0,.fam fun q=>noO 0 (N q))],fun _=>0⟩,?_,?_⟩
   ·repeat' (first|apply And.intro|exact trivial|exact rfl|exact fun (i:Nat)=>aC (by exact rfl) (N i)|exact fun (i:Nat)=>aD (by exact rfl) (by exact rfl) (N i)|exact fun (i:Nat)=>bL _ i|exact fun (i:Nat)=>aL _ i|(exact fun (h:false=true)=>Bool.noConfusion h)|(refine fun (_:false=false)=>?_)|(exact fun (h:true=false)=>Bool.noConfusion h)|(refine fun (_:true=true)=>?_)|fail)
    ·exact q1
    ·exact q2
    ·exact q3
    ·exact q4
    ·exact q5
    refine Exists.intro (noO 0 (.node a ids.length m ((ids.length+szK k:Nat):Int) mk)) (And.intro (congrArg (noO 0) hnv) ?_)
    repeat' (first|apply And.intro|exact trivial|exact rfl|exact fun (i:Nat)=>aC (by exact rfl) (N i)|exact fun (i:Nat)=>aD (by exact rfl) (by exact rfl) (N i)|exact fun (i:Nat)=>bL _ i|exact fun (i:Nat)=>aL _ i|(exact fun (h:false=true)=>Bool.noConfusion h)|(refine fun (_:false=false)=>?_)|(exact fun (h:true=false)=>Bool.noConfusion h)|(refine fun (_:true=true)=>?_)|fail)
    refine Exists.intro (noO 0 (.map l q)) (And.intro (congrArg (noO 0) hmp) ?_)
    refine iB.tQ hmg' ?_
    repeat' (first|apply And.intro|exact trivial|exact rfl|exact fun (i:Nat)=>aC (by exact rfl) (N i)|exact fun (i:Nat)=>aD (by exact rfl) (by exact rfl) (N i)|exact fun (i:Nat)=>bL _ i|exact fun (i:Nat)=>aL _ i|(exact fun (h:false=true)=>Bool.noConfusion h)|(refine fun (_:false=false)=>?_)|(exact fun (h:true=false)=>Bool.noConfusion h)|(refine fun (_:true=true)=>?_)|fail)
    refine Exists.intro (N,u,t++[b]) (Exists.intro [0] ?_)
    repeat' (first|apply And.intro|exact trivial|exact rfl|exact fun (i:Nat)=>aC (by exact rfl) (N i)|exact fun (i:Nat)=>aD (by exact rfl) (by exact rfl) (N i)|exact fun (i:Nat)=>bL _ i|exact fun (i:Nat)=>aL _ i|(exact fun (h:false=true)=>Bool.noConfusion h)|(refine fun (_:false=false)=>?_)|(exact fun (h:true=false)=>Bool.noConfusion h)|(refine fun (_:true=true)=>?_)|exact ht'|fail)
    refine fun (_:Unit) (_:True)=>?_
    repeat' (first|apply And.intro|exact trivial|exact rfl|exact fun (i:Nat)=>aC (by exact rfl) (N i)|exact fun (i:Nat)=>aD (by exact rfl) (by exact rfl) (N i)|exact fun (i:Nat)=>bL _ i|exact fun (i:Nat)=>aL _ i|(exact fun (h:false=true)=>Bool.noConfusion h)|(refine fun (_:false=false)=>?_)|(exact fun (h:true=false)=>Bool.noConfusion h)|(refine fun (_:true=true)=>?_)|fail)
    refine Exists.intro () ?_
    repeat' (first|apply And.intro|exact trivial|exact rfl|exact fun (i:Nat)=>aC (by exact rfl) (N i)|exact fun (i:Nat)=>aD (by exact rfl) (by exact rfl) (N i)|exact fun (i:Nat)=>bL _ i|exact fun (i:Nat)=>aL _ i|(exact fun (h:false=true)=>Bool.noConfusion h)|(refine fun (_:false=false)=>?_)|(exact fun (h:true=false)=>Bool.noConfusion h)|(refine fun (_:true=true)=>?_)|exact cH (fun a=>aZ _ _ _ a)|exact bJ (fun a=>aZ _ _ _ a)|fail)
   refine fun (_:Unit) (_:True)=>?_
   repeat' (first|apply And.intro|exact trivial|exact rfl|exact fun (i:Nat)=>aC (by exact rfl) (N i)|exact fun (i:Nat)=>aD (by exact rfl) (by exact rfl) (N i)|exact fun (i:Nat)=>bL _ i|exact fun (i:Nat)=>aL _ i|(exact fun (h:false=true)=>Bool.noConfusion h)|(refine fun (_:false=false)=>?_)|(exact fun (h:true=false)=>Bool.noConfusion h)|(refine fun (_:true=true)=>?_)|fail)
   refine Exists.intro ⟨N,s,u,t++[b]⟩ (Exists.intro ⟨Nat->Option Obj,fun i st=>G (ids.length+oM t k j+i) st,fun st=>[(1,.fam (nO st)),(2,.hid 0 0),(3,.cells 60 (.cons (.yield 2) .nil)),(4,.arr 5 1 (aQ k).length (lc bE 0 (bsI (aQ k))))],6⟩ ?_)
   repeat' (first|apply And.intro|exact trivial|exact rfl|exact fun (i:Nat)=>aC (by exact rfl) (N i)|exact fun (i:Nat)=>aD (by exact rfl) (by exact rfl) (N i)|exact fun (i:Nat)=>bL _ i|exact fun (i:Nat)=>aL _ i|(exact fun (h:false=true)=>Bool.noConfusion h)|(refine fun (_:false=false)=>?_)|(exact fun (h:true=false)=>Bool.noConfusion h)|(refine fun (_:true=true)=>?_)|fail)
   ·exact ⟨⟨D,G1,hru⟩,f1,show szT s<=12 by omega,htk,f3,show htT s<=n by omega,show (t++[b]).length+htT s<=1000000 by simp only [List.length_append,List.length_cons,List.length_nil]; omega⟩
   ·exact yU N
   ·exact fun _ _=>yU N
   ·exact fun _=>rfl
   ·refine fun (g:Nat->Option Obj)=>Exists.intro st (And.intro hG ?_)
    repeat' (first|apply And.intro|exact trivial|exact rfl|exact fun (i:Nat)=>aC (by exact rfl) (N i)|exact fun (i:Nat)=>aD (by exact rfl) (by exact rfl) (N i)|exact fun (i:Nat)=>bL _ i|exact fun (i:Nat)=>aL _ i|(exact fun (h:false=true)=>Bool.noConfusion h)|(refine fun (_:false=false)=>?_)|(exact fun (h:true=false)=>Bool.noConfusion h)|(refine fun (_:true=true)=>?_)|exact cH (fun a=>aZ _ _ _ a)|exact bJ (fun a=>aZ _ _ _ a)|fail)
   ·refine fun (i:Nat) (st:Nat->Option Obj) (g:Nat->Option Obj) (item:SV) (hG:G (ids.length+oM t k j+i) st) (hit:((dF (t++[b]) s).map mK)[i]?=some item)=>?_
    rw [List.getElem?_map,Option.map_eq_some_iff] at hit
    obtain ⟨p,hp,rfl⟩:=hit
    have hit2:=Lj (ids:=ids) hbs hp
    repeat' (first|apply And.intro|exact trivial|exact rfl|exact fun (i:Nat)=>aC (by exact rfl) (N i)|exact fun (i:Nat)=>aD (by exact rfl) (by exact rfl) (N i)|exact fun (i:Nat)=>bL _ i|exact fun (i:Nat)=>aL _ i|(exact fun (h:false=true)=>Bool.noConfusion h)|(refine fun (_:false=false)=>?_)|(exact fun (h:true=false)=>Bool.noConfusion h)|(refine fun (_:true=true)=>?_)|exact cH (fun a=>aZ _ _ _ a)|exact bJ (fun a=>aZ _ _ _ a)|fail)
    refine Exists.intro (ids.length+oM t k j+i) (Exists.intro st (Exists.intro (mK p) (And.intro hG (And.intro rfl (And.intro hit2 (And.intro ?_ ?_))))))
    ·repeat' (first|apply And.intro|exact trivial|exact rfl|fail)
    refine fun (st':Nat->Option Obj) (hG':G (ids.length+oM t k j+i+1) st')=>?_
    repeat' (first|apply And.intro|exact trivial|exact rfl|exact fun (i:Nat)=>aC (by exact rfl) (N i)|exact fun (i:Nat)=>aD (by exact rfl) (by exact rfl) (N i)|exact fun (i:Nat)=>bL _ i|exact fun (i:Nat)=>aL _ i|(exact fun (h:false=true)=>Bool.noConfusion h)|(refine fun (_:false=false)=>?_)|(exact fun (h:true=false)=>Bool.noConfusion h)|(refine fun (_:true=true)=>?_)|exact cH (fun a=>aZ _ _ _ a)|exact bJ (fun a=>aZ _ _ _ a)|fail)
    refine Exists.intro st' (And.intro hG' ?_)
    repeat' (first|apply And.intro|exact trivial|exact rfl|exact fun (i:Nat)=>aC (by exact rfl) (N i)|exact fun (i:Nat)=>aD (by exact rfl) (by exact rfl) (N i)|exact fun (i:Nat)=>bL _ i|exact fun (i:Nat)=>aL _ i|(exact fun (h:false=true)=>Bool.noConfusion h)|(refine fun (_:false=false)=>?_)|(exact fun (h:true=false)=>Bool.noConfusion h)|(refine fun (_:true=true)=>?_)|exact cH (fun a=>aZ _ _ _ a)|exact bJ (fun a=>aZ _ _ _ a)|fail)
   ·refine fun (_:Unit) (st:Nat->Option Obj) (_:True) (hG:G (ids.length+oM t k j+((dF (t++[b]) s).map mK).length) st)=>?_
    repeat' (first|apply And.intro|exact trivial|exact rfl|exact fun (i:Nat)=>aC (by exact rfl) (N i)|exact fun (i:Nat)=>aD (by exact rfl) (by exact rfl) (N i)|exact fun (i:Nat)=>bL _ i|exact fun (i:Nat)=>aL _ i|(exact fun (h:false=true)=>Bool.noConfusion h)|(refine fun (_:false=false)=>?_)|(exact fun (h:true=false)=>Bool.noConfusion h)|(refine fun (_:true=true)=>?_)|exact cH (fun a=>aZ _ _ _ a)|exact bJ (fun a=>aZ _ _ _ a)|fail)
    ·show (-9223372036854775808:Int)<=(j:Int)+1
     omega
    ·show (j:Int)+1<=9223372036854775807
     have:=nH hwf.2.2
     omega
    have hG2:G (ids.length+oM t k (j+1)) st:=by
     rw [Mb hbs,<- Nat.add_assoc]
     rw [List.length_map] at hG
     exact hG
    refine Exists.intro (j+1,st) (And.intro ⟨hlt,hG2⟩ (And.intro ?_ (show (bC k).length - (j+1) < (bC k).length - j by omega)))
    repeat' (first|apply And.intro|exact trivial|exact rfl|exact fun (i:Nat)=>aC (by exact rfl) (N i)|exact fun (i:Nat)=>aD (by exact rfl) (by exact rfl) (N i)|exact fun (i:Nat)=>bL _ i|exact fun (i:Nat)=>aL _ i|(exact fun (h:false=true)=>Bool.noConfusion h)|(refine fun (_:false=false)=>?_)|(exact fun (h:true=false)=>Bool.noConfusion h)|(refine fun (_:true=true)=>?_)|exact cH (fun a=>aZ _ _ _ a)|exact bJ (fun a=>aZ _ _ _ a)|fail)
  ·refine fun (hlt:decide ((j:Int) < ((aQ k).length:Int))=false)=>?_
   have hbl:(aQ k).length=(bC k).length:=by rw [iV,List.length_map]
   replace hlt:j=(bC k).length:=by have:=of_decide_eq_false hlt; omega
   subst hlt
   repeat' (first|apply And.intro|exact trivial|exact rfl|exact fun (i:Nat)=>aC (by exact rfl) (N i)|exact fun (i:Nat)=>aD (by exact rfl) (by exact rfl) (N i)|exact fun (i:Nat)=>bL _ i|exact fun (i:Nat)=>aL _ i|(exact fun (h:false=true)=>Bool.noConfusion h)|(refine fun (_:false=false)=>?_)|(exact fun (h:true=false)=>Bool.noConfusion h)|(refine fun (_:true=true)=>?_)|exact cH (fun a=>aZ _ _ _ a)|exact bJ (fun a=>aZ _ _ _ a)|fail)
   refine Exists.intro () (Exists.intro st (And.intro trivial (And.intro (Po ▸ hG) ?_)))
   repeat' (first|apply And.intro|exact trivial|exact rfl|exact fun (i:Nat)=>aC (by exact rfl) (N i)|exact fun (i:Nat)=>aD (by exact rfl) (by exact rfl) (N i)|exact fun (i:Nat)=>bL _ i|exact fun (i:Nat)=>aL _ i|(exact fun (h:false=true)=>Bool.noConfusion h)|(refine fun (_:false=false)=>?_)|(exact fun (h:true=false)=>Bool.noConfusion h)|(refine fun (_:true=true)=>?_)|exact cH (fun a=>aZ _ _ _ a)|exact bJ (fun a=>aZ _ _ _ a)|fail)
theorem Ld:∀ n,(Hr n).Ok Tryz.prog 72
 | 0=>it0
 | n+1=>it1 (Ld n)
end T32
end
section
open Go Go.Eng Go.Proofs A0 T1 T2 T3 T4 T5 T6 T11 T13 T14 T28 T29 T30 T31 T32
set_option maxRecDepth 100000
namespace T33
def Ua:mX:={ Hr 0 with pre:=fun x=>AOk (htT x.T) x }
theorem Su:Ua.Ok Tryz.prog 72 :=
 ⟨(Ld 0).call,fun x w μ vs T U r0 l st0 J h1 h2 h3 h4 h5 h6 h7=>(Ld (htT x.T)).does x w μ vs T U r0 l st0 J h1 h2 h3 h4 h5 h6 h7⟩
def kyE (K:List Ky) (j:Nat):SV:=wC (K.getD j k0)
theorem S3 {k:Keep} {hp:List (Nat×aE)} {K:List Ky} {i n:Nat} {p:Ky} {e:Nat->SV} (h:K[i]?=some p) (he:e 0=wC p) (hn:n=i+1):∀ j,j < n->iK k (sub k hp 200) (eK i (kyE K) e j) (kyE K j):=by
 intro j hj
 subst hn
 have hx:eK i (kyE K) e j=kyE K j:=by
  unfold eK
  by_cases hji:j < i
  ·have hb:Nat.blt j i=true:=by rw [Nat.blt_eq]; exact hji
   simp only [hb,cond_true]
  ·have hb:Nat.blt j i=false:=by
    cases hb:Nat.blt j i with
    | false=>rfl
    | true=>rw [Nat.blt_eq] at hb; exact absurd hb hji
   have:j=i:=by omega
   subst this
   simp only [hb,cond_false,Nat.sub_self,he]
   unfold kyE
   rw [List.getD_eq_getElem?_getD,h]
   rfl
 rw [hx]
 exact Or.inl (aU _ _ _ _)
def g71:List Nat:=[0,1,6,7,5,2,4]
def c71:aH :=
 .seq (.region g71 [(zo 2 (.box 29 (.s 0))),(zo 4 (.move (.c (.nilsl))))]) (.seq (.seq (.region g71 [(mv 6 1)]) (.block 0 (.rangeY (.s 6) [7] (.region g71 [(zo 5 (.alloc 32 (.cons (.str []) (.cons (.str []) .nil)))),⟨none,none,.store 2 (.s 5) (.s 7),[]⟩]) (.block 1 (.region g71 [(ld 8 2),(zo 9 (.load 2 true (.s 5))),(zo 10 (.buildSl 32 2 1 (.cons (.str []) (.cons (.str []) .nil)) [(0,2,.s 9)])),(zo 11 (.app 32 2 32 (.s 8) (.s 10))),⟨none,none,.store 1 (.s 2) (.s 11),[]⟩]))))) (.seq (.region g71 [(ld 12 2),(mv 4 12)]) .ret))
theorem e71:aS Tryz.prog 71 g71 [] [] []=some (c71,[.slot 4],13):=by kernel_rfl
def Uc:aM where
 X:=AX
 Y:=Unit
 args:=fun x=>.cons .nilsl (.cons (.fn 72 (caps x.v x.t)) .nil)
 pre:=fun x=>AOk (htT x.T) x/\(dF x.t x.T).length<=1000000
 h0:=fun x=>[(0,.fam fun q=>noO 0 (x.N q))]
 nx0:=1
 post:=fun _ _=>True
 res:=fun x _=>.lsl 1 2 (dF x.t x.T).length
 h1:=fun x _=>[(0,.fam fun q=>noO 0 (x.N q)),(1,.arr 32 2 (dF x.t x.T).length (kyE (dF x.t x.T)))]
 nx1:=2
theorem Rk:Uc.Ok Tryz.prog 71:=by
 refine Eng.aM.okR e71 .nil (fun _=>[(72,.y Ua)]) (fun _ _=>aF.y Su aF.nil) ?_
 rintro ⟨N,T,v,t⟩ ⟨(hok:AOk (htT T) ⟨N,T,v,t⟩),(hlen:(dF t T).length<=1000000)⟩
 generalize hK:dF t T=K at hlen
 refine ⟨trivial,?_⟩
 repeat' (first|apply And.intro|exact trivial|exact rfl|exact fun (i:Nat)=>aC (by exact rfl) (N i)|exact fun (i:Nat)=>aD (by exact rfl) (by exact rfl) (N i)|exact fun (i:Nat)=>aL _ i|(exact fun (h:false=true)=>Bool.noConfusion h)|(refine fun (_:false=false)=>?_)|(exact fun (h:true=false)=>Bool.noConfusion h)|(refine fun (_:true=true)=>?_)|fail)
 refine Exists.intro ⟨N,T,v,t⟩ (Exists.intro ⟨Nat,fun i v=>v=i/\i<=K.length,fun v=>[(1,.cells 29 (.cons (.lsl 3 2 v) .nil)),(3,.arr 32 2 v (kyE K))],4⟩ ?_)
 repeat' (first|apply And.intro|exact trivial|exact rfl|exact fun (i:Nat)=>aC (by exact rfl) (N i)|exact fun (i:Nat)=>aD (by exact rfl) (by exact rfl) (N i)|exact fun (i:Nat)=>aL _ i|(exact fun (h:false=true)=>Bool.noConfusion h)|(refine fun (_:false=false)=>?_)|(exact fun (h:true=false)=>Bool.noConfusion h)|(refine fun (_:true=true)=>?_)|fail)
 ·exact hok
 ·exact yU N
 ·exact fun _ _=>yU N
 ·exact fun _=>rfl
 ·refine fun (g:Nat->Option Obj)=>Exists.intro 0 (And.intro ⟨rfl,Nat.zero_le _⟩ ?_)
  repeat' (first|apply And.intro|exact trivial|exact rfl|exact fun (i:Nat)=>aC (by exact rfl) (N i)|exact fun (i:Nat)=>aD (by exact rfl) (by exact rfl) (N i)|exact fun (i:Nat)=>aL _ i|(exact fun (h:false=true)=>Bool.noConfusion h)|(refine fun (_:false=false)=>?_)|(exact fun (h:true=false)=>Bool.noConfusion h)|(refine fun (_:true=true)=>?_)|exact fun (j:Nat) _=>Or.inl (aU _ _ _ _)|fail)
 ·rintro (i:Nat) (v:Nat) (g:Nat->Option Obj) (item:SV) ⟨(hvi:v=i),(hi:i<=K.length)⟩ (hit:((dF t T).map mK)[i]?=some item)
  subst hvi
  rw [hK,List.getElem?_map,Option.map_eq_some_iff] at hit
  obtain ⟨p,hp,rfl⟩:=hit
  have hlt:v < K.length:=(List.getElem?_eq_some_iff.1 hp).1
  repeat' (first|apply And.intro|exact trivial|exact rfl|exact fun (i:Nat)=>aC (by exact rfl) (N i)|exact fun (i:Nat)=>aD (by exact rfl) (by exact rfl) (N i)|exact fun (i:Nat)=>aL _ i|(exact fun (h:false=true)=>Bool.noConfusion h)|(refine fun (_:false=false)=>?_)|(exact fun (h:true=false)=>Bool.noConfusion h)|(refine fun (_:true=true)=>?_)|exact fun (j:Nat) _=>Or.inl (aU _ _ _ _)|fail)
  ·show v+1<=9223372036854775807
   omega
  ·show (v+1) * 32<=140737488355328
   omega
  refine Exists.intro (v+1) (And.intro ⟨rfl,hlt⟩ ?_)
  repeat' (first|apply And.intro|exact trivial|exact rfl|exact fun (i:Nat)=>aC (by exact rfl) (N i)|exact fun (i:Nat)=>aD (by exact rfl) (by exact rfl) (N i)|exact fun (i:Nat)=>aL _ i|(exact fun (h:false=true)=>Bool.noConfusion h)|(refine fun (_:false=false)=>?_)|(exact fun (h:true=false)=>Bool.noConfusion h)|(refine fun (_:true=true)=>?_)|exact fun (j:Nat) _=>Or.inl (aU _ _ _ _)|exact S3 hp rfl rfl|fail)
 ·rintro (_:Unit) (v:Nat) (_:True) ⟨(hv:v=((dF t T).map mK).length),_⟩
  rw [List.length_map,hK] at hv
  subst hv
  repeat' (first|apply And.intro|exact trivial|exact rfl|exact fun (i:Nat)=>aC (by exact rfl) (N i)|exact fun (i:Nat)=>aD (by exact rfl) (by exact rfl) (N i)|exact fun (i:Nat)=>aL _ i|(exact fun (h:false=true)=>Bool.noConfusion h)|(refine fun (_:false=false)=>?_)|(exact fun (h:true=false)=>Bool.noConfusion h)|(refine fun (_:true=true)=>?_)|exact fun (j:Nat) _=>Or.inl (aU _ _ _ _)|fail)
  refine Exists.intro () ?_
  repeat' (first|apply And.intro|exact trivial|exact rfl|exact fun (i:Nat)=>aC (by exact rfl) (N i)|exact fun (i:Nat)=>aD (by exact rfl) (by exact rfl) (N i)|exact fun (i:Nat)=>aL _ i|(exact fun (h:false=true)=>Bool.noConfusion h)|(refine fun (_:false=false)=>?_)|(exact fun (h:true=false)=>Bool.noConfusion h)|(refine fun (_:true=true)=>?_)|exact fun (j:Nat) _=>Or.inl (aU _ _ _ _)|fail)
  ·rw [hK]
  ·rw [hK]
  ·exact fun (j:Nat) _=>by rw [hK]; exact Or.inl (aU _ _ _ _)
def g47:List Nat:=[0,2]
def c47:aH :=
 .seq (.region g47 [(zo 2 (.move (.c (.nilsl))))]) (.seq (.region g47 [(mv 3 0),(zo 4 (.call (.c (.fn 71)) [.c (.nilsl),.s 3])),(mv 2 4)]) .ret)
theorem e47:aS Tryz.prog 47 g47 [] [] []=some (c47,[.slot 2],5):=by kernel_rfl
def Uk:aM where
 X:=AX
 Y:=Unit
 args:=fun x=>.cons (.fn 72 (caps x.v x.t)) .nil
 pre:=fun x=>AOk (htT x.T) x/\(dF x.t x.T).length<=1000000
 h0:=fun x=>[(0,.fam fun q=>noO 0 (x.N q))]
 nx0:=1
 post:=fun _ _=>True
 res:=fun x _=>.lsl 1 2 (dF x.t x.T).length
 h1:=fun x _=>[(0,.fam fun q=>noO 0 (x.N q)),(1,.arr 32 2 (dF x.t x.T).length (kyE (dF x.t x.T)))]
 nx1:=2
theorem Rv:Uk.Ok Tryz.prog 47:=by
 refine Eng.aM.okR e47 .nil (fun _=>[(71,.m Uc)]) (fun _ _=>aF.m Rk aF.nil) ?_
 rintro ⟨N,T,v,t⟩ ⟨(hok:AOk (htT T) ⟨N,T,v,t⟩),(hlen:(dF t T).length<=1000000)⟩
 refine ⟨trivial,?_⟩
 repeat' (first|apply And.intro|exact trivial|exact rfl|exact fun (i:Nat)=>aC (by exact rfl) (N i)|exact fun (i:Nat)=>aD (by exact rfl) (by exact rfl) (N i)|exact fun (i:Nat)=>aL _ i|(exact fun (h:false=true)=>Bool.noConfusion h)|(refine fun (_:false=false)=>?_)|(exact fun (h:true=false)=>Bool.noConfusion h)|(refine fun (_:true=true)=>?_)|fail)
 refine Exists.intro ⟨N,T,v,t⟩ (Exists.intro [0] ?_)
 repeat' (first|exact hok|exact hlen|apply And.intro|exact trivial|exact rfl|exact fun (i:Nat)=>aC (by exact rfl) (N i)|exact fun (i:Nat)=>aD (by exact rfl) (by exact rfl) (N i)|exact fun (i:Nat)=>aL _ i|(exact fun (h:false=true)=>Bool.noConfusion h)|(refine fun (_:false=false)=>?_)|(exact fun (h:true=false)=>Bool.noConfusion h)|(refine fun (_:true=true)=>?_)|fail)
 refine fun (_:Unit) (_:True)=>?_
 repeat' (first|apply And.intro|exact trivial|exact rfl|exact fun (i:Nat)=>aC (by exact rfl) (N i)|exact fun (i:Nat)=>aD (by exact rfl) (by exact rfl) (N i)|exact fun (i:Nat)=>aL _ i|(exact fun (h:false=true)=>Bool.noConfusion h)|(refine fun (_:false=false)=>?_)|(exact fun (h:true=false)=>Bool.noConfusion h)|(refine fun (_:true=true)=>?_)|fail)
 refine Exists.intro () ?_
 repeat' (first|apply And.intro|exact trivial|exact rfl|exact fun (i:Nat)=>aC (by exact rfl) (N i)|exact fun (i:Nat)=>aD (by exact rfl) (by exact rfl) (N i)|exact fun (i:Nat)=>aL _ i|(exact fun (h:false=true)=>Bool.noConfusion h)|(refine fun (_:false=false)=>?_)|(exact fun (h:true=false)=>Bool.noConfusion h)|(refine fun (_:true=true)=>?_)|exact fun (j:Nat) _=>Or.inl (aU _ _ _ _)|fail)
def g16:List Nat:=[4,0,2]
def c16:aH :=
 .seq (.region g16 [(zo 2 (.move (.c (.nilsl))))]) (.seq (.seq (.region g16 [(mv 3 0),(zo 4 (.ptrEq false (.s 3) (.c (.nilptr))))]) (.cond (.s 4) (.seq (.region g16 [(zo 2 (.move (.c (.nilsl))))]) .ret) .skip)) (.seq (.region g16 [(mv 5 0),(zo 6 (.nilCheck (.s 5))),(fa 7 0 6),(ld 8 7),(zo 9 (.call (.c (.fn 48)) [.s 8,.c (.str [])])),(zo 10 (.call (.c (.fn 47)) [.s 9])),(mv 2 10)]) .ret))
theorem e16:aS Tryz.prog 16 g16 [] [] []=some (c16,[.slot 2],11):=by kernel_rfl
def Qt:aM where
 X:=AX
 Y:=Unit
 args:=fun _=>.cons (.own 0 0) .nil
 pre:=fun x=>AOk (htT x.T) x/\(dF x.t x.T).length<=1000000/\x.t=[]
 h0:=fun x=>tH 0 1 x.v x.N
 nx0:=2
 post:=fun _ _=>True
 res:=fun x _=>.lsl 2 2 (dF x.t x.T).length
 h1:=fun x _=>(2,.arr 32 2 (dF x.t x.T).length (kyE (dF x.t x.T)))::tH 0 1 x.v x.N
 nx1:=3
theorem O7:Qt.Ok Tryz.prog 16:=by
 refine Eng.aM.okR e16 .nil (fun _=>[(48,.m Ri),(47,.m Uk)]) (fun _ _=>aF.m J2 (aF.m Rv aF.nil)) ?_
 rintro ⟨N,T,v,t⟩ ⟨(hok:AOk (htT T) ⟨N,T,v,t⟩),(hlen:(dF t T).length<=1000000),(ht:t=[])⟩
 subst ht
 refine ⟨trivial,?_⟩
 repeat' (first|apply And.intro|exact trivial|exact rfl|exact fun (i:Nat)=>aC (by exact rfl) (N i)|exact fun (i:Nat)=>aD (by exact rfl) (by exact rfl) (N i)|exact fun (i:Nat)=>aL _ i|(exact fun (h:false=true)=>Bool.noConfusion h)|(refine fun (_:false=false)=>?_)|(exact fun (h:true=false)=>Bool.noConfusion h)|(refine fun (_:true=true)=>?_)|fail)
 refine Exists.intro (N,v,[]) (Exists.intro [1] ?_)
 repeat' (first|apply And.intro|exact trivial|exact rfl|exact fun (i:Nat)=>aC (by exact rfl) (N i)|exact fun (i:Nat)=>aD (by exact rfl) (by exact rfl) (N i)|exact fun (i:Nat)=>aL _ i|(exact fun (h:false=true)=>Bool.noConfusion h)|(refine fun (_:false=false)=>?_)|(exact fun (h:true=false)=>Bool.noConfusion h)|(refine fun (_:true=true)=>?_)|fail)
 refine fun (_:Unit) (_:True)=>?_
 repeat' (first|apply And.intro|exact trivial|exact rfl|exact fun (i:Nat)=>aC (by exact rfl) (N i)|exact fun (i:Nat)=>aD (by exact rfl) (by exact rfl) (N i)|exact fun (i:Nat)=>aL _ i|(exact fun (h:false=true)=>Bool.noConfusion h)|(refine fun (_:false=false)=>?_)|(exact fun (h:true=false)=>Bool.noConfusion h)|(refine fun (_:true=true)=>?_)|fail)
 refine Exists.intro ⟨N,T,v,[]⟩ (Exists.intro [1] ?_)
 repeat' (first|exact hok|exact hlen|apply And.intro|exact trivial|exact rfl|exact fun (i:Nat)=>aC (by exact rfl) (N i)|exact fun (i:Nat)=>aD (by exact rfl) (by exact rfl) (N i)|exact fun (i:Nat)=>aL _ i|(exact fun (h:false=true)=>Bool.noConfusion h)|(refine fun (_:false=false)=>?_)|(exact fun (h:true=false)=>Bool.noConfusion h)|(refine fun (_:true=true)=>?_)|fail)
 refine fun (_:Unit) (_:True)=>?_
 repeat' (first|apply And.intro|exact trivial|exact rfl|exact fun (i:Nat)=>aC (by exact rfl) (N i)|exact fun (i:Nat)=>aD (by exact rfl) (by exact rfl) (N i)|exact fun (i:Nat)=>aL _ i|(exact fun (h:false=true)=>Bool.noConfusion h)|(refine fun (_:false=false)=>?_)|(exact fun (h:true=false)=>Bool.noConfusion h)|(refine fun (_:true=true)=>?_)|fail)
 refine Exists.intro () ?_
 repeat' (first|apply And.intro|exact trivial|exact rfl|exact fun (i:Nat)=>aC (by exact rfl) (N i)|exact fun (i:Nat)=>aD (by exact rfl) (by exact rfl) (N i)|exact fun (i:Nat)=>aL _ i|(exact fun (h:false=true)=>Bool.noConfusion h)|(refine fun (_:false=false)=>?_)|(exact fun (h:true=false)=>Bool.noConfusion h)|(refine fun (_:true=true)=>?_)|exact fun (j:Nat) _=>Or.inl (aU _ _ _ _)|fail)
end T33
end
section
open Go Go.Eng Go.Proofs T1 T2 T3 T7 T4 T13 T14 T23 T28 T30 T31 D1 D2 D3 D6
set_option maxRecDepth 100000
namespace D9
def Dd:Dg:=fun ids ks=>jZ ⟨ids,ks.map (·.1),ks.map (·.2)⟩
def ndT:TT->ND
 | .node ids k=>⟨ids,(uD Dd k).map (·.1),(uD Dd k).map (·.2)⟩
theorem tK:∀ T:TT,lR Dd T=jZ (ndT T)
 | .node _ _=>rfl
theorem Ax {D:Dg}:∀ k:TK,(uD D k).map (·.1)=aQ k
 | .nil=>rfl
 | .cons b t r=>by simp only [uD,List.map_cons,Ax r,aQ]
theorem nY {D:Dg}:∀ k:TK,(uD D k).map (·.2)=(bC k).map fun p=>lR D p.2
 | .nil=>rfl
 | .cons b t r=>by simp only [uD,List.map_cons,nY r,bC]
def Mk (N N':Nat->NO):Prop:=∀ x,N' x=N x\/∃ a n m sz mk mk',N x=.node a n m sz mk/\N' x=.node a n m sz mk'
theorem Mk.refl (N:Nat->NO):Mk N N:=fun _=>.inl rfl
theorem Mk.trans {A B C:Nat->NO} (h:Mk A B) (k:Mk B C):Mk A C:=by
 intro x
 rcases h x with e|⟨a,n,m,sz,mk,mk',e1,e2⟩ <;> rcases k x with f|⟨a',n',m',sz',mk1,mk1',f1,f2⟩
 ·exact .inl (f.trans e)
 ·exact .inr ⟨_,_,_,_,_,_,e ▸ f1,f2⟩
 ·exact .inr ⟨_,_,_,_,_,_,e1,f.trans e2⟩
 ·rw [e2] at f1
  cases f1
  exact .inr ⟨_,_,_,_,_,_,e1,f2⟩
theorem Mk.tk {N N':Nat->NO} (h:Mk N N') (t:∀ i l q,N i=.map l q->Tk l q):∀ i l q,N' i=.map l q->Tk l q:=by
 intro i l q e
 rcases h i with f|⟨_,_,_,_,_,_,_,f⟩
 ·exact t i l q (f ▸ e)
 ·rw [f] at e; cases e
def Ff (N:Nat->NO) (v:Nat) (o:NO):Nat->NO:=fun x=>bif Nat.beq x v then o else N x
theorem xM (N:Nat->NO) (v:Nat) (o:NO):Ff N v o v=o:=by unfold Ff; rw [Nat.beq_refl]; rfl
theorem He {N:Nat->NO} {v x:Nat} {o:NO} (h:x≠v):Ff N v o x=N x:=by
 unfold Ff
 have:Nat.beq x v=false:=by
  cases e:Nat.beq x v with
  | false=>rfl
  | true=>exact absurd (Nat.eq_of_beq_eq_true e) h
 rw [this]; rfl
theorem Px {N:Nat->NO} {v a n m:Nat} {sz:Int} {mk mk':B} (h:N v=.node a n m sz mk):Mk N (Ff N v (.node a n m sz mk')):=by
 intro x
 by_cases e:x=v
 ·subst e; exact .inr ⟨_,_,_,_,_,_,h,xM _ _ _⟩
 ·exact .inl (He e)
theorem jM:∀ {k:TK} {b:UInt8} {s:TT},bQ k b=some s->b∈aQ k
 | .nil,_,_,h=>by cases h
 | .cons x t r,b,s,h=>by
  simp only [bQ] at h
  simp only [aQ]
  by_cases e:x=b
  ·rw [e]; exact List.mem_cons_self
  ·rw [if_neg e] at h; exact List.mem_cons_of_mem _ (jM h)
theorem xL:∀ {k:TK} {b:UInt8} {s:TT},bQ k b=some s->Sb (aQ k)->fC k b s=k
 | .nil,_,_,h,_=>by cases h
 | .cons x t r,b,s,h,hs=>by
  simp only [bQ] at h
  simp only [fC]
  simp only [aQ] at hs
  have hs':=List.pairwise_cons.1 hs
  by_cases e:x=b
  ·subst e
   rw [if_pos rfl] at h
   rw [if_pos rfl]
   cases h; rfl
  ·rw [if_neg e] at h
   have hlt:=hs'.1 b (jM h)
   rw [if_neg e,if_neg (fun h'=>UInt8.lt_irrefl _ (UInt8.lt_trans hlt h'))]
   exact congrArg (TK.cons x t) (xL h hs'.2)
theorem Mp {D:Dg} {N:Nat->NO}:∀ {k:TK} {l:List (aJ×Nat×Nat)} {G G':Nat->Prop},(∀ x,G x ↔ G' x)->fE D N k l G->fE D N k l G'
 | .nil,_,_,_,e,h=>fun x hx=>h x ((e x).2 hx)
 | .cons _ _ _,_,_,_,e,h=>by
  simp only [fE] at h ⊢
  obtain ⟨u,τ,G1,G2,h1,h2,h3,h4,h5⟩:=h
  exact ⟨u,τ,G1,G2,h1,h2,h3,h4,fun x=>(e x).symm.trans (h5 x)⟩
theorem Cc {D:Dg} {N:Nat->NO} {k:TK} {l:List (aJ×Nat×Nat)} {G:Nat->Prop} {b:UInt8} {s:TT} (h:fE D N k l G) (hg:bQ k b=some s) (hs:Sb (aQ k)) :
  ∃ u τ G1,mget l (dE b)=some (u,τ)/\dH D N s u G1/\(∀ x,G1 x->G x)/\∀ N',dH D N' s u G1->(∀ x,¬ G1 x->N' x=N x)->fE D N' k l G:=by
 obtain ⟨u,τ,G1,G2,h1,h2,h3,h4,h5,_⟩:=jW h hg hs
 refine ⟨u,τ,G1,h1,h2,fun x hx=>(h4 x).2 (.inl hx),fun N' hr hf=>?_⟩
 have:=h5 N' s G1 hr h3 fun x hx=>hf x fun h'=>h3 x h' hx
 rw [xL hg hs] at this
 exact Mp (fun x=>(h4 x).symm) this
theorem uQ (n:Nat) (h:n < 18446744073709551616):(Lib.itoa (n:Int)).length<=20:=by
 rw [Lib.itoa_nonneg,Lib.decDigits_length]
 rcases Nat.eq_zero_or_pos n with rfl|h1
 ·rw [Lib.nDigits_small (by omega)]; omega
 ·have:=Lib.numDigits_eq n h1 h; split at this <;> omega
theorem qO {M:Nat} (hM:M < 18446744073709551616):∀ {l:List B},(∀ s∈l,s.length<=M)->(dR l).length<=l.length * (M+21)
 | [],_=>Nat.zero_le _
 | s::l,h=>by
  have ih:=qO hM (l:=l) fun x hx=>h x (List.mem_cons_of_mem _ hx)
  have h1:=h s List.mem_cons_self
  have h2:=uQ s.length (by omega)
  show (((s::l).map fun s=>Lib.itoa (s.length:Int)++58::s).flatten).length<=_
  rw [List.map_cons,List.flatten_cons,List.length_append,List.length_append,List.length_cons]
  replace ih:((l.map fun s=>Lib.itoa (s.length:Int)++58::s).flatten).length<=l.length * (M+21):=ih
  rw [List.length_cons,Nat.succ_mul]
  omega
theorem Ah (t:B):(Nb t).length<=16:=by
 unfold Nb
 have:=Gs (mO t (lH t) (t.length / 8+1))
 rw [List.length_append]
 have e:∀ n:Nat,((List.replicate n ([48]:B)).flatten).length=n:=fun n=>by simp
 rw [e]
 omega
theorem Gg (n:ND):(jZ n).length<=16:=by
 unfold jZ
 split
 ·exact Ah _
 ·exact Nat.zero_le _
theorem Kf (T:TT):(lR Dd T).length<=16:=by rw [tK]; exact Gg _
theorem uU {n:ND} (h:∀ s∈n.kids,s.length<=16):∀ j,∀ s∈fJ n j,s.length<=16
 | 0,_,hs=>by cases hs
 | j+1,s,hs=>by
  simp only [fJ,List.mem_append,List.mem_cons,List.not_mem_nil,or_false] at hs
  rcases hs with hs|rfl|rfl
  ·exact uU h j s hs
  ·exact Nat.le_trans (List.length_take_le 1 _) (by decide)
  ·rw [List.getD_eq_getElem?_getD]
   cases e:n.kids[j]? with
   | none=>exact Nat.zero_le _
   | some x=>exact h x (List.mem_of_getElem? e)
mutual
def shT:TT->Prop
 | .node ids k=>(∀ i∈ids,i.length<=1000000)/\shK k
def shK:TK->Prop
 | .nil=>True
 | .cons _ t r=>shT t/\shK r
end
theorem En:∀ {k:TK} {b:UInt8} {s:TT},(b,s)∈bC k->shK k->shT s
 | .nil,_,_,h,_=>by cases h
 | .cons x u r,b,s,h,l=>by
  simp only [shK] at l
  rcases List.mem_cons.1 h with e|e
  ·cases e; exact l.1
  ·exact En e l.2
structure DX where
 N:Nat->NO
 T:TT
 v:Nat
 F:Nat->Prop
structure DOk (n:Nat) (x:DX):Prop where
 rep:dH Dd x.N x.T x.v x.F
 wf:wfT x.T
 sz:szT x.T<=12
 tk:∀ i l q,x.N i=.map l q->Tk l q
 low:Bs x.T
 ht:htT x.T<=n
 sh:shT x.T
structure DPo (x:DX) (y:Nat->NO):Prop where
 mrk:Mk x.N y
 out:∀ z,¬ x.F z->y z=x.N z
 rep:dH Dd y x.T x.v x.F
theorem S9 {T:TT} (hw:wfT T) (hs:szT T<=12) (hl:shT T):((ndT T).ids.length<=100000/\(ndT T).kids.length<=100000)/\(dR (bZ (ndT T)++fJ (ndT T) (ndT T).kids.length)).length<=140737488355328:=by
 cases T with
 | node ids k =>
 replace hw:Srt ids/\Sb (aQ k)/\wfK k:=hw
 replace hs:ids.length+szK k<=12:=hs
 replace hl:(∀ i∈ids,i.length<=1000000)/\shK k:=hl
 have hkl:=nH hw.2.2
 have e2:(ndT (.node ids k)).kids=(bC k).map fun p=>lR Dd p.2:=nY k
 have e3:(ndT (.node ids k)).kids.length=(bC k).length:=by rw [e2,List.length_map]
 have e1:(ndT (.node ids k)).ids=ids:=rfl
 refine ⟨⟨by rw [e1]; omega,by rw [e3]; omega⟩,?_⟩
 refine Nat.le_trans (qO (M:=1000000) (by decide) ?_) ?_
 ·intro s hs'
  rcases List.mem_append.1 hs' with h|h
  ·simp only [D6.bZ,List.mem_cons] at h
   rcases h with rfl|rfl|h
   ·decide
   ·exact Nat.le_trans (uQ _ (by rw [e1]; omega)) (by decide)
   ·exact hl.1 s h
  ·refine Nat.le_trans (uU ?_ _ s h) (by decide)
   intro x hx
   rw [e2] at hx
   obtain ⟨p,_,rfl⟩:=List.mem_map.1 hx
   exact Kf _
 ·rw [pY,e1,e3]
  have:(2+ids.length+2 * (bC k).length) * (1000000+21)<=38 * (1000000+21):=Nat.mul_le_mul_right _ (by omega)
  omega
end D9
end
