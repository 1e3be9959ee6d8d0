/- A part of the proof. -/
import Derived.Test.YtpiolkcdfgiefaaGreatDoorEngYc
import Derived.Test.YtpiolkcdfgiefaaGreatDoorT50
section
open Go Go.Eng Go.Proofs A0 T1 T2 T3 T4 T5 T6 T13 T14 T28 T29 T30
set_option maxRecDepth 100000
namespace T31
mutual
def eJ:B->TT->List (B×B)
 | t,.node ids k=>ids.map (fun i=>(t,i))++tC t k
def tC:B->TK->List (B×B)
 | _,.nil=>[]
 | t,.cons b s r=>eJ (t++[b]) s++tC t r
end
def eB:TK->List (UInt8×TT)
 | .nil=>[]
 | .cons b s r=>(b,s)::eB r
mutual
def htT:TT->Nat
 | .node _ k=>htK k+1
def htK:TK->Nat
 | .nil=>0
 | .cons _ t r=>max (htT t) (htK r)
end
mutual
def G3:TT->Prop
 | .node _ k=>Jz k
def Jz:TK->Prop
 | .nil=>True
 | .cons b t r=>b.toNat < 128/\G3 t/\Jz r
end
theorem Av (t:B):∀ k:TK,tC t k=(eB k).flatMap fun p=>eJ (t++[p.1]) p.2
 | .nil=>rfl
 | .cons b s r=>by simp only [tC,eB,List.flatMap_cons,Av t r]
theorem oR:∀ k:TK,dF k=(eB k).map (·.1)
 | .nil=>rfl
 | .cons b s r=>by simp only [dF,eB,bL,oR r]
theorem wJ:∀ {k:TK} {b:UInt8} {s:TT},Sb (dF k)->(b,s)∈eB k->eW k b=some s
 | .nil,_,_,_,h=>by cases h
 | .cons x u r,b,s,hs,h=>by
  simp only [eW];simp only [dF] at hs;have hs':=bD.1 hs;rcases aI.1 h with e|e
  ·cases e; rw [if_pos rfl]
  ·have hb:b∈dF r:=by rw [oR]; exact bF.2 ⟨_,e,rfl⟩
   have:=hs'.1 b hb;rw [if_neg (by rintro rfl; exact eI _ this)];exact wJ hs'.2 e
theorem tW:∀ {k:TK} {b:UInt8} {s:TT},(b,s)∈eB k->wfK k->Jz k->wfT s/\b.toNat < 128/\G3 s/\htT s<=htK k/\szT s<=szK k
 | .nil,_,_,h,_,_=>by cases h
 | .cons x u r,b,s,h,w,l=>by
  simp only [wfK] at w;simp only [Jz] at l;simp only [htK,szK];rcases aI.1 h with e|e
  ·cases e; exact ⟨w.1,l.1,l.2.1,Nat.le_max_left _ _,Nat.le_add_right _ _⟩
  ·obtain ⟨h1,h2,h3,h4,h5⟩:=tW e w.2.2 l.2.2;exact ⟨h1,h2,h3,bC h4 (Nat.le_max_right _ _),bC h5 (Nat.le_add_left _ _)⟩
theorem tE:∀ {k:TK},wfK k->(eB k).length<=szK k
 | .nil,_=>aL _
 | .cons x u r,w=>by
  simp only [wfK] at w;have:=tE w.2.2;simp only [eB,aY,szK];omega
theorem X2 {E E':Env} (hμ:∀ q p,E.μ (fid 0 q)=some p->E'.μ (fid 0 q)=some p):∀ {l:List (cC×Nat×Nat)} {es:List MapEntry},jH E (fun v=>.fown 0 v 0) l es->jH E' (fun v=>.fown 0 v 0) l es:=by
 intro l;induction l with
 | nil=>intro es h; exact h
 | cons x r ih =>
  intro es h;obtain ⟨e,t,h1,h2,h3,h4,h5⟩:=h;obtain ⟨b,c,k1,k2⟩:=h3;exact ⟨e,t,h1,h2,⟨b,c,hμ _ _ k1,k2⟩,h4,ih h5⟩
theorem Ec (N:Nat->NO):rH (fun q=>noO 0 (N q)):=by
 intro E E' _ hμ q o ho c x h;have eo:=solid?_self (eT?_solid ho);have ho':eT? (noO 0 (N q))=some o:=ho;replace eo:o=noO 0 (N q):=eo;cases e:N q with
 | none=>rw [e] at ho'; cases ho'
 | node a n m sz mk =>
  rw [e] at eo;subst eo;obtain ⟨cs,rfl,hr⟩:=h;refine ⟨cs,rfl,?_⟩;obtain ⟨x1,r1,rfl,h1,x2,r2,rfl,h2,h3⟩:=hr;refine ⟨x1,_,rfl,?_,x2,_,rfl,?_,h3⟩
  ·rcases h1 with h1|⟨b,c',k1,k2⟩
   ·exact .inl h1
   ·exact .inr ⟨b,c',hμ _ _ k1,k2⟩
  ·obtain ⟨b,c',k1,k2⟩:=h2;exact ⟨b,c',hμ _ _ k1,k2⟩
 | map l q' =>
  rw [e] at eo;subst eo;obtain ⟨h0,es,h1,h2⟩:=h;exact ⟨h0,es,h1,X2 hμ h2⟩
 | arr l =>
  rw [e] at eo;subst eo;obtain ⟨cs,h1,h2,h3,h4⟩:=h;refine ⟨cs,h1,h2,h3,fun i hi=>?_⟩;obtain ⟨xs,a,b,d⟩:=h4 i hi;exact ⟨xs,a,b,d⟩
def sG (p:B×B):SV:=.cons (.agg (.cons (.str p.1) (.cons (.str p.2) .nil))) .nil
structure AX where
 N:Nat->NO
 T:TT
 v:Nat
 t:B
structure AOk (n:Nat) (x:AX):Prop where
 rep:∃ D F,iM D x.N x.T x.v F
 wf:wfT x.T
 sz:szT x.T<=24
 tk:∀ i l q,x.N i=.map l q->Tk l q
 low:G3 x.T
 ht:htT x.T<=n
 ln:x.t.length+htT x.T<=1000000
def caps (v:Nat) (t:B):SV:=.cons (.cptr (.cons (.fown 0 v 0) .nil)) (.cons (.cptr (.cons (.str t) .nil)) .nil)
def Nd (n:Nat):sR where
 X:=AX
 Y:=Unit
 args:=fun x=>caps x.v x.t
 pre:=AOk n
 F0:=fun x q=>noO 0 (x.N q)
 items:=fun x=>(eJ x.t x.T).map sG
 post:=fun _ _=>True
 F1:=fun x _ q=>noO 0 (x.N q)
theorem Jg:∀ T:TT,0 < htT T
 | .node _ k=>by simp only [htT]; omega
end T31
end
section
open Go Go.Eng Go.Proofs A0 T1 T2 T3 T4 T5 T6 T13 T14 T28 T29 T30 T31
set_option maxRecDepth 100000
namespace T32
theorem qI {k:Keep} {hp:List (Nat×aT)} (st:Nat->Option Obj) (i:Nat):iT k hp (tK st i) (tK st i):=by
 unfold tK;cases st i with
 | none=>exact rfl
 | some o=>exact rfl
theorem xF {k:Keep} {hp:List (Nat×aT)} (st:Nat->Option Obj) (i:Nat):iT k hp (cY st i) (cY st i):=by
 unfold cY;cases st i with
 | none=>exact rfl
 | some o=>exact rfl
def g48:List Nat:=[0,1,2,3,4]
def c48:bH :=
 .seq (.region g48 [(zo 2 (.box 61 (.s 0))),(zo 3 (.box 9 (.s 1))),(zo 4 (.move (.c (.nilfn))))]) (.seq (.region g48 [(zo 5 (.mkfn 72 [.s 2,.s 3])),(mv 4 5)]) .ret)
theorem e48:cR Tryz.prog 48 g48 [] [] []=some (c48,[.slot 4],6):=by kernel_rfl
def Xa:bU where
 X:=(Nat->NO)×Nat×B
 Y:=Unit
 args:=fun x=>.cons (.fown 0 x.2.1 0) (.cons (.str x.2.2) .nil)
 pre:=fun _=>True
 h0:=fun x=>[(0,.fam fun q=>noO 0 (x.1 q))]
 nx0:=1
 post:=fun _ _=>True
 res:=fun x _=>.fn 72 (caps x.2.1 x.2.2)
 h1:=fun x _=>[(0,.fam fun q=>noO 0 (x.1 q))]
 nx1:=1
theorem Pw:Xa.Ok Tryz.prog 48:=by
 refine Eng.bU.okR e48 .nil (fun _=>[]) (fun _ _=>aZ.nil) ?_;rintro ⟨N,v,t⟩ _;refine ⟨trivial,?_⟩;refine aB () ?_;repeat' (first|apply aA|exact trivial|exact rfl|exact zm N rfl|fail)
def g72:List Nat:=[0,13,15,12,5,23,14,27,29,26,1,2,7,43,44,3,8,48,28]
def c72:bH :=
 .seq (.region g72 [(zo 3 (.box 60 (.s 0)))]) (.seq (.seq (.region g72 [(ld 9 1),(zo 10 (.nilCheck (.s 9))),(fa 11 0 10),(ld 12 11),(zo 13 (.lenSl (.s 12))),(zo 14 (.move (cj 0)))]) (.block 0 (.loop 0 [15,16,17,5,18,19,20,21,22,23,24,14] (.seq (.region g72 [(zo 15 (.bin (.lss) (.s 14) (.s 13)))]) (.seq (.cond (.s 15) .skip (.exit 0)) (.seq (.block 1 (.seq (.region g72 [(zo 16 (.idxSl 1 (.s 12) (.s 14))),(ld 17 16),(mv 5 17)]) (.seq (.region g72 [(ld 18 3),(ld 19 2),(mv 20 5),(zo 21 (.build (.cons (.str []) (.cons (.str []) .nil)) [(0,1,.s 19),(1,1,.s 20)])),(zo 22 (.call (.s 18) [.s 21])),(zo 23 (.not (.s 22)))]) (.cond (.s 23) .ret .skip)))) (.region g72 [(zo 24 (.bin (.add) (.s 14) (cj 1))),(mv 14 24)]))))))) (.seq (.region g72 [(ld 25 1),(zo 26 (.call (.c (.fn 73)) [.s 25])),(zo 27 (.lenSl (.s 26))),(zo 28 (.move (cj 0)))]) (.block 2 (.loop 1 [29,30,31,7,32,33,34,35,36,37,38,39,40,41,42,43,49,28] (.seq (.region g72 [(zo 29 (.bin (.lss) (.s 28) (.s 27)))]) (.seq (.cond (.s 29) .skip (.exit 2)) (.seq (.block 3 (.seq (.region g72 [(zo 30 (.idxSl 1 (.s 26) (.s 28))),(ld 31 30),(mv 7 31)]) (.seq (.join 2 [32,33,34,35,36,37,38,39,40,41,42,43] (.drawn g72 (.pure 0 (ld 32 1) (.pure 1 (zo 33 (.nilCheck (.s 32))) (.pure 2 (fa 34 1 33) (.pure 4 (mv 36 7) (.pure 6 (ld 38 2) (.pure 7 (mv 39 7) (.pure 8 (zo 40 (.cnv (.i32) (.s 39))) (.pure 9 (zo 41 (.runeS (.s 40))) (.pure 10 (zo 42 (.bin (.add) (.s 38) (.s 41))) (.eff 3 (ld 35 34) [(ld 38 2)] (.eff 5 (zo 37 (.mlook (.nilptr) false (.i (.u8)) (.s 35) (.s 36))) [(ld 38 2)] (.eff 11 (zo 43 (.call (.c (.fn 48)) [.s 37,.s 42])) [] .done .none) .none) .none)))))))))))) (.block 4 (.rangeY (.s 43) [44] (.region g72 [(zo 8 (.alloc 32 (.cons (.str []) (.cons (.str []) .nil)))),⟨none,none,.store 2 (.s 8) (.s 44),[]⟩]) (.block 5 (.seq (.region g72 [(ld 45 3),(zo 46 (.load 2 true (.s 8))),(zo 47 (.call (.s 45) [.s 46])),(zo 48 (.not (.s 47)))]) (.cond (.s 48) .ret .skip)))))))) (.region g72 [(zo 49 (.bin (.add) (.s 28) (cj 1))),(mv 28 49)]))))))))
theorem e72:cR Tryz.prog 72 g72 [1000000,1000001,1000002,1000003,1000004,1000005,1000006,1000007,1000008,1000009,1000010,1000011,1000012] [35,43] []=some (c72,[],50):=by kernel_rfl
theorem it0:(Nd 0).Ok Tryz.prog 72:=by
 refine ⟨tR e72,?_⟩;intro x w μ vs T U r0 l st0 J _ _ _ _ hp;have:=Jg x.T;have:=hp.ht;omega
theorem item1 {t:B} {ids:List B} {k:TK} {j:Nat} (h:j < ids.length):((eJ t (.node ids k)).map sG)[j]?=some (sG (t,ids.getD j [])):=by
 simp only [eJ,eZ,List.map_map];rw [aU (by simpa using h),cE,aH h,aE,aH h];rfl
theorem aAo {A ids:List B} (h:A.take ids.length=ids) {j:Nat} (hj:j < ids.length):A.getD (j:Int).toNat []=ids.getD j []:=by
 rw [eX,aE,aE];congr 1;rw [<- cH hj,h]
def uJ (t:B) (k:TK) (j:Nat):Nat:=(((eB k).take j).flatMap fun p=>eJ (t++[p.1]) p.2).length
theorem byte_at {k:TK} {j:Nat} {b:UInt8} {s:TT} (h:(eB k)[j]?=some (b,s)):(bsI (dF k)).getD (0+(j:Int).toNat) 0=bI b:=by
 rw [aW,eX,aE];unfold bsI;rw [oR,cE,cE,h];rfl
theorem Ra {t:B} {ids:List B} {k:TK} {j i:Nat} {b:UInt8} {s:TT} {p:B×B} (h:(eB k)[j]?=some (b,s)) (hi:(eJ (t++[b]) s)[i]?=some p) :
  ((eJ t (.node ids k)).map sG)[ids.length+uJ t k j+i]?=some (sG p):=by
 rw [cE];have hj:j < (eB k).length:=(aR.1 h).1;have e:(eB k)=(eB k).take j++(b,s)::(eB k).drop (j+1):=by
  have h2:(eB k)[j]=(b,s):=(aR.1 h).2;rw [<- h2,List.getElem_cons_drop,dQ]
 have hlt:i < (eJ (t++[b]) s).length:=(aR.1 hi).1;have key:(eJ t (.node ids k))[ids.length+uJ t k j+i]?=some p:=by
  simp only [eJ];rw [Av,bG (by simp; omega)];rw [e,List.flatMap_append,List.flatMap_cons];unfold uJ;rw [bG (by simp; omega),aU (by simp; omega),<- hi];congr 1;simp;omega
 rw [key];rfl
theorem Ry {t:B} {k:TK} {j:Nat} {b:UInt8} {s:TT} (h:(eB k)[j]?=some (b,s)):uJ t k (j+1)=uJ t k j+(eJ (t++[b]) s).length:=by
 unfold uJ;have hj:j < (eB k).length:=(aR.1 h).1;have h2:(eB k)[j]=(b,s):=(aR.1 h).2;rw [iV hj,h2,List.flatMap_append,aV];simp
theorem U9 {t:B} {ids:List B} {k:TK}:ids.length+uJ t k (eB k).length=((eJ t (.node ids k)).map sG).length:=by
 unfold uJ;rw [eP,<- Av];simp [eJ]
theorem it1 {n:Nat} (ih:(Nd n).Ok Tryz.prog 72):(Nd (n+1)).Ok Tryz.prog 72:=by
 refine sR.okR e72 .nil (fun _=>[(73,.m Xk),(48,.m Xa),(72,.y (Nd n))]) (fun _ _=>aZ.m P5 (aZ.m Pw (aZ.y ih aZ.nil))) ?_;rintro ⟨N,T,v,t⟩ ⟨⟨D,F,hrep⟩,hwf,hsz,htk,hlow,hht,hln⟩;cases T with
 | node ids k =>
 refine ⟨trivial,?_⟩;intro G st hG;replace hsz:ids.length+szK k<=24:=hsz;replace hht:htK k+1<=n+1:=hht;replace hln:t.length+(htK k+1)<=1000000:=hln;replace hwf:Srt ids/\Sb (dF k)/\wfK k:=hwf;replace hlow:Jz k:=hlow;replace htk:∀ i l q,N i=.map l q->Tk l q:=htk;replace hrep:iM D N (.node ids k) v F:=hrep;have hkl:(dF k).length<=24:=by have:=tE hwf.2.2; rw [oR,cO]; omega
 obtain ⟨a,m,mk,l,q,H,hnv,hlst,hmp,_,hpm,hrk,_⟩:=hrep;refine aB (noO 0 (.node a ids.length m ((ids.length+szK k:Nat):Int) mk)) (aA (congrArg (noO 0) hnv) ?_);refine ⟨⟨Nat×(Nat->Option Obj),fun x=>x.1<=ids.length/\G x.1 x.2,fun x=>[(14,.int .i64 (x.1:Int))],fun x=>[(1,.fam (tK x.2))],fun x=>ids.length - x.1⟩,(0,st),⟨bB _,hG⟩,?_,?_⟩
 ·repeat' (first|apply aA|exact trivial|exact rfl|exact zm N rfl|exact fun (i:Nat)=>qI _ i|fail)
 rintro ⟨j,st⟩ ⟨(hj:j<=ids.length),(hG:G j st)⟩;repeat' (first|refine aA ?_ ?_)
 ·refine fun (hlt:decide ((j:Int) < (ids.length:Int))=true)=>?_;replace hlt:j < ids.length:=by have:=of_decide_eq_true hlt; omega
  rcases hlst with ⟨_,h0⟩|⟨A,hA,hA0,hA1,hA2⟩
  ·rw [h0] at hlt; exact absurd hlt (bP _)
  have g0:(0:Int)<=(j:Int):=by omega
  have g1:(j:Int) < (ids.length:Int):=by omega
  repeat' (first|apply aA|(with_reducible first|exact g0|exact g1))
  refine aB (noO 0 (.arr A)) (aA (congrArg (noO 0) hA) ?_);repeat' (first|apply aA|exact rfl)
  ·show (j:Int).toNat < A.length;omega
  refine aB j (aB st (aB (sG (t,ids.getD j [])) (aA hG (aA rfl (aA (item1 hlt) (aA ?_ ?_))))))
  ·repeat' (first|apply aA|exact trivial|exact rfl|exact aAo hA2 hlt|fail)
  refine fun (st':Nat->Option Obj) (hG':G (j+1) st')=>?_;have g4:j+1<=ids.length:=hlt;have g5:ids.length - (j+1) < ids.length - j:=by omega
  have g2:-9223372036854775808<=(j:Int)+1:=by omega
  have g3:(j:Int)+1<=9223372036854775807:=by omega
  repeat' (first|apply aA|exact zf|refine zt ?_|(with_reducible first|exact g2|exact g3))
  refine aB (j+1,st') (aA ⟨g4,hG'⟩ (aA ?_ g5));repeat' (first|apply aA|exact trivial|exact rfl|exact zm N rfl|exact fun (i:Nat)=>qI _ i|fail)
 ·refine fun (hlt:decide ((j:Int) < (ids.length:Int))=false)=>?_;replace hlt:j=ids.length:=by have:=of_decide_eq_false hlt; omega
  refine aB ⟨N,v,a,ids.length,m,((ids.length+szK k:Nat):Int),mk,l,q,dF k⟩ (aB [0] ?_);have hb:BOk ⟨N,v,a,ids.length,m,((ids.length+szK k:Nat):Int),mk,l,q,dF k⟩:=⟨hnv,hmp,htk _ _ _ hmp,hpm,hwf.2.1,hkl⟩;repeat' (first|exact hb|apply aA|exact trivial|exact rfl|exact zm N rfl|fail)
  refine fun (_:Unit) (_:True)=>?_;subst hlt;refine ⟨⟨Nat×(Nat->Option Obj),fun x=>x.1<=(eB k).length/\G (ids.length+uJ t k x.1) x.2,fun x=>[(28,.int .i64 (x.1:Int))],fun x=>[(0,.fam fun q=>noO 0 (N q)),(1,.fam (tK x.2)),(4,.arr 5 1 (dF k).length (lc bE 0 (bsI (dF k))))],fun x=>(eB k).length - x.1⟩,(0,st),⟨bB _,hG⟩,?_,?_⟩
  ·repeat' (first|apply aA|exact trivial|exact rfl|exact zr N rfl rfl|exact fun (i:Nat)=>qI _ i|exact dC (fun a=>dV _ _ _ a)|fail)
  rintro ⟨j,st⟩ ⟨(hj:j<=(eB k).length),(hG:G (ids.length+uJ t k j) st)⟩;repeat' (first|refine aA ?_ ?_)
  ·refine fun (hlt:decide ((j:Int) < ((dF k).length:Int))=true)=>?_;have hbl:(dF k).length=(eB k).length:=by rw [oR,cO]
   replace hlt:j < (eB k).length:=by have:=of_decide_eq_true hlt; omega
   obtain ⟨b,s,hbs⟩:∃ b s,(eB k)[j]?=some (b,s):=⟨_,_,aH hlt⟩;have hmem:=eV hbs;obtain ⟨f1,f2,f3,f4,f5⟩:=tW hmem hwf.2.2 hlow;obtain ⟨u,τ,G1,G2,hmg,hru,_⟩:=pW hrk (wJ hwf.2.1 hmem) hwf.2.1;have hbv:(bsI (dF k)).getD (0+(j:Int).toNat) 0=bI b:=byte_at hbs;have g0:(0:Int)<=(j:Int):=by omega
   have g1:(j:Int) < ((dF k).length:Int):=by omega
   have g2:0+(j:Int).toNat < (dF k).length:=by omega
   have hbI:0<=bI b/\bI b < 128:=by unfold bI; omega
   have q1:-2147483648<=(bsI (dF k)).getD (0+(j:Int).toNat) 0:=by rw [hbv]; omega
   have q2:(bsI (dF k)).getD (0+(j:Int).toNat) 0<=2147483647:=by rw [hbv]; omega
   have q3:0<=(bsI (dF k)).getD (0+(j:Int).toNat) 0:=by rw [hbv]; omega
   have q4:(bsI (dF k)).getD (0+(j:Int).toNat) 0 < 128:=by rw [hbv]; omega
   have q5:t.length+1<=9223372036854775807:=by omega
   have ht':t++[UInt8.ofNat ((bsI (dF k)).getD (0+(j:Int).toNat) 0).toNat]=t++[b]:=by rw [hbv]; unfold bI; rw [eX,UInt8.ofNat_toNat]
   have hmg':mget l (.i .u8 ((bsI (dF k)).getD (0+(j:Int).toNat) 0))=some (u,τ):=by rw [hbv]; exact hmg
   repeat' (first|apply aA|(with_reducible first|exact g0|exact g1|exact g2))
   refine ⟨⟨Unit,fun _=>True,fun _=>[(43,.fn 72 (caps u (t++[b])))],fun _=>[(0,.fam fun q=>noO 0 (N q))],fun _=>0⟩,?_,?_⟩
   ·repeat' (first|apply aA|exact trivial)
    ·exact q1
    ·exact q2
    ·exact q3
    ·exact q4
    ·exact q5
    refine aB (noO 0 (.node a ids.length m ((ids.length+szK k:Nat):Int) mk)) (aA (congrArg (noO 0) hnv) ?_);repeat' (first|apply aA|exact trivial|exact rfl)
    refine aB (noO 0 (.map l q)) (aA (congrArg (noO 0) hmp) ?_);refine nY.zT hmg' ?_;repeat' (first|apply aA|exact trivial|exact rfl)
    refine aB (N,u,t++[b]) (aB [0] ?_);repeat' (first|apply aA|exact trivial|exact rfl|exact zm N rfl|exact ht')
    refine fun (_:Unit) (_:True)=>?_;repeat' (first|apply aA|exact trivial)
    refine aB () ?_;repeat' (first|apply aA|exact trivial|exact rfl|exact zr N rfl rfl|exact fun (i:Nat)=>qI _ i|exact dC (fun a=>dV _ _ _ a)|fail)
   refine fun (_:Unit) (_:True)=>?_;refine aB ⟨N,s,u,t++[b]⟩ (aB ⟨Nat->Option Obj,fun i st=>G (ids.length+uJ t k j+i) st,fun st=>[(1,.fam (tK st)),(2,.hid 0 0),(3,.cells 60 (.cons (.yield 2) .nil)),(4,.arr 5 1 (dF k).length (lc bE 0 (bsI (dF k))))],6⟩ ?_);repeat' (first|apply aA|exact trivial|exact rfl)
   ·exact ⟨⟨D,G1,hru⟩,f1,show szT s<=24 by omega,htk,f3,show htT s<=n by omega,show (t++[b]).length+htT s<=1000000 by simp only [aV,aY,dA]; omega⟩
   ·exact Ec N
   ·exact fun _ _=>Ec N
   ·exact fun _=>rfl
   ·refine fun (g:Nat->Option Obj)=>aB st (aA hG ?_);repeat' (first|apply aA|exact trivial|exact rfl|exact fun (i:Nat)=>qI _ i|exact fun (i:Nat)=>xF _ i|exact dC (fun a=>dV _ _ _ a)|fail)
   ·refine fun (i:Nat) (st:Nat->Option Obj) (g:Nat->Option Obj) (item:SV) (hG:G (ids.length+uJ t k j+i) st) (hit:((eJ (t++[b]) s).map sG)[i]?=some item)=>?_;rw [cE,aG] at hit;obtain ⟨p,hp,rfl⟩:=hit;have hit2:=Ra (ids:=ids) hbs hp;repeat' (first|apply aA|exact rfl)
    refine aB (ids.length+uJ t k j+i) (aB st (aB (sG p) (aA hG (aA rfl (aA hit2 (aA ?_ ?_))))))
    ·repeat' (first|apply aA|exact trivial|exact rfl)
    refine fun (st':Nat->Option Obj) (hG':G (ids.length+uJ t k j+i+1) st')=>?_;repeat' (first|apply aA|exact rfl|exact zf|refine zt ?_|fail)
    refine aB st' (aA hG' ?_);repeat' (first|apply aA|exact trivial|exact rfl|exact fun (i:Nat)=>qI _ i|exact fun (i:Nat)=>xF _ i|exact dC (fun a=>dV _ _ _ a)|fail)
   ·refine fun (_:Unit) (st:Nat->Option Obj) (_:True) (hG:G (ids.length+uJ t k j+((eJ (t++[b]) s).map sG).length) st)=>?_;repeat' (first|refine aA ?_ ?_)
    ·show (-9223372036854775808:Int)<=(j:Int)+1;omega
    ·show (j:Int)+1<=9223372036854775807;have:=tE hwf.2.2;omega
    have hG2:G (ids.length+uJ t k (j+1)) st:=by
     rw [Ry hbs,<- gU];rw [cO] at hG;exact hG
    refine aB (j+1,st) (aA ⟨hlt,hG2⟩ (aA ?_ (show (eB k).length - (j+1) < (eB k).length - j by omega)));repeat' (first|apply aA|exact trivial|exact rfl|exact zm N rfl|exact fun (i:Nat)=>qI _ i|exact dC (fun a=>dV _ _ _ a)|fail)
  ·refine fun (hlt:decide ((j:Int) < ((dF k).length:Int))=false)=>?_;have hbl:(dF k).length=(eB k).length:=by rw [oR,cO]
   replace hlt:j=(eB k).length:=by have:=of_decide_eq_false hlt; omega
   subst hlt;refine aB () (aB st (aA trivial (aA (U9 ▸ hG) ?_)));repeat' (first|apply aA|exact trivial|exact rfl|exact zm N rfl|exact fun (i:Nat)=>qI _ i|fail)
theorem Q6:∀ n,(Nd n).Ok Tryz.prog 72
 | 0=>it0
 | n+1=>it1 (Q6 n)
end T32
end
section
open Go Go.Eng Go.Proofs A0 T1 T2 T3 T4 T5 T6 T11 T13 T14 T28 T29 T30 T31 T32
set_option maxRecDepth 100000
namespace T33
def Zx:sR:={ Nd 0 with pre:=fun x=>AOk (htT x.T) x }
theorem Yn:Zx.Ok Tryz.prog 72 :=
 ⟨(Q6 0).call,fun x w μ vs T U r0 l st0 J h1 h2 h3 h4 h5 h6 h7=>(Q6 (htT x.T)).does x w μ vs T U r0 l st0 J h1 h2 h3 h4 h5 h6 h7⟩
def kyE (K:List Ky) (j:Nat):SV:=Ep (K.getD j k0)
theorem Yx {k:Keep} {hp:List (Nat×aT)} {K:List Ky} {i n:Nat} {p:Ky} {e:Nat->SV} (h:K[i]?=some p) (he:e 0=Ep p) (hn:n=i+1):∀ j,j < n->oP k (sub k hp 200) (kO i (kyE K) e j) (kyE K j):=by
 intro j hj;subst hn;have hx:kO i (kyE K) e j=kyE K j:=by
  unfold kO;by_cases hji:j < i
  ·have hb:Nat.blt j i=true:=by rw [lC]; exact hji
   simp only [hb,cond_true]
  ·have hb:Nat.blt j i=false:=by
    cases hb:Nat.blt j i with
    | false=>rfl
    | true=>rw [lC] at hb; exact absurd hb hji
   have:j=i:=by omega
   subst this;simp only [hb,cond_false,eM,he];unfold kyE;rw [aE,h];rfl
 rw [hx];exact Or.inl (gJ _ _ _ _)
def g71:List Nat:=[0,1,6,7,5,2,4]
def c71:bH :=
 .seq (.region g71 [(zo 2 (.box 29 (.s 0))),(zo 4 (.move (.c (.nilsl))))]) (.seq (.seq (.region g71 [(mv 6 1)]) (.block 0 (.rangeY (.s 6) [7] (.region g71 [(zo 5 (.alloc 32 (.cons (.str []) (.cons (.str []) .nil)))),⟨none,none,.store 2 (.s 5) (.s 7),[]⟩]) (.block 1 (.region g71 [(ld 8 2),(zo 9 (.load 2 true (.s 5))),(zo 10 (.buildSl 32 2 1 (.cons (.str []) (.cons (.str []) .nil)) [(0,2,.s 9)])),(zo 11 (.app 32 2 32 (.s 8) (.s 10))),⟨none,none,.store 1 (.s 2) (.s 11),[]⟩]))))) (.seq (.region g71 [(ld 12 2),(mv 4 12)]) .ret))
theorem e71:cR Tryz.prog 71 g71 [] [] []=some (c71,[.slot 4],13):=by kernel_rfl
def Zz:bU where
 X:=AX
 Y:=Unit
 args:=fun x=>.cons .nilsl (.cons (.fn 72 (caps x.v x.t)) .nil)
 pre:=fun x=>AOk (htT x.T) x/\(eJ x.t x.T).length<=1000000
 h0:=fun x=>[(0,.fam fun q=>noO 0 (x.N q))]
 nx0:=1
 post:=fun _ _=>True
 res:=fun x _=>.lsl 1 2 (eJ x.t x.T).length
 h1:=fun x _=>[(0,.fam fun q=>noO 0 (x.N q)),(1,.arr 32 2 (eJ x.t x.T).length (kyE (eJ x.t x.T)))]
 nx1:=2
theorem Xc:Zz.Ok Tryz.prog 71:=by
 refine Eng.bU.okR e71 .nil (fun _=>[(72,.y Zx)]) (fun _ _=>aZ.y Yn aZ.nil) ?_;rintro ⟨N,T,v,t⟩ ⟨(hok:AOk (htT T) ⟨N,T,v,t⟩),(hlen:(eJ t T).length<=1000000)⟩;generalize hK:eJ t T=K at hlen;refine ⟨trivial,?_⟩;refine aB ⟨N,T,v,t⟩ (aB ⟨Nat,fun i v=>v=i/\i<=K.length,fun v=>[(1,.cells 29 (.cons (.lsl 3 2 v) .nil)),(3,.arr 32 2 v (kyE K))],4⟩ ?_);repeat' (first|apply aA|exact trivial|exact rfl)
 ·exact hok
 ·exact Ec N
 ·exact fun _ _=>Ec N
 ·exact fun _=>rfl
 ·refine fun (g:Nat->Option Obj)=>aB 0 (aA ⟨rfl,bB _⟩ ?_);repeat' (first|apply aA|exact trivial|exact rfl|exact fun (i:Nat)=>xF _ i|fail)
 ·rintro (i:Nat) (v:Nat) (g:Nat->Option Obj) (item:SV) ⟨(hvi:v=i),(hi:i<=K.length)⟩ (hit:((eJ t T).map sG)[i]?=some item);subst hvi;rw [hK,cE,aG] at hit;obtain ⟨p,hp,rfl⟩:=hit;have hlt:v < K.length:=(aR.1 hp).1;repeat' (first|apply aA|exact rfl)
  ·show v+1<=9223372036854775807;omega
  ·show (v+1) * 32<=140737488355328;omega
  refine aB (v+1) (aA ⟨rfl,hlt⟩ ?_);repeat' (first|apply aA|exact trivial|exact rfl|exact fun (i:Nat)=>xF _ i|exact Yx hp rfl rfl|fail)
 ·rintro (_:Unit) (v:Nat) (_:True) ⟨(hv:v=((eJ t T).map sG).length),_⟩;rw [cO,hK] at hv;subst hv;refine aB () ?_;repeat' (first|apply aA|exact trivial|exact rfl|exact zm N rfl|fail)
  ·rw [hK]
  ·rw [hK]
  ·exact fun (j:Nat) _=>by rw [hK]; exact Or.inl (gJ _ _ _ _)
def g47:List Nat:=[0,2]
def c47:bH :=
 .seq (.region g47 [(zo 2 (.move (.c (.nilsl))))]) (.seq (.region g47 [(mv 3 0),(zo 4 (.call (.c (.fn 71)) [.c (.nilsl),.s 3])),(mv 2 4)]) .ret)
theorem e47:cR Tryz.prog 47 g47 [] [] []=some (c47,[.slot 2],5):=by kernel_rfl
def Z8:bU where
 X:=AX
 Y:=Unit
 args:=fun x=>.cons (.fn 72 (caps x.v x.t)) .nil
 pre:=fun x=>AOk (htT x.T) x/\(eJ x.t x.T).length<=1000000
 h0:=fun x=>[(0,.fam fun q=>noO 0 (x.N q))]
 nx0:=1
 post:=fun _ _=>True
 res:=fun x _=>.lsl 1 2 (eJ x.t x.T).length
 h1:=fun x _=>[(0,.fam fun q=>noO 0 (x.N q)),(1,.arr 32 2 (eJ x.t x.T).length (kyE (eJ x.t x.T)))]
 nx1:=2
theorem Xq:Z8.Ok Tryz.prog 47:=by
 refine Eng.bU.okR e47 .nil (fun _=>[(71,.m Zz)]) (fun _ _=>aZ.m Xc aZ.nil) ?_;rintro ⟨N,T,v,t⟩ ⟨(hok:AOk (htT T) ⟨N,T,v,t⟩),(hlen:(eJ t T).length<=1000000)⟩;refine ⟨trivial,?_⟩;refine aB ⟨N,T,v,t⟩ (aB [0] ?_);repeat' (first|exact hok|exact hlen|apply aA|exact trivial|exact rfl|exact zm N rfl|fail)
 refine fun (_:Unit) (_:True)=>?_;refine aB () ?_;repeat' (first|apply aA|exact trivial|exact rfl|exact zr N rfl rfl|exact fun (j:Nat) _=>Or.inl (gJ _ _ _ _)|fail)
def g16:List Nat:=[4,0,2]
def c16:bH :=
 .seq (.region g16 [(zo 2 (.move (.c (.nilsl))))]) (.seq (.seq (.region g16 [(mv 3 0),(zo 4 (.ptrEq false (.s 3) (.c (.nilptr))))]) (.cond (.s 4) (.seq (.region g16 [(zo 2 (.move (.c (.nilsl))))]) .ret) .skip)) (.seq (.region g16 [(mv 5 0),(zo 6 (.nilCheck (.s 5))),(fa 7 0 6),(ld 8 7),(zo 9 (.call (.c (.fn 48)) [.s 8,.c (.str [])])),(zo 10 (.call (.c (.fn 47)) [.s 9])),(mv 2 10)]) .ret))
theorem e16:cR Tryz.prog 16 g16 [] [] []=some (c16,[.slot 2],11):=by kernel_rfl
def We:bU where
 X:=AX
 Y:=Unit
 args:=fun _=>.cons (.own 0 0) .nil
 pre:=fun x=>AOk (htT x.T) x/\(eJ x.t x.T).length<=1000000/\x.t=[]
 h0:=fun x=>tH 0 1 x.v x.N
 nx0:=2
 post:=fun _ _=>True
 res:=fun x _=>.lsl 2 2 (eJ x.t x.T).length
 h1:=fun x _=>(2,.arr 32 2 (eJ x.t x.T).length (kyE (eJ x.t x.T)))::tH 0 1 x.v x.N
 nx1:=3
theorem Mg:We.Ok Tryz.prog 16:=by
 refine Eng.bU.okR e16 .nil (fun _=>[(48,.m Xa),(47,.m Z8)]) (fun _ _=>aZ.m Pw (aZ.m Xq aZ.nil)) ?_;rintro ⟨N,T,v,t⟩ ⟨(hok:AOk (htT T) ⟨N,T,v,t⟩),(hlen:(eJ t T).length<=1000000),(ht:t=[])⟩;subst ht;refine ⟨trivial,?_⟩;repeat' (first|apply aA|exact zf|refine zt ?_|fail)
 refine aB (N,v,[]) (aB [1] ?_);repeat' (first|apply aA|exact trivial|exact rfl|exact zm N rfl|fail)
 refine fun (_:Unit) (_:True)=>?_;refine aB ⟨N,T,v,[]⟩ (aB [1] ?_);repeat' (first|exact hok|exact hlen|apply aA|exact trivial|exact rfl|exact zr N rfl rfl|fail)
 refine fun (_:Unit) (_:True)=>?_;refine aB () ?_;repeat' (first|apply aA|exact trivial|exact rfl|exact zr N rfl rfl|exact fun (j:Nat) _=>Or.inl (gJ _ _ _ _)|fail)
end T33
end
section
open Go Go.Eng Go.Proofs T1 T2 T3 T7 T4 T13 T14 T23 T28 T30 T31 D1 D2 D3 D6
set_option maxRecDepth 100000
namespace D9
def Dd:Dg:=fun ids ks=>pI ⟨ids,ks.map (·.1),ks.map (·.2)⟩
def ndT:TT->ND
 | .node ids k=>⟨ids,(Ag Dd k).map (·.1),(Ag Dd k).map (·.2)⟩
theorem wC:∀ T:TT,pH Dd T=pI (ndT T)
 | .node _ _=>rfl
theorem F6 {D:Dg}:∀ k:TK,(Ag D k).map (·.1)=dF k
 | .nil=>rfl
 | .cons b t r=>by simp only [Ag,bL,F6 r,dF]
theorem tS {D:Dg}:∀ k:TK,(Ag D k).map (·.2)=(eB k).map fun p=>pH D p.2
 | .nil=>rfl
 | .cons b t r=>by simp only [Ag,bL,tS r,eB]
def Mk (N N':Nat->NO):Prop:=∀ x,N' x=N x\/∃ a n m sz mk mk',N x=.node a n m sz mk/\N' x=.node a n m sz mk'
theorem Mk.refl (N:Nat->NO):Mk N N:=fun _=>.inl rfl
theorem Mk.trans {A B C:Nat->NO} (h:Mk A B) (k:Mk B C):Mk A C:=by
 intro x;rcases h x with e|⟨a,n,m,sz,mk,mk',e1,e2⟩ <;> rcases k x with f|⟨a',n',m',sz',mk1,mk1',f1,f2⟩
 ·exact .inl (f.trans e)
 ·exact .inr ⟨_,_,_,_,_,_,e ▸ f1,f2⟩
 ·exact .inr ⟨_,_,_,_,_,_,e1,f.trans e2⟩
 ·rw [e2] at f1;cases f1;exact .inr ⟨_,_,_,_,_,_,e1,f2⟩
theorem Mk.tk {N N':Nat->NO} (h:Mk N N') (t:∀ i l q,N i=.map l q->Tk l q):∀ i l q,N' i=.map l q->Tk l q:=by
 intro i l q e;rcases h i with f|⟨_,_,_,_,_,_,_,f⟩
 ·exact t i l q (f ▸ e)
 ·rw [f] at e; cases e
def Kk (N:Nat->NO) (v:Nat) (o:NO):Nat->NO:=fun x=>bif Nat.beq x v then o else N x
theorem C4 (N:Nat->NO) (v:Nat) (o:NO):Kk N v o v=o:=by unfold Kk; rw [iL]; rfl
theorem Mx {N:Nat->NO} {v x:Nat} {o:NO} (h:x≠v):Kk N v o x=N x:=by
 unfold Kk;have:Nat.beq x v=false:=by
  cases e:Nat.beq x v with
  | false=>rfl
  | true=>exact absurd (cQ e) h
 rw [this]; rfl
theorem Vi {N:Nat->NO} {v a n m:Nat} {sz:Int} {mk mk':B} (h:N v=.node a n m sz mk):Mk N (Kk N v (.node a n m sz mk')):=by
 intro x;by_cases e:x=v
 ·subst e; exact .inr ⟨_,_,_,_,_,_,h,C4 _ _ _⟩
 ·exact .inl (Mx e)
theorem nK:∀ {k:TK} {b:UInt8} {s:TT},eW k b=some s->b∈dF k
 | .nil,_,_,h=>by cases h
 | .cons x t r,b,s,h=>by
  simp only [eW] at h;simp only [dF];by_cases e:x=b
  ·rw [e]; exact aQ
  ·rw [if_neg e] at h; exact aK _ (nK h)
theorem Cz:∀ {k:TK} {b:UInt8} {s:TT},eW k b=some s->Sb (dF k)->lM k b s=k
 | .nil,_,_,h,_=>by cases h
 | .cons x t r,b,s,h,hs=>by
  simp only [eW] at h;simp only [lM];simp only [dF] at hs;have hs':=bD.1 hs;by_cases e:x=b
  ·subst e;rw [if_pos rfl] at h;rw [if_pos rfl];cases h; rfl
  ·rw [if_neg e] at h;have hlt:=hs'.1 b (nK h);rw [if_neg e,if_neg (fun h'=>eI _ (jZ hlt h'))];exact congrArg (TK.cons x t) (Cz h hs'.2)
theorem Sc {D:Dg} {N:Nat->NO}:∀ {k:TK} {l:List (cC×Nat×Nat)} {G G':Nat->Prop},(∀ x,G x ↔ G' x)->lO D N k l G->lO D N k l G'
 | .nil,_,_,_,e,h=>fun x hx=>h x ((e x).2 hx)
 | .cons _ _ _,_,_,_,e,h=>by
  simp only [lO] at h ⊢;obtain ⟨u,τ,G1,G2,h1,h2,h3,h4,h5⟩:=h;exact ⟨u,τ,G1,G2,h1,h2,h3,h4,fun x=>(e x).symm.trans (h5 x)⟩
theorem Hp {D:Dg} {N:Nat->NO} {k:TK} {l:List (cC×Nat×Nat)} {G:Nat->Prop} {b:UInt8} {s:TT} (h:lO D N k l G) (hg:eW k b=some s) (hs:Sb (dF k)) :
  ∃ u τ G1,mget l (iC b)=some (u,τ)/\iM D N s u G1/\(∀ x,G1 x->G x)/\∀ N',iM D N' s u G1->(∀ x,¬ G1 x->N' x=N x)->lO D N' k l G:=by
 obtain ⟨u,τ,G1,G2,h1,h2,h3,h4,h5,_⟩:=pW h hg hs;refine ⟨u,τ,G1,h1,h2,fun x hx=>(h4 x).2 (.inl hx),fun N' hr hf=>?_⟩;have:=h5 N' s G1 hr h3 fun x hx=>hf x fun h'=>h3 x h' hx;rw [Cz hg hs] at this;exact Sc (fun x=>(h4 x).symm) this
theorem At (n:Nat) (h:n < 18446744073709551616):(Lib.itoa (n:Int)).length<=20:=by
 rw [Lib.itoa_nonneg,Lib.decDigits_length];rcases gR n with rfl|h1
 ·rw [Lib.nDigits_small (by omega)]; omega
 ·have:=Lib.numDigits_eq n h1 h; split at this <;> omega
theorem wN {M:Nat} (hM:M < 18446744073709551616):∀ {l:List B},(∀ s∈l,s.length<=M)->(jJ l).length<=l.length * (M+21)
 | [],_=>bB _
 | s::l,h=>by
  have ih:=wN hM (l:=l) fun x hx=>h x (aK _ hx);have h1:=h s aQ;have h2:=At s.length (by omega);show (((s::l).map fun s=>Lib.itoa (s.length:Int)++58::s).flatten).length<=_;rw [bL,jX,aV,aV,aY];replace ih:((l.map fun s=>Lib.itoa (s.length:Int)++58::s).flatten).length<=l.length * (M+21):=ih;rw [aY,Nat.succ_mul];omega
theorem Fh (t:B):(H7 t).length<=16:=by
 unfold H7;have:=Ei (rM t (qH t) (t.length / 8+1));rw [aV];have e:∀ n:Nat,((List.replicate n ([48]:B)).flatten).length=n:=fun n=>by simp
 rw [e];omega
theorem Ll (n:ND):(pI n).length<=16:=by
 unfold pI;split
 ·exact Fh _
 ·exact bB _
theorem Qa (T:TT):(pH Dd T).length<=16:=by rw [wC]; exact Ll _
theorem Aw {n:ND} (h:∀ s∈n.kids,s.length<=16):∀ j,∀ s∈lU n j,s.length<=16
 | 0,_,hs=>by cases hs
 | j+1,s,hs=>by
  simp only [lU,bM,aI,iO,or_false] at hs;rcases hs with hs|rfl|rfl
  ·exact Aw h j s hs
  ·exact bC (List.length_take_le 1 _) (by decide)
  ·rw [aE];cases e:n.kids[j]? with
   | none=>exact bB _
   | some x=>exact h x (eV e)
mutual
def shT:TT->Prop
 | .node ids k=>(∀ i∈ids,i.length<=1000000)/\shK k
def shK:TK->Prop
 | .nil=>True
 | .cons _ t r=>shT t/\shK r
end
theorem Jr:∀ {k:TK} {b:UInt8} {s:TT},(b,s)∈eB k->shK k->shT s
 | .nil,_,_,h,_=>by cases h
 | .cons x u r,b,s,h,l=>by
  simp only [shK] at l;rcases aI.1 h with e|e
  ·cases e; exact l.1
  ·exact Jr e l.2
structure DX where
 N:Nat->NO
 T:TT
 v:Nat
 F:Nat->Prop
structure DOk (n:Nat) (x:DX):Prop where
 rep:iM Dd x.N x.T x.v x.F
 wf:wfT x.T
 sz:szT x.T<=24
 tk:∀ i l q,x.N i=.map l q->Tk l q
 low:G3 x.T
 ht:htT x.T<=n
 sh:shT x.T
structure DPo (x:DX) (y:Nat->NO):Prop where
 mrk:Mk x.N y
 out:∀ z,¬ x.F z->y z=x.N z
 rep:iM Dd y x.T x.v x.F
theorem Y5 {T:TT} (hw:wfT T) (hs:szT T<=24) (hl:shT T):((ndT T).ids.length<=100000/\(ndT T).kids.length<=100000)/\(jJ (fP (ndT T)++lU (ndT T) (ndT T).kids.length)).length<=140737488355328:=by
 cases T with
 | node ids k =>
 replace hw:Srt ids/\Sb (dF k)/\wfK k:=hw;replace hs:ids.length+szK k<=24:=hs;replace hl:(∀ i∈ids,i.length<=1000000)/\shK k:=hl;have hkl:=tE hw.2.2;have e2:(ndT (.node ids k)).kids=(eB k).map fun p=>pH Dd p.2:=tS k;have e3:(ndT (.node ids k)).kids.length=(eB k).length:=by rw [e2,cO]
 have e1:(ndT (.node ids k)).ids=ids:=rfl;refine ⟨⟨by rw [e1]; omega,by rw [e3]; omega⟩,?_⟩;refine bC (wN (M:=1000000) (by decide) ?_) ?_
 ·intro s hs';rcases bM.1 hs' with h|h
  ·simp only [D6.fP,aI] at h;rcases h with rfl|rfl|h
   ·decide
   ·exact bC (At _ (by rw [e1]; omega)) (by decide)
   ·exact hl.1 s h
  ·refine bC (Aw ?_ _ s h) (by decide);intro x hx;rw [e2] at hx;obtain ⟨p,_,rfl⟩:=bF.1 hx;exact Qa _
 ·rw [vW,e1,e3];have:(2+ids.length+2 * (eB k).length) * (1000000+21)<=74 * (1000000+21):=bT _ (by omega);omega
end D9
end
section
open Go Go.Eng Go.Proofs T7 T8 T9 T32 A0 T1 T2 T3 T4 T5 T6 T13 T14 T23 T25 T28 T29 T30 T31 D3 D6 D9
set_option maxRecDepth 100000
namespace D10
def kdL (k:TK):List B:=(Ag Dd k).map (·.2)
structure LI (N:Nat->NO) (H:Nat->Prop) (k:TK) (l:List (cC×Nat×Nat)) (j:Nat) (N':Nat->NO):Prop where
 le:j<=(eB k).length
 mrk:Mk N N'
 out:∀ z,¬ H z->N' z=N z
 rep:lO Dd N' k l H
theorem Fg {k:Keep} {hp:List (Nat×aT)} {n:Nat} {L L':List B} (h:L=L'):∀ i,i < n->oP k (sub k hp 200) (idE (L.getD i [])) (idE (L'.getD i [])):=by
 subst h;exact fun i _=>Or.inl (fB _ _ _ _)
def Xy:bU:=Xz.mof B (fun x y=>y=pI x) (fun _ y=>.str y)
theorem Lm:Xy.Ok Tryz.prog 19:=Eng.Spec.pR D8.I2 fun _ _=>⟨_,rfl,rfl⟩
theorem Tq {k:TK} {j:Nat} {b:UInt8} {s:TT} (h:(eB k)[j]?=some (b,s)):(dF k).take (j+1)=(dF k).take j++[b]:=by
 rw [oR,mA,cE,h];rfl
theorem Up {k:TK} {j:Nat} {b:UInt8} {s:TT} (h:(eB k)[j]?=some (b,s)):(kdL k).take (j+1)=(kdL k).take j++[pH Dd s]:=by
 unfold kdL;rw [tS,mA,cE,h];rfl
theorem Q7 (k:TK):(kdL k).length=(eB k).length:=by
 unfold kdL;rw [tS,cO]
theorem Ys {k:Keep} {hp:List (Nat×aT)} {L L':List B} {y:B} {m:Nat} (hL:L'=L++[y]) (hm:m=L.length+1):∀ i,i < m->oP k (sub k hp 200) (kO L.length (fun j=>idE (L.getD j [])) (fun q=>nV (.cons (.cons (.str y) .nil) .nil) (0+q)) i) (idE (L'.getD i [])):=by
 intro i hi;subst hm hL;have e:kO L.length (fun j=>idE (L.getD j [])) (fun q=>nV (.cons (.cons (.str y) .nil) .nil) (0+q)) i=idE ((L++[y]).getD i []):=by
  unfold kO;rw [Iu];by_cases h:i < L.length
  ·rw [if_pos h];show idE (L.getD i [])=_;rw [aE,aE,aU h]
  ·rw [if_neg h];obtain rfl:i=L.length:=by omega
   rw [aE,bG (aL _),eM];show nV _ (0+0)=_;rfl
 rw [e];exact Or.inl (fB _ _ _ _)
def g57:List Nat:=[14,16,13,0,5,15,3,2]
def c57:bH :=
 .seq (.region g57 [(zo 2 (.alloc 39 (.cons (.nilsl) (.cons (.str []) (.cons (.nilsl) .nil)))))]) (.seq (.region g57 [(mv 6 0),(zo 7 (.nilCheck (.s 6))),(fa 8 0 7),(ld 9 8),(zo 10 (.call (.c (.fn 80)) [.s 9])),(zo 11 (.build (.cons (.nilsl) (.cons (.str []) (.cons (.nilsl) .nil))) [(0,1,.s 10)])),(zo 3 (.alloc 39 (.cons (.nilsl) (.cons (.str []) (.cons (.nilsl) .nil))))),⟨none,none,.store 3 (.s 3) (.s 11),[]⟩]) (.seq (.seq (.region g57 [(mv 12 0),(zo 13 (.call (.c (.fn 73)) [.s 12])),(zo 14 (.lenSl (.s 13))),(zo 15 (.move (cj 0)))]) (.block 0 (.loop 0 [16,17,18,5,19,20,21,22,23,24,25,26,27,28,29,30,31,32,33,34,35,36,37,38,15] (.seq (.region g57 [(zo 16 (.bin (.lss) (.s 15) (.s 14)))]) (.seq (.cond (.s 16) .skip (.exit 0)) (.seq (.block 1 (.seq (.region g57 [(zo 17 (.idxSl 1 (.s 13) (.s 15))),(ld 18 17),(mv 5 18)]) (.seq (.region g57 [(fa 19 1 3),(ld 20 19),(mv 21 5),(zo 22 (.cnv (.i32) (.s 21))),(zo 23 (.runeS (.s 22))),(zo 24 (.bin (.add) (.s 20) (.s 23))),(fa 25 1 3),⟨none,none,.store 1 (.s 25) (.s 24),[]⟩]) (.drawn g57 (.pure 0 (fa 26 2 3) (.pure 1 (ld 27 26) (.pure 2 (mv 28 0) (.pure 3 (zo 29 (.nilCheck (.s 28))) (.pure 4 (fa 30 1 29) (.pure 6 (mv 32 5) (.eff 5 (ld 31 30) [(ld 27 26)] (.eff 7 (zo 33 (.mlook (.nilptr) false (.i (.u8)) (.s 31) (.s 32))) [(ld 27 26)] (.eff 8 (zo 34 (.call (.c (.fn 55)) [.s 33])) [(ld 27 26)] (.eff 9 (zo 35 (.buildSl 9 1 1 (.cons (.str []) .nil) [(0,1,.s 34)])) [(ld 27 26)] (.eff 10 (zo 36 (.app 9 1 16 (.s 27) (.s 35))) [] (.pure 11 (fa 37 2 3) (.eff 12 ⟨none,none,.store 1 (.s 37) (.s 36),[]⟩ [] .done .none)) .none) .none) .none) .none) .none))))))))))) (.region g57 [(zo 38 (.bin (.add) (.s 15) (cj 1))),(mv 15 38)]))))))) (.seq (.region g57 [(zo 39 (.load 3 true (.s 3))),⟨none,none,.store 3 (.s 2) (.s 39),[]⟩]) .ret)))
theorem e57:cR Tryz.prog 57 g57 [] [31,34,35] []=some (c57,[.cell 2 3 true],40):=by kernel_rfl
def shS (n:Nat):bU where
 X:=DX
 Y:=Nat->NO
 args:=fun x=>.cons (.fown 0 x.v 0) .nil
 pre:=DOk n
 h0:=fun x=>[(0,.fam fun q=>noO 0 (x.N q))]
 nx0:=1
 post:=DPo
 res:=fun x _=>.agg (.cons (.lsl 1 1 (ndT x.T).ids.length) (.cons (.str (ndT x.T).bys) (.cons (.lsl 2 1 (ndT x.T).kids.length) .nil)))
 h1:=fun x y=>[(0,.fam fun q=>noO 0 (y q)),lsH 1 (ndT x.T).ids,lsH 2 (ndT x.T).kids]
 nx1:=3
def dgS (n:Nat):bU where
 X:=DX
 Y:=Nat->NO
 args:=fun x=>.cons (.fown 0 x.v 0) .nil
 pre:=DOk n
 h0:=fun x=>[(0,.fam fun q=>noO 0 (x.N q))]
 nx0:=1
 post:=DPo
 res:=fun x _=>.str (pH Dd x.T)
 h1:=fun _ y=>[(0,.fam fun q=>noO 0 (y q))]
 nx1:=1
theorem Wt {n:Nat} (ih:(dgS n).Ok Tryz.prog 55):(shS (n+1)).Ok Tryz.prog 57:=by
 refine Eng.bU.okR e57 .nil (fun _=>[(80,.m Z4),(73,.m Xk),(55,.m (dgS n)),(2097152,.own)]) (fun _ _=>aZ.m Xm (aZ.m P5 (aZ.m ih (aZ.o aZ.nil)))) ?_;rintro ⟨N,T,v,F⟩ ⟨hrep,hwf,hsz,htk,hlow,hht,hsh⟩;cases T with
 | node ids k =>
 replace hsz:ids.length+szK k<=24:=hsz;replace hht:htK k+1<=n+1:=hht;replace hwf:Srt ids/\Sb (dF k)/\wfK k:=hwf;replace hlow:Jz k:=hlow;replace hsh:(∀ i∈ids,i.length<=1000000)/\shK k:=hsh;replace htk:∀ i l q,N i=.map l q->Tk l q:=htk;replace hrep:iM Dd N (.node ids k) v F:=hrep;have hkl:(dF k).length<=24:=by have:=tE hwf.2.2; rw [oR,cO]; omega
 obtain ⟨a,m,mk,l,q,H,hnv,hlst,hmp,hmk,hpm,hrk,hav,ham,hHv,hHm,hHa,hF⟩:=hrep;refine ⟨trivial,?_⟩;refine aB (noO 0 (.node a ids.length m ((ids.length+szK k:Nat):Int) mk)) (aA (congrArg (noO 0) hnv) ?_);have hln:ids.length<=1000000:=by omega
 have hl:(N a=.none/\ids.length=0)\/∃ A,N a=.arr A/\A≠[]/\ids.length<=A.length:=by
  rcases hlst with ⟨h1,h2⟩|⟨A,h1,h2,h3,_⟩
  ·exact .inl ⟨h1,by rw [h2]; rfl⟩
  ·exact .inr ⟨A,h1,h2,h3⟩
 have hids:ids=gO N a ids.length:=by
  rcases hlst with ⟨h1,h2⟩|⟨A,h1,h2,h3,h4⟩
  ·unfold gO; rw [h1,h2]
  ·rw [A3 h1,h4]
 refine aB ids (aB [] ?_);repeat' (first|exact hln|exact zY (h:=0) (N:=N) (a:=a) (n:=ids.length) rfl (Is.no 0 (N a)) rfl hl hids|apply aA|exact trivial)
 refine fun (_:Unit) (_:True)=>?_;refine aB ⟨N,v,a,ids.length,m,((ids.length+szK k:Nat):Int),mk,l,q,dF k⟩ (aB [0] ?_);have hb:BOk ⟨N,v,a,ids.length,m,((ids.length+szK k:Nat):Int),mk,l,q,dF k⟩:=⟨hnv,hmp,htk _ _ _ hmp,hpm,hwf.2.1,hkl⟩;repeat' (first|exact hb|apply aA|exact trivial|exact rfl|exact zm N rfl|fail)
 refine fun (_:Unit) (_:True)=>?_;have hkd:(ndT (.node ids k)).kids=kdL k:=rfl;refine ⟨⟨Nat×(Nat->NO),fun x=>LI N H k l x.1 x.2,fun x=>[(15,.int .i64 (x.1:Int))],fun x=>[(0,.fam fun q=>noO 0 (x.2 q)),lsH 2 ids,(3,.cells 39 (.cons (.lsl 2 1 ids.length) (.cons (.str ((dF k).take x.1)) (.cons (.lsl 30 1 ((kdL k).take x.1).length) .nil)))),(4,.arr 5 1 (dF k).length (lc bE 0 (bsI (dF k)))),lsH 30 ((kdL k).take x.1)],fun x=>(eB k).length - x.1⟩,(0,N),⟨bB _,Mk.refl N,fun _ _=>rfl,hrk⟩,?_,?_⟩
 ·repeat' (first|apply aA|exact trivial|exact rfl|exact zr N rfl rfl|exact fun (j:Nat) (hj:j < _)=>Or.inl (fB _ _ _ _)|exact dC (fun a=>dV _ _ _ a)|fail)
 rintro ⟨j,N'⟩ ⟨(hj:j<=(eB k).length),(hM:Mk N N'),(hO:∀ z,¬ H z->N' z=N z),(hR:lO Dd N' k l H)⟩;have hbl:(dF k).length=(eB k).length:=by rw [oR,cO]
 have hnv':N' v=.node a ids.length m ((ids.length+szK k:Nat):Int) mk:=(hO v hHv).trans hnv;have hmp':N' m=.map l q:=(hO m hHm).trans hmp;repeat' (first|refine aA ?_ ?_)
 ·refine fun (hlt:decide ((j:Int) < ((dF k).length:Int))=true)=>?_;replace hlt:j < (eB k).length:=by have:=of_decide_eq_true hlt; omega
  obtain ⟨b,s,hbs⟩:∃ b s,(eB k)[j]?=some (b,s):=⟨_,_,aH hlt⟩;have hmem:=eV hbs;obtain ⟨f1,f2,f3,f4,f5⟩:=tW hmem hwf.2.2 hlow;obtain ⟨u,τ,G1,hmg,hru,hG1,hup⟩:=Hp hR (wJ hwf.2.1 hmem) hwf.2.1;have hbv:(bsI (dF k)).getD (0+(j:Int).toNat) 0=bI b:=byte_at hbs;have g0:(0:Int)<=(j:Int):=by omega
  have g1:(j:Int) < ((dF k).length:Int):=by omega
  have g2:0+(j:Int).toNat < (dF k).length:=by omega
  have hbI:0<=bI b/\bI b < 128:=by unfold bI; omega
  have q1:-2147483648<=(bsI (dF k)).getD (0+(j:Int).toNat) 0:=by rw [hbv]; omega
  have q2:(bsI (dF k)).getD (0+(j:Int).toNat) 0<=2147483647:=by rw [hbv]; omega
  have q3:0<=(bsI (dF k)).getD (0+(j:Int).toNat) 0:=by rw [hbv]; omega
  have q4:(bsI (dF k)).getD (0+(j:Int).toNat) 0 < 128:=by rw [hbv]; omega
  have hk10:((kdL k).take j).length<=24:=by rw [cG,Q7]; omega
  have q5:((dF k).take j).length+1<=9223372036854775807:=by rw [cG]; omega
  have ht':(dF k).take j++[UInt8.ofNat ((bsI (dF k)).getD (0+(j:Int).toNat) 0).toNat]=(dF k).take (j+1):=by
   rw [hbv]; unfold bI; rw [eX,UInt8.ofNat_toNat];exact (Tq hbs).symm
  have hmg':mget l (.i .u8 ((bsI (dF k)).getD (0+(j:Int).toNat) 0))=some (u,τ):=by rw [hbv]; exact hmg
  repeat' (first|apply aA|exact trivial|(with_reducible first|exact g0|exact g1|exact g2))
  ·exact q1
  ·exact q2
  ·exact q3
  ·exact q4
  ·exact q5
  refine aB (noO 0 (.node a ids.length m ((ids.length+szK k:Nat):Int) mk)) (aA (congrArg (noO 0) hnv') ?_);repeat' (first|apply aA|exact trivial|exact rfl)
  refine aB (noO 0 (.map l q)) (aA (congrArg (noO 0) hmp') ?_);refine nY.zT hmg' ?_;repeat' (first|apply aA|exact trivial|exact rfl)
  refine aB ⟨N',s,u,G1⟩ (aB [0] ?_);have hd:DOk n ⟨N',s,u,G1⟩:=⟨hru,f1,show szT s<=24 by omega,hM.tk htk,f3,show htT s<=n by omega,Jr hmem hsh.2⟩;repeat' (first|exact hd|apply aA|exact trivial|exact rfl|exact zm N' rfl|fail)
  refine fun (N2:Nat->NO) (hp2:DPo ⟨N',s,u,G1⟩ N2)=>?_;repeat' (first|apply aA|exact trivial|exact rfl)
  ·exact aL 1
  ·exact fun j hj=>by obtain rfl:j=0:=(by omega); rfl
  ·show ((kdL k).take j).length+1<=9223372036854775807;omega
  ·show (((kdL k).take j).length+1) * 16<=140737488355328;omega
  ·show (-9223372036854775808:Int)<=(j:Int)+1;omega
  ·show (j:Int)+1<=9223372036854775807;omega
  have hkt:(kdL k).take (j+1)=(kdL k).take j++[pH Dd s]:=Up hbs;have hkl2:((kdL k).take j).length+1=((kdL k).take (j+1)).length:=by rw [hkt,aV]; rfl
  have hLI:LI N H k l (j+1) N2:=⟨hlt,hM.trans hp2.mrk,fun z hz=>(hp2.out z fun h=>hz (hG1 z h)).trans (hO z hz),hup N2 hp2.rep hp2.out⟩;refine aB (j+1,N2) (aA hLI (aA ?_ (show (eB k).length - (j+1) < (eB k).length - j by omega)));repeat' (first|apply aA|exact trivial|exact rfl|exact fun (j:Nat) (hj:j < _)=>Or.inl (fB _ _ _ _)|exact dC (fun a=>dV _ _ _ a)|exact zr N2 rfl rfl|exact ht'|exact hkl2)
  ·exact Ys hkt rfl
 ·refine fun (hlt:decide ((j:Int) < ((dF k).length:Int))=false)=>?_;replace hlt:j=(eB k).length:=by have:=of_decide_eq_false hlt; omega
  subst hlt;have hb1:(dF k).take (eB k).length=(ndT (.node ids k)).bys:=by
   show _=(Ag Dd k).map (·.1);rw [F6,<- hbl,eP]
  have hk1:(kdL k).take (eB k).length=(ndT (.node ids k)).kids:=by
   rw [<- Q7,eP]; rfl
  have hk2:((kdL k).take (eB k).length).length=(ndT (.node ids k)).kids.length:=by rw [hk1]
  have hk3:(kdL k).take (eB k).length=kdL k:=hk1;have hpo:DPo ⟨N,.node ids k,v,F⟩ N':=by
   refine ⟨hM,fun z hz=>hO z fun h=>hz ((hF z).2 (.inr (.inr (.inr h)))),a,m,mk,l,q,H,hnv',?_,hmp',hmk,hpm,hR,hav,ham,hHv,hHm,hHa,hF⟩;rw [hO a hHa];exact hlst
  refine aB N' (aA hpo ?_);repeat' (first|apply aA|exact trivial|exact rfl|exact zm N' rfl|exact fun (j:Nat) (hj:j < _)=>Or.inl (fB _ _ _ _)|exact hb1|exact hk2)
  exact Fg hk3
def g55:List Nat:=[7,0,2]
def c55:bH :=
 .seq (.region g55 [(zo 2 (.move (.c (.str []))))]) (.seq (.seq (.region g55 [(mv 3 0),(zo 4 (.nilCheck (.s 3))),(fa 5 3 4),(ld 6 5),(zo 7 (.bin (.eql) (.s 6) (.c (.str []))))]) (.cond (.s 7) (.region g55 [(mv 8 0),(mv 9 0),(zo 10 (.call (.c (.fn 57)) [.s 9])),(zo 11 (.call (.c (.fn 19)) [.s 10])),(zo 12 (.nilCheck (.s 8))),(fa 13 3 12),⟨none,none,.store 1 (.s 13) (.s 11),[]⟩]) .skip)) (.seq (.region g55 [(mv 14 0),(zo 15 (.nilCheck (.s 14))),(fa 16 3 15),(ld 17 16),(mv 2 17)]) .ret))
theorem e55:cR Tryz.prog 55 g55 [] [] []=some (c55,[.slot 2],18):=by kernel_rfl
theorem dg0:(dgS 0).Ok Tryz.prog 55:=by
 refine ⟨tR e55,?_⟩;intro x w μ vs T U;intros;rename_i hp _;have:=Jg x.T;have:=hp.ht;omega
theorem aAc {n:Nat} (ih:(shS n).Ok Tryz.prog 57):(dgS n).Ok Tryz.prog 55:=by
 refine Eng.bU.okR e55 .nil (fun _=>[(57,.m (shS n)),(19,.m Xy)]) (fun _ _=>aZ.m ih (aZ.m Lm aZ.nil)) ?_;rintro ⟨N,T,v,F⟩ hok;cases T with
 | node ids k =>
 have hrep:iM Dd N (.node ids k) v F:=hok.rep;have hpre:=Y5 hok.wf hok.sz hok.sh;obtain ⟨a,m,mk,l,q,H,hnv,hlst,hmp,hmk,hpm,hrk,hav,ham,hHv,hHm,hHa,hF⟩:=hrep;refine ⟨trivial,?_⟩;refine aB (noO 0 (.node a ids.length m ((ids.length+szK k:Nat):Int) mk)) (aA (congrArg (noO 0) hnv) ?_);repeat' (first|refine aA ?_ ?_)
 have hset:∀ (N2:Nat->NO) (d:B) (i:Nat),(bif Nat.beq i v then noO 0 (.node a ids.length m ((ids.length+szK k:Nat):Int) d) else noO 0 (N2 i))=noO 0 (Kk N2 v (.node a ids.length m ((ids.length+szK k:Nat):Int) d) i):=by
  intro N2 d i;unfold Kk;cases Nat.beq i v <;> rfl
 ·refine fun (hk0:decide (mk=[])=true)=>?_;replace hk0:mk=[]:=of_decide_eq_true hk0;refine aB ⟨N,.node ids k,v,F⟩ (aB [0] ?_);repeat' (first|exact hok|apply aA|exact trivial|exact rfl|exact zm N rfl|fail)
  refine fun (N2:Nat->NO) (hp2:DPo ⟨N,.node ids k,v,F⟩ N2)=>?_;refine aB (ndT (.node ids k)) (aB [] ?_);repeat' (first|exact hpre|apply aA|exact trivial|exact rfl|exact fU (aW _)|exact (fun (j:Nat) _=>by rw [aW]; exact Or.inl (fB _ _ _ _))|fail)
  refine fun (y:B) (hy:y=pI (ndT (.node ids k)))=>?_;subst hy;obtain ⟨a',m',mk',l',q',H',hnv2,hlst2,hmp2,hmk2,hpm2,hrk2,hav2,ham2,hHv2,hHm2,hHa2,hF2⟩:=hp2.rep;refine aB (rnO [(0,0),(1,1),(2,2)] [(0,0),(1,1),(2,2)] (noO 0 (.node a' ids.length m' ((ids.length+szK k:Nat):Int) mk'))) (aA (congrArg (fun o=>rnO [(0,0),(1,1),(2,2)] [(0,0),(1,1),(2,2)] (noO 0 o)) hnv2) ?_);refine aB _ (aA (vY _ _ _) ?_);have hpo:DPo ⟨N,.node ids k,v,F⟩ (put N2 v (.node a' ids.length m' ((ids.length+szK k:Nat):Int) (pI (ndT (.node ids k))))):=by
   have hMk2:=Vi (mk':=pI (ndT (.node ids k))) hnv2;have hne:∀ x,x≠v->put N2 v (.node a' ids.length m' ((ids.length+szK k:Nat):Int) (pI (ndT (.node ids k)))) x=N2 x:=fun x hx=>Mx (o:=.node a' ids.length m' ((ids.length+szK k:Nat):Int) (pI (ndT (.node ids k)))) hx;have hmv:m'≠v:=by
    intro e;subst e;rw [hmp2] at hnv2;cases hnv2
   refine ⟨hp2.mrk.trans hMk2,fun z hz=>?_,a',m',_,l',q',H',C4 _ _ _,?_,(hne _ hmv).trans hmp2,.inr rfl,hpm2,?_,hav2,ham2,hHv2,hHm2,hHa2,hF2⟩
   ·have hzv:z≠v:=fun e=>hz ((hF2 z).2 (.inl e));exact (hne z hzv).trans (hp2.out z hz)
   ·rw [hne _ hav2];exact hlst2
   ·exact mB hrk2 fun x hx=>hne x fun e=>hHv2 (e ▸ hx)
  refine aB (put N2 v (.node a' ids.length m' ((ids.length+szK k:Nat):Int) (pI (ndT (.node ids k))))) (aA hpo ?_);repeat' (first|apply aA|exact trivial|exact rfl|exact sA (oF (by exact rfl)) (fun i=>mO (by exact rfl) (by exact rfl) (N2 i))|fail)
 ·refine fun (hk0:decide (mk=[])=false)=>?_;replace hk0:mk≠[]:=of_decide_eq_false hk0;have hmk':mk=pH Dd (.node ids k):=by
   rcases hmk with h|h
   ·exact absurd h hk0
   ·exact h
  refine aB (noO 0 (.node a ids.length m ((ids.length+szK k:Nat):Int) mk)) (aA (congrArg (noO 0) hnv) ?_);refine aB N (aA ⟨Mk.refl N,fun _ _=>rfl,hok.rep⟩ ?_);repeat' (first|exact hmk'|apply aA|exact trivial|exact zm N rfl|fail)
theorem sh0:(shS 0).Ok Tryz.prog 57:=by
 refine ⟨tR e57,?_⟩;intro x w μ vs T U;intros;rename_i hp _;have:=Jg x.T;have:=hp.ht;omega
theorem both:∀ n,(dgS n).Ok Tryz.prog 55/\(shS n).Ok Tryz.prog 57
 | 0=>⟨dg0,sh0⟩
 | n+1=>⟨aAc (Wt (both n).1),Wt (both n).1⟩
end D10
end
section
open Go Go.Eng Go.Proofs T1 T2 T3 T4 T5 T6 T7 T8 T13 T14 T17 T23 T25 T28 T30 T31 D3 D6 D9 D10
set_option maxRecDepth 100000
namespace D11
def g23:List Nat:=[4,0,2]
def c23:bH :=
 .seq (.region g23 [(zo 2 (.move (.c (.str []))))]) (.seq (.seq (.region g23 [(mv 3 0),(zo 4 (.ptrEq false (.s 3) (.c (.nilptr))))]) (.cond (.s 4) (.seq (.region g23 [(zo 2 (.move (.c (.str []))))]) .ret) .skip)) (.seq (.region g23 [(mv 5 0),(zo 6 (.nilCheck (.s 5))),(fa 7 0 6),(ld 8 7),(zo 9 (.call (.c (.fn 55)) [.s 8])),(mv 2 9)]) .ret))
theorem e23:cR Tryz.prog 23 g23 [] [] []=some (c23,[.slot 2],10):=by kernel_rfl
def aBh:bU where
 X:=DX
 Y:=Nat->NO
 args:=fun _=>.cons (.own 0 0) .nil
 pre:=fun x=>DOk (htT x.T) x
 h0:=fun x=>tH 0 1 x.v x.N
 nx0:=2
 post:=DPo
 res:=fun x _=>.str (pH Dd x.T)
 h1:=fun x y=>tH 0 1 x.v y
 nx1:=2
theorem Ve:aBh.Ok Tryz.prog 23:=by
 refine Eng.bU.okR e23 .nil (fun x=>[(55,.m (dgS (htT x.T)))]) (fun x _=>aZ.m (both (htT x.T)).1 aZ.nil) ?_;rintro ⟨N,T,v,F⟩ (hok:DOk (htT T) ⟨N,T,v,F⟩);refine ⟨trivial,?_⟩;repeat' (first|apply aA|exact zf|refine zt ?_|fail)
 refine aB ⟨N,T,v,F⟩ (aB [1] ?_);repeat' (first|exact hok|apply aA|exact trivial|exact rfl|exact zm N rfl|fail)
 refine fun (N2:Nat->NO) (hp2:DPo ⟨N,T,v,F⟩ N2)=>?_;refine aB N2 (aA hp2 ?_);repeat' (first|apply aA|exact trivial|exact rfl|exact zr N2 rfl rfl|fail)
theorem Mv {N:Nat->NO}:∀ (p:B) {T:TT} {v:Nat} {F:Nat->Prop} {s:TT},iM Dd N T v F->wfT T->gG p T=some s ->
  ∃ u G,atN N v p=some u/\iM Dd N s u G/\(∀ x,G x->F x)/\∀ N',iM Dd N' s u G->(∀ x,¬ G x->N' x=N x)->iM Dd N' T v F
 | [],T,v,F,s,h,_,e=>by
  cases e;exact ⟨v,F,rfl,h,fun _ hx=>hx,fun N' h' _=>h'⟩
 | b::p,.node ids k,v,F,s,h,w,e=>by
  simp only [gG] at e;obtain ⟨s1,hg,e2⟩:=aD.1 e;replace w:Srt ids/\Sb (dF k)/\wfK k:=w;obtain ⟨a,m,mk,l,q,H,hnv,hlst,hmp,hmk,hpm,hrk,hav,ham,hHv,hHm,hHa,hF⟩:=h;obtain ⟨u1,τ,G1,hmg,hru,hG1,hup⟩:=Hp hrk hg w.2.1;obtain ⟨u,G,hat,hrs,hGG,hre⟩:=Mv p hru (nW hg w.2.2).1 e2;refine ⟨u,G,?_,hrs,fun x hx=>(hF x).2 (.inr (.inr (.inr (hG1 x (hGG x hx))))),fun N' h1 h2=>?_⟩
  ·have hk:xY N v b=some u1:=by rw [qD hnv hmp,hmg]; rfl
   simp only [atN,hk];exact hat
  ·have hr1:iM Dd N' s1 u1 G1:=hre N' h1 h2;have hH:∀ x,¬ H x->N' x=N x:=fun x hx=>h2 x fun hg=>hx (hG1 x (hGG x hg));have hrk':=hup N' hr1 fun x hx=>h2 x fun hg=>hx (hGG x hg);exact ⟨a,m,mk,l,q,H,(hH v hHv).trans hnv,by rw [hH a hHa]; exact hlst,(hH m hHm).trans hmp,hmk,hpm,hrk',hav,ham,hHv,hHm,hHa,hF⟩
theorem Ed:∀ {k:TK} {b:UInt8} {s:TT},eW k b=some s->(b,s)∈eB k
 | .nil,_,_,h=>by cases h
 | .cons x t r,b,s,h=>by
  simp only [eW] at h;simp only [eB];by_cases e:x=b
  ·rw [if_pos e] at h; cases h; subst e; exact aQ
  ·rw [if_neg e] at h; exact aK _ (Ed h)
theorem C8:∀ (p:B) {T s:TT},gG p T=some s->wfT T->G3 T->shT T->wfT s/\G3 s/\shT s/\htT s<=htT T/\szT s<=szT T
 | [],_,_,e,w,l,h=>by cases e; exact ⟨w,l,h,aL _,aL _⟩
 | b::p,.node ids k,s,e,w,l,h=>by
  simp only [gG] at e;obtain ⟨s1,hg,e2⟩:=aD.1 e;replace w:Srt ids/\Sb (dF k)/\wfK k:=w;replace h:(∀ i∈ids,i.length<=1000000)/\shK k:=h;obtain ⟨f1,f2,f3,f4,f5⟩:=tW (Ed hg) w.2.2 l;obtain ⟨g1,g2,g3,g4,g5⟩:=C8 p e2 f1 f3 (Jr (Ed hg) h.2);exact ⟨g1,g2,g3,by simp only [htT]; omega,by simp only [szT]; omega⟩
structure NX where
 x:DX
 c:Nat
 p:B
def ndO:Option TT->ND
 | none=>⟨[],[],[]⟩
 | some s=>ndT s
def g25:List Nat:=[0,1,11,6,4,5]
def c25:bH :=
 .seq (.region g25 [(zo 4 (.alloc 39 (.cons (.nilsl) (.cons (.str []) (.cons (.nilsl) .nil))))),(zo 5 (.move cF))]) (.seq (.region g25 [(mv 7 0),(mv 8 1),(zo 9 (.call (.c (.fn 56)) [.s 7,.s 8])),(mv 6 9)]) (.seq (.seq (.region g25 [(mv 10 6),(zo 11 (.ptrEq false (.s 10) (.c (.nilptr))))]) (.cond (.s 11) (.seq (.region g25 [(zo 12 (.build (.cons (.nilsl) (.cons (.str []) (.cons (.nilsl) .nil))) [])),⟨none,none,.store 3 (.s 4) (.s 12),[]⟩,(zo 5 (.move cF))]) .ret) .skip)) (.seq (.region g25 [(mv 13 6),(zo 14 (.call (.c (.fn 57)) [.s 13])),⟨none,none,.store 3 (.s 4) (.s 14),[]⟩,(zo 5 (.move cT))]) .ret)))
theorem e25:cR Tryz.prog 25 g25 [] [] []=some (c25,[.cell 4 3 true,.slot 5],15):=by kernel_rfl
def Wm:bU where
 X:=NX
 Y:=(Nat->NO)×ND×Bool
 args:=fun x=>.cons (.own 0 0) (.cons (.str x.p) .nil)
 pre:=fun x=>DOk (htT x.x.T) x.x/\Cl x.x.N x.c/\x.p.length<=1000000
 h0:=fun x=>tH 0 1 x.x.v x.x.N
 nx0:=2
 post:=fun x y=>DPo x.x y.1/\y.2.1=ndO (gG x.p x.x.T)/\y.2.2=(gG x.p x.x.T).isSome
 res:=fun _ y=>.tup (.cons (.agg (.cons (.lsl 2 1 y.2.1.ids.length) (.cons (.str y.2.1.bys) (.cons (.lsl 3 1 y.2.1.kids.length) .nil)))) (.cons (.bool y.2.2) .nil))
 h1:=fun x y=>lsH 3 y.2.1.kids::lsH 2 y.2.1.ids::tH 0 1 x.x.v y.1
 nx1:=4
theorem U5:Wm.Ok Tryz.prog 25:=by
 refine Eng.bU.okR e25 .nil (fun x=>[(56,.m atS),(57,.m (shS (htT x.x.T)))]) (fun x _=>aZ.m B6 (aZ.m (both (htT x.x.T)).2 aZ.nil)) ?_;rintro ⟨⟨N,T,v,F⟩,c,p⟩ ⟨(hok:DOk (htT T) ⟨N,T,v,F⟩),(hcl:Cl N c),(hp:p.length<=1000000)⟩;have hrep:iM Dd N T v F:=hok.rep;have hnd:isNode N v:=by
  cases T with
  | node ids k =>
  obtain ⟨a,m,mk,l,q,H,hnv,_⟩:=hrep;exact ⟨_,_,_,_,_,hnv⟩
 have hpre:Cl N c/\isNode N v/\p.length < 4611686018427387904:=⟨hcl,hnd,by omega⟩;refine ⟨trivial,?_⟩;refine aB (v,N,c,p) (aB [0,1] ?_);repeat' (first|exact hpre|apply aA|exact trivial|exact rfl|exact zm N rfl|fail)
 refine fun (y:Option Nat) (hy:y=atN N v p)=>?_;obtain ⟨o,ho⟩:∃ o,gG p T=o:=⟨_,rfl⟩;cases o with
 | none =>
  have hat:atN N v p=none:=(Dj p hrep hok.wf).2 ho;obtain rfl:y=none:=hy.trans hat;repeat' (first|apply aA|exact zh|refine zt ?_|fail)
  have h1:(ndO (gG p T)).ids.length=0:=by rw [ho]; rfl
  have h2:(ndO (gG p T)).kids.length=0:=by rw [ho]; rfl
  have h3:(ndO (gG p T)).bys=[]:=by rw [ho]; rfl
  have h4:(gG p T).isSome=false:=by rw [ho]; rfl
  refine aB (N,ndO (gG p T),(gG p T).isSome) (aA ⟨⟨Mk.refl N,fun _ _=>rfl,hok.rep⟩,rfl,rfl⟩ ?_);repeat' (first|exact h1|exact h2|exact h3.symm|exact h4.symm|apply aA|exact trivial|exact rfl|exact zr N rfl rfl|fail)
 | some s =>
  obtain ⟨u,G,hat,hrs,hGF,hre⟩:=Mv p hrep hok.wf ho;obtain rfl:y=some u:=hy.trans hat;obtain ⟨f1,f2,f3,f4,f5⟩:=C8 p ho hok.wf hok.low hok.sh;have hks:DOk (htT T) ⟨N,s,u,G⟩:=⟨hrs,f1,show szT s<=24 from bC f5 hok.sz,hok.tk,f2,f4,f3⟩;have h1:(ndO (gG p T)).ids=(ndT s).ids:=by rw [ho]; rfl
  have h2:(ndO (gG p T)).kids=(ndT s).kids:=by rw [ho]; rfl
  have h3:(ndO (gG p T)).bys=(ndT s).bys:=by rw [ho]; rfl
  have h4:(gG p T).isSome=true:=by rw [ho]; rfl
  have h5:(ndO (gG p T)).ids.length=(ndT s).ids.length:=by rw [h1]
  have h6:(ndO (gG p T)).kids.length=(ndT s).kids.length:=by rw [h2]
  repeat' (first|apply aA|exact zf|refine zt ?_|fail)
  refine aB ⟨N,s,u,G⟩ (aB [1] ?_);repeat' (first|exact hks|apply aA|exact trivial|exact rfl|exact zr N rfl rfl|fail)
  refine fun (N2:Nat->NO) (hp2:DPo ⟨N,s,u,G⟩ N2)=>?_;have hpo:DPo ⟨N,T,v,F⟩ N2:=⟨hp2.mrk,fun z hz=>hp2.out z fun h=>hz (hGF z h),hre N2 hp2.rep hp2.out⟩;refine aB (N2,ndO (gG p T),(gG p T).isSome) (aA ⟨hpo,rfl,rfl⟩ ?_);repeat' (first|exact h5.symm|exact h6.symm|exact h3.symm|exact h4.symm|apply aA|exact trivial|exact rfl|exact zr N2 rfl rfl|exact Fg h1.symm|exact Fg h2.symm|fail)
end D11
end
