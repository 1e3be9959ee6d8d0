/- A part of the proof. -/
import Derived.Test.YtpiolkcdfgiefaaGreatDoorQ12
import Derived.Test.YtpiolkcdfgiefaaGreatDoorEngVia
import Derived.Test.YtpiolkcdfgiefaaGreatDoorRows
import Derived.ProofKit
import Derived.OpenShut
import Derived.SizedLaws
import Derived.HandedShaped
import Derived.Deep.DeepHandedRow
import Derived.LaidMore
import Derived.Lay
import Derived.Stop.Joined
import Derived.Test.YtpiolkcdfgiefaaGreatDoorEngC
import Derived.Test.YtpiolkcdfgiefaaGreatDoorTie
import Derived.Stop.LaidErr
import Derived.Shelf.Vars
section
open Go Go.Eng Go.Proofs A0 T1 T2 T3 T4 T5 T6 T7 T8 T9 T10 T11 T12 T13 T14 T17 T18 T19 T20 T21 T22 T23 T24 T25 T26 T27 T28 T30 T31 T33 D3 D6 D9 D10 D11 D12 D13 D14 T34 T35 T37 T62 Q3 Q4 Q6 Q7 Q8 Q9 Q10 Q11 Q12
set_option maxRecDepth 100000
namespace Q13
def g4:List Nat:=[3,52,0,11,13,7,80,84,91,1,15,16,129,14,2,9,17,19,18,20,10,12,8]
def c4:aY :=
 .seq (.region g4 [(zo 7 (.box 39 (.s 3))),(zo 8 (.move cF))]) (.seq (.region g4 [(zo 21 (.call (.c (.fn 10)) [])),(mv 9 21)]) (.seq (.seq (.region g4 [(mv 22 0),(zo 23 (.call (.c (.fn 17)) [.s 22,cj 12])),(zo 24 (.not (.s 23))),(mv 25 24),(mg 26 25 false 1),(zg 27 25 false (.call (.c (.fn 12)) [.s 26])),(zg 28 25 false (.not (.s 27))),(zo 29 (.pick (.s 25) cT (.s 28))),(mv 30 29),(mg 31 30 false 2),(zg 32 30 false (.lenStr (.s 31))),(zg 33 30 false (.bin (.gtr) (.s 32) (cj 40))),(zo 34 (.pick (.s 30) cT (.s 33))),(mv 35 34),(fg 36 35 false 0 7),(lg 37 35 false 36),(zg 38 35 false (.lenSl (.s 37))),(zg 39 35 false (.bin (.gtr) (.s 38) (cj 12))),(zo 40 (.pick (.s 35) cT (.s 39))),(mv 41 40),(fg 42 41 false 1 7),(lg 43 41 false 42),(zg 44 41 false (.lenStr (.s 43))),(zg 45 41 false (.bin (.gtr) (.s 44) (cj 12))),(zo 46 (.pick (.s 41) cT (.s 45))),(mv 47 46),(fg 48 47 false 2 7),(lg 49 47 false 48),(zg 50 47 false (.lenSl (.s 49))),(zg 51 47 false (.bin (.gtr) (.s 50) (cj 12))),(zo 52 (.pick (.s 47) cT (.s 51)))]) (.cond (.s 52) (.seq (.region g4 [(mv 53 9),(mv 8 53)]) .ret) .skip)) (.seq (.region g4 [(mv 55 0),(zo 56 (.call (.c (.fn 11)) [.s 55])),(mv 54 56),(zo 57 (.extract 0 (.s 54))),(zo 58 (.extract 1 (.s 54))),(mv 10 57),(mv 11 58)]) (.seq (.region g4 [(mv 60 0),(zo 61 (.call (.c (.fn 18)) [.s 60])),(mv 59 61),(zo 62 (.extract 0 (.s 59))),(zo 63 (.extract 1 (.s 59))),(mv 12 62),(mv 13 63)]) (.seq (.seq (.drawn g4 (.pure 0 (mv 64 11) (.pure 1 (mv 65 13) (.pure 2 (zo 66 (.bin (.neq) (.s 64) (.s 65))) (.pure 3 (mv 67 66) (.pure 4 (mg 68 67 false 10) (.pure 5 (zg 69 67 false (.ptrEq false (.s 68) (.c (.nilptr)))) (.pure 6 (mg 70 67 false 12) (.pure 7 (zg 71 67 false (.ptrEq false (.s 70) (.c (.nilptr)))) (.pure 8 (zg 72 67 false (.eqB true (.s 69) (.s 71))) (.pure 9 (zo 73 (.pick (.s 67) cT (.s 72))) (.pure 10 (mv 74 73) (.pure 11 (zg 75 74 false (.load 3 true (.s 7))) (.pure 13 (zg 77 74 false (.load 3 true (.s 7))) (.eff 12 (zg 76 74 false (.call (.c (.fn 19)) [.s 75])) [(zg 77 74 false (.load 3 true (.s 7)))] (.eff 14 (zg 78 74 false (.call (.c (.fn 20)) [.s 77])) [] (.pure 15 (zg 79 74 false (.bin (.neq) (.s 76) (.s 78))) (.pure 16 (zo 80 (.pick (.s 74) cT (.s 79))) .done)) .none) .none))))))))))))))) (.cond (.s 80) (.seq (.region g4 [(zo 8 (.move cF))]) .ret) .skip)) (.seq (.seq (.region g4 [(zo 14 (.move (cj 0)))]) (.block 0 (.loop 0 [81,82,83,84,87,88,89,90,91,92,93,94,95,96,97,98,99,100,101,102,103,104,105,106,107,108,109,110,111,112,113,114,115,116,117,118,119,15,16,120,121,122,123,124,125,126,127,128,129,8,85,86,14] (.seq (.seq (.region g4 [(mv 81 14),(mv 82 1),(zo 83 (.lenSl (.s 82))),(zo 84 (.bin (.lss) (.s 81) (.s 83)))]) (.cond (.s 84) .skip (.exit 0))) (.seq (.block 1 (.seq (.region g4 [(zo 15 (.move (cj 0))),(zo 16 (.move (cj 0)))]) (.seq (.seq (.region g4 [(mv 87 1),(mv 88 14),(zo 89 (.idxSl 3 (.s 87) (.s 88))),(fa 90 0 89),(ld 91 90)]) (.join 1 [92,93,94,95,96,97,98,99,100,101,102,103,104,105,106,107,108,109,110,111,112,113,114,115,116,117,118,119,15,16] (.cond (.s 91) (.drawn g4 (.pure 0 (mv 92 10) (.pure 1 (mv 93 1) (.pure 2 (mv 94 14) (.pure 3 (zo 95 (.idxSl 3 (.s 93) (.s 94))) (.pure 4 (fa 96 1 95) (.pure 5 (zo 97 (.load 2 true (.s 96))) (.pure 7 (mv 99 12) (.pure 8 (mv 100 1) (.pure 9 (mv 101 14) (.pure 10 (zo 102 (.idxSl 3 (.s 100) (.s 101))) (.pure 11 (fa 103 1 102) (.pure 12 (zo 104 (.load 2 true (.s 103))) (.eff 6 (zo 98 (.call (.c (.fn 14)) [.s 92,.s 97])) [(zo 104 (.load 2 true (.s 103)))] (.eff 13 (zo 105 (.call (.c (.fn 21)) [.s 99,.s 104])) [] (.pure 14 (mv 15 98) (.pure 15 (mv 16 105) .done)) .none) .none)))))))))))))) (.drawn g4 (.pure 0 (mv 106 10) (.pure 1 (mv 107 1) (.pure 2 (mv 108 14) (.pure 3 (zo 109 (.idxSl 3 (.s 107) (.s 108))) (.pure 4 (fa 110 1 109) (.pure 5 (zo 111 (.load 2 true (.s 110))) (.pure 7 (mv 113 12) (.pure 8 (mv 114 1) (.pure 9 (mv 115 14) (.pure 10 (zo 116 (.idxSl 3 (.s 114) (.s 115))) (.pure 11 (fa 117 1 116) (.pure 12 (zo 118 (.load 2 true (.s 117))) (.eff 6 (zo 112 (.call (.c (.fn 15)) [.s 106,.s 111])) [(zo 118 (.load 2 true (.s 117)))] (.eff 13 (zo 119 (.call (.c (.fn 22)) [.s 113,.s 118])) [] (.pure 14 (mv 15 112) (.pure 15 (mv 16 119) .done)) .none) .none))))))))))))))))) (.seq (.region g4 [(mv 120 15),(mv 121 16),(zo 122 (.bin (.neq) (.s 120) (.s 121))),(mv 123 122),(mg 124 123 false 10),(zg 125 123 false (.call (.c (.fn 23)) [.s 124])),(mg 126 123 false 12),(zg 127 123 false (.call (.c (.fn 24)) [.s 126])),(zg 128 123 false (.bin (.neq) (.s 125) (.s 127))),(zo 129 (.pick (.s 123) cT (.s 128)))]) (.cond (.s 129) (.seq (.region g4 [(zo 8 (.move cF))]) .ret) .skip))))) (.region g4 [(mv 85 14),(zo 86 (.bin (.add) (.s 85) (cj 1))),(mv 14 86)])))))) (.seq (.region g4 [(mv 131 10),(mv 132 2),(zo 133 (.call (.c (.fn 25)) [.s 131,.s 132])),(mv 130 133),(zo 134 (.extract 0 (.s 130))),(zo 135 (.extract 1 (.s 130))),(zo 17 (.alloc 39 (.cons (.nilsl) (.cons (.str []) (.cons (.nilsl) .nil))))),⟨none,none,.store 3 (.s 17) (.s 134),[]⟩,(mv 18 135)]) (.seq (.region g4 [(mv 137 12),(mv 138 2),(zo 139 (.call (.c (.fn 26)) [.s 137,.s 138])),(mv 136 139),(zo 140 (.extract 0 (.s 136))),(zo 141 (.extract 1 (.s 136))),(zo 19 (.alloc 39 (.cons (.nilsl) (.cons (.str []) (.cons (.nilsl) .nil))))),⟨none,none,.store 3 (.s 19) (.s 140),[]⟩,(mv 20 141)]) (.seq (.region g4 [(mv 142 9),(mv 143 142),(zg 144 143 true (.load 3 true (.s 17))),(zg 145 143 true (.load 3 true (.s 19))),(zg 146 143 true (.call (.c (.fn 27)) [.s 144,.s 145])),(zo 147 (.pick (.s 143) (.s 146) cF)),(mv 148 147),(mg 149 148 true 18),(mg 150 148 true 20),(zg 151 148 true (.eqB false (.s 149) (.s 150))),(zo 152 (.pick (.s 148) (.s 151) cF)),(mv 153 152),(mg 154 153 true 10),(zg 155 153 true (.call (.c (.fn 16)) [.s 154])),(mg 156 153 true 12),(zg 157 153 true (.call (.c (.fn 29)) [.s 156])),(zg 158 153 true (.call (.c (.fn 28)) [.s 155,.s 157])),(zo 159 (.pick (.s 153) (.s 158) cF)),(mv 160 159),(mg 161 160 true 10),(zg 162 160 true (.call (.c (.fn 23)) [.s 161])),(mg 163 160 true 12),(zg 164 160 true (.call (.c (.fn 24)) [.s 163])),(zg 165 160 true (.bin (.eql) (.s 162) (.s 164))),(zo 166 (.pick (.s 160) (.s 165) cF)),(mv 8 166)]) .ret)))))))))
def r4:List lL:=[.slot 8]
def k4:List (Nat×Nat×aY×Nat):=[]
theorem e4:bO Tryz.prog 4 g4 [3] [76,78,98,105,112,119] k4=some (c4,r4,167):=by kernel_rfl
theorem q4:lT Tryz.prog k4:=lT.nil
structure KX where
 T:TT
 k:Ky
def aFu:bC:=via aFt (X':=KX) (Y':=Bool×Int) (λx=>(bB [] x.T,x.k)) (λx=>wfT x.T/\(bB [] x.T).length<=1000000)
 (λx y=>y.2=dcT x.T x.k) (λ_ y=>.int .i64 y.2) (λx y=>bif y.1 then rtH 2 (bB [] (lP x.T x.k))else rtH 1 (bB [] (lP x.T x.k)))
theorem aC8:aFu.Ok Tryz.prog 21:=by
 refine Fm aC7 (λx h=>h.2) λx y h hy=>?_;obtain⟨b,e⟩:=y;obtain⟨(h1:b=!decide (jJ (bB [] x.T) x.k<0)),(h2:e=bif decide (jJ (bB [] x.T) x.k<0)then 10 else 0)⟩:=hy;have hk:=Oc h.1 (k:=x.k);rw[<- h1]at hk;refine⟨(b,e),h2.trans (xC h.1),rfl,?_⟩;cases b with
 |true=>exact congrArg (rtH 2) hk.symm
 |false=>exact congrArg (rtH 1) hk.symm
def aFx:bC:=via Zw (X':=KX) (Y':=Bool×Int) (λx=>(bB [] x.T,x.k)) (λx=>wfT x.T/\(bB [] x.T).length<=1000000/\x.k.1.length<4611686018427387904/\x.k.2.length<4611686018427387904)
 (λx y=>y.2=pcT x.T x.k) (λ_ y=>.int .i64 y.2) (λx y=>bif y.1 then rtH 2 (bB [] (lQ x.T x.k))else rtH 1 (bB [] (lQ x.T x.k)))
theorem aDg:aFx.Ok Tryz.prog 22:=by
 refine Fm Yb (λx h=>h.2) λx y h hy=>?_;obtain⟨b,e⟩:=y;obtain⟨(h1:e=yU (bB [] x.T) x.k),(h2:b=decide (e=0))⟩:=hy;have hk:=Tz h.1 (k:=x.k);rw[A4 h.1]at h1;rw[<- h1,<- h2]at hk;refine⟨(b,e),h1,rfl,?_⟩;cases b with
 |true=>exact congrArg (rtH 2) hk.symm
 |false=>exact congrArg (rtH 1) hk.symm
def nkM:bC:=nkS.mof Int (λ_ y=>y=1) (λ_ y=>.int .i64 y)
def tb(b:Bool):List (Nat×fV):=bif b then
  [(10,.p R8),(17,.m Wl),(12,.m Sz),(11,.m (Xq Dd)),(18,.m Uq),(19,.m D10.Rc),(20,.m Ud),(14,.m dtS),(21,.m aFu),(15,.m ptS),(22,.m aFx),(23,.m aFw),(24,.m Zx),(25,.m aFe),(26,.m aDc),(27,.m Nc),(16,.m aE3),(29,.m Zv),(28,.m T22.aB9)]
 else
  [(10,.p R8),(17,.m Wl),(12,.m Sz),(11,.m (Xq Dd)),(18,.m Uq),(19,.m D10.Rc),(20,.m Ud),(14,.m nkM),(21,.m nkM),(15,.m nkM),(22,.m nkM),(23,.p Xv),(24,.p Xv),(25,.p Tl),(26,.p Tl),(27,.m Nc),(16,.p Xt),(29,.p Xt),(28,.m T22.aB9)]
theorem E1{f:Nat}(h:nkS.Ok Tryz.prog f):nkM.Ok Tryz.prog f:=Eng.Spec.jW h λ_ _=>⟨_,rfl,rfl⟩
theorem aF8:∀b,aO Tryz.prog (tb b)
 |true=>aO.p L7 (aO.m Eb (aO.m Gz (aO.m (J7 Dd) (aO.m M9 (aO.m D10.zA (aO.m zN (aO.m Y6 (aO.m aC8 (aO.m Zs (aO.m aDg (aO.m aDf (aO.m Yc (aO.m aCs (aO.m Up (aO.m A9 (aO.m aCe (aO.m X7 (aO.m T22.Mi aO.nil))))))))))))))))))
 |false=>aO.p L7 (aO.m Eb (aO.m Gz (aO.m (J7 Dd) (aO.m M9 (aO.m D10.zA (aO.m zN (aO.m (E1 Te) (aO.m (E1 Pb) (aO.m (E1 Xu) (aO.m (E1 To) (aO.p Tn (aO.p Pe (aO.p Tm (aO.p Pd (aO.m A9 (aO.p Th (aO.p Pc (aO.m T22.Mi aO.nil))))))))))))))))))
structure LX where
 l:List Ky
 a:List Ac
 p:B
 n:ND
structure LOk(x:LX):Prop where
 ll:x.l.length<4611686018427387904
 lt:∀j,j<x.l.length->(x.l.getD j k0).1.length<4611686018427387904/\(x.l.getD j k0).2.length<4611686018427387904
 al:x.a.length<4611686018427387904
 at_:∀j,j<x.a.length->(x.a.getD j a0).2.1.length<4611686018427387904/\(x.a.getD j a0).2.2.length<4611686018427387904
 pl:x.p.length<4611686018427387904
 ni:x.n.ids.length<4611686018427387904
 nk:x.n.kids.length<4611686018427387904
 nb:x.n.bys.length<4611686018427387904
 nis:∀s∈x.n.ids,s.length<=1048576
 nks:∀s∈x.n.kids,s.length<=1048576
def aGu:Eng.Spec where
 X:=LX
 args:=λx=>.cons (ksE x.l) (.cons (acE x.a) (.cons (.str x.p) (.cons (.agg (ndL x.n)) .nil)))
 pre:=LOk
 res:=λ_=>.bool true
 inst:=λ_=>none
theorem Aw:∀(l:List Ky) {T:TT},wfT T->(∀k∈l,kM k=false)->szT T+l.length<=20000->(tS l T).1=0\/(tS l T).1=8
 | [],_,_,_,_=>.inl rfl
 |k::l,T,w,hv,hs=>by
  rw[bA]at hs;have hk:kF k.1 k.2=true:=by simpa[kM]using hv k aZ
  unfold tS;by_cases hm:gO k.1 k.2 T
  .have h1:pcT T k=8:=by unfold pcT; rw[hk,iY.2 hm]; rfl
   rw[if_neg (by rw[h1]; decide)];exact .inr h1
  .have h1:pcT T k=0:=wJ.2 ⟨hk,hm,by omega⟩;rw[if_pos h1];have hz:=oT (i:=k.2) k.1 w;exact Aw l (sY k.1 w hm) (λx hx=>hv x (aW _ hx)) (by omega)
theorem O7(l:List Ky):(T19.fK l).1=0\/(T19.fK l).1=1\/(T19.fK l).1=2\/(T19.fK l).1=8:=by
 unfold T19.fK;by_cases h1:20000<l.length
 .rw [if_pos h1];exact .inr (.inr (.inl rfl))
 .rw [if_neg h1];by_cases h2:l.any kM=true
  .rw [if_pos h2];exact .inr (.inl rfl)
  .rw [if_neg h2];have h:=Aw l oU (λk hk=>by
    rw[iP]at h2;cases hb:kM k with
    |false=>rfl
    |true=>exact absurd ⟨k,hk,hb⟩ h2) (by show 0+_<=_; omega)
   rcases h with h|h
   .exact .inl h
   .exact .inr (.inr (.inr h))
theorem Rb{n:ND}(h1:n.ids.length<=12)(h2:n.kids.length<=12)(h3:∀s∈n.ids,s.length<=1048576)(h4:∀s∈n.kids,s.length<=1048576):(n.ids.length<=100000/\n.kids.length<=100000)/\room (D6.cA n++dO n n.kids.length)<=140737488355328/\(dG (D6.cA n++dO n n.kids.length)).length<=140737488355328:=by
 have hel:∀s∈D6.cA n++dO n n.kids.length,s.length<=1048576:=by
  intro s hs;rcases bT.1 hs with h|h
  .simp only [D6.cA,aR]at h;rcases h with rfl|rfl|h
   .decide
   .exact aV (D9.sH _ (by omega)) (by decide)
   .exact h3 s h
  .have hk:∀j,∀s∈dO n j,s.length<=1048576:=by
    intro j;induction j with
    |zero=>intro s hs; cases hs
    |succ j ih =>
     intro s hs;simp only[dO,bT,aR,eO,or_false]at hs;rcases hs with hs|rfl|rfl
     .exact ih s hs
     .exact aV (List.length_take_le 1 _) (by decide)
     .by_cases hj:j<n.kids.length
      .rw [aK,aM hj];exact h4 _ (eM hj)
      .rw [aK,List.getElem?_eq_none (by omega)];exact aS _
   exact hk _ s h
 have hlen:(D6.cA n++dO n n.kids.length).length<=38:=by rw[mY]; omega
 have hm:(D6.cA n++dO n n.kids.length).length*(1048576+21)<=38*(1048576+21):=bP _ hlen;exact⟨⟨by omega,by omega⟩,aV (A8 hel) (by omega),aV (D9.sI (by decide) hel) (by omega)⟩
theorem dgf(y:B){n m:Nat}:bN (bN (!decide ((0:Int)=0)) cT (.s n) true (!decide (false=false))) cT (.s m) true (!decide (y=y))=false:=by simp[dL]
theorem nff(f:Int):(!decide (f=f))=false:=by simp
theorem dgn(y:B)(e:Int){n m:Nat}:bN (bN (!decide (e=e)) cT (.s n) true (!decide (true=true))) cT (.s m) true (!decide (y=y))=false:=by simp[dL]
def nd0:ND:=⟨[],[],[]⟩
theorem aCp:nd0.ids.length<4611686018427387904/\nd0.kids.length<4611686018427387904:=by decide
theorem aCq:([]:List Ky).length<4611686018427387904:=by decide
theorem dgm(e:Int){n:Nat}:bN (!decide (e=e)) cT (.s n) true (!decide (true=true))=false:=by simp[dL]
theorem dg2(f:Int)(y:B){n:Nat}:bN (!decide (f=f)) cT (.s n) true (!decide (y=y))=false:=by simp[dL]
attribute [local irreducible] D9.Dd D6.mQ D6.kQ iK T19.fK iO
set_option maxHeartbeats 16000000 in
theorem aC9:aGu.Ok Tryz.prog 4:=by
 refine Eng.Spec.okR e4 q4 (λx=>tb (decide ((T19.fK x.l).1=0))) (λx _=>aF8 _) ?_;rintro⟨l,a,p,n⟩ hx;have hl:l.length<4611686018427387904:=hx.ll;have ha:a.length<4611686018427387904:=hx.al;refine⟨trivial,?_⟩;generalize hbb:decide ((T19.fK (LX.mk l a p n).l).1=0)=bb;have hpa:a.length<4611686018427387904/\∀j,j<a.length->(a.getD j a0).2.1.length<4611686018427387904:=⟨ha,λj hj=>(hx.at_ j hj).1⟩;cases bb with
 |true =>
  repeat' (first|apply aA|exact trivial)
  refine aB (l,12) (aB [] ?_);repeat' (first|exact hl|apply aA|exact trivial|exact rfl|exact lz λ_=>rfl|fail)
  refine λ(y:Bool) (hf1:y=tP l 12)=>?_;cases y
  .repeat' (first|apply aA|exact rfl|exact zh|refine zt ?_|fail)
  repeat' (first|apply aA|exact zf|refine zt ?_|fail)
  refine aB a (aB [] ?_);repeat' (first|exact ha|apply aA|exact trivial|exact rfl|exact lz λ_=>rfl|fail)
  refine λ(y:Bool) (hf2:y=Ae a)=>?_;cases y
  .repeat' (first|apply aA|exact rfl|exact zh|refine zt ?_|fail)
  repeat' (first|refine aA ?_ ?_)
  .refine λ(_:bN _ _ _ _ _=true)=>?_;repeat' (first|exact rfl)
  refine λ(hx2:bN _ _ _ _ _=false)=>?_;simp only[dL,cZ,decide_eq_false_iff_not]at hx2;have hp40:p.length<=40:=by have:=hx2.1.1.1.2; omega
  have hni:n.ids.length<=12:=by have:=hx2.1.1.2; omega
  have hnk:n.kids.length<=12:=by have:=hx2.2; omega
  clear hx2;have hpn:l.length<4611686018427387904/\∀j,j<l.length->(l.getD j k0).1.length<4611686018427387904:=⟨hl,λj hj=>(hx.lt j hj).1⟩;have hpr:l.length<4611686018427387904/\∀j,j<l.length->(l.getD j k0).1.length<4611686018427387904/\(l.getD j k0).2.length<4611686018427387904:=⟨hl,hx.lt⟩;have hdp:=Rb hni hnk hx.nis hx.nks;have hd1:(n.ids.length<=100000/\n.kids.length<=100000)/\(dG (D6.cA n++dO n n.kids.length)).length<=140737488355328:=⟨hdp.1,hdp.2.2⟩;refine aB l (aB [] ?_);repeat' (first|exact hpn|apply aA|exact trivial|exact rfl|exact lz λ_=>rfl|fail)
  refine λ(y:NY) (hy:(y.e=(T19.fK l).1/\y.o=decide (y.e=0))/\(y.o=true->Tr Dd (T19.fK l).2 y.N y.c y.r y.K/\0<=y.K/\y.K<=20000000))=>?_;obtain⟨e,o,N,c,r,K⟩:=y;obtain⟨⟨(he:e=(T19.fK l).1),(ho:o=decide (e=0))⟩,htr⟩:=hy;have he0:e=0:=he.trans (of_decide_eq_true hbb);subst he0;obtain rfl:o=true:=ho.trans (by decide);obtain⟨(htr:Tr Dd (T19.fK l).2 N c r K),(hK0:0<=K),(hK1:K<=20000000)⟩:=htr rfl;obtain⟨T,hT⟩:∃T,T19.fK l=(0,T):=⟨(T19.fK l).2,by rw[he]⟩;have hne:=Tf l;rw[hT]at htr hne;obtain⟨w,hsz,_⟩:=Xr hT;refine aB l (aB [] ?_);repeat' (first|exact hpr|apply aA|exact trivial|exact rfl|exact lz λ_=>rfl|fail)
  refine λ(y:RY) (hy:y.e=(iO l).1/\y.o=decide (y.e=0)/\(y.o=true->y.L=(iO l).2))=>?_;obtain⟨e2,o2,L⟩:=y;obtain⟨(he2:e2=(iO l).1),(ho2:o2=decide (e2=0)),hL⟩:=hy;have he20:e2=0:=he2.trans hne.1;subst he20;obtain rfl:o2=true:=ho2.trans (by decide);have hL:L=bB [] T:=(hL rfl).trans (hne.2 rfl);clear ho ho2 he he2 hne;repeat' (first|apply aA|exact trivial|exact zf|refine zt ?_|fail)
  refine aB n (aB [] ?_);repeat' (first|exact hd1|apply aA|exact trivial|exact rfl|exact lz λ_=>rfl|fail)
  refine λ(y1:B) (hy1:y1=kQ n)=>?_;repeat' (first|apply aA|exact trivial|exact rfl|exact zf|refine zt ?_|fail)
  refine aB n (aB [] ?_);repeat' (first|exact hdp|apply aA|exact trivial|exact rfl|exact lz λ_=>rfl|fail)
  refine λ(y2:B) (hy2:y2=kQ n)=>?_;have hyy:y2=y1:=hy2.trans hy1.symm;clear hy2 hy1;subst hyy;repeat' (first|apply aA|exact trivial)
  .exact λ(h:bN _ _ _ _ _=true)=>Bool.noConfusion (h.symm.trans (dgf y2))
  refine λ(_:bN _ _ _ _ _=false)=>?_;have hs12:szT T<=12:=by
   rw[hsz];have:=hf1.symm;unfold tP at this;rw[aI,decide_eq_true_eq]at this;omega
  have ha12:a.length<=12:=by
   have:=hf2.symm;unfold Ae at this;rw[aI,decide_eq_true_eq]at this;exact this.1
  subst hL;refine⟨⟨Nat×TT×(Nat->NO)×Nat×Int,λs=>s.1<=a.length/\szT s.2.1<=12+s.1/\Tr Dd s.2.1 s.2.2.1 s.2.2.2.1 r s.2.2.2.2/\0<=s.2.2.2.2/\s.2.2.2.2<=20000000+1000*(s.1:Int),λs=>[(14,.int .i64 (s.1:Int))],λs=>[(0,.cells 39 (ndL n)),(1,.cells 64 (.cons (.fown 2 r 0) .nil)),(2,.fam λq=>noO 2 (s.2.2.1 q)),(3,.cells 79 (.cons (.lsl 40 2 (bB [] s.2.1).length) .nil)),ksH 40 (bB [] s.2.1),(4,.gone)],λs=>a.length-s.1⟩,(0,T,N,c,K),?_,?_,?_⟩
  .exact ⟨aS _,hs12,htr,hK0,by show K<=20000000+1000*((0:Nat):Int); omega⟩
  .repeat' (first|apply aA|exact trivial|exact rfl|exact lz λ_=>rfl|exact zr N rfl rfl|fail)
  rintro⟨j,S,M,d,Q⟩ ⟨(kj:j<=a.length),(k0s:szT S<=12+j),(k2:Tr Dd S M d r Q),(k3:0<=Q),(k4:Q<=20000000+1000*(j:Int))⟩;repeat' (first|refine aA ?_ ?_)
  .refine λ(hg:decide ((j:Int)<(a.length:Int))=true)=>?_;have hj:j<a.length:=by have:=of_decide_eq_true hg; omega
   have g0:(0:Int)<=(j:Int):=by omega
   have g1:(j:Int)<(a.length:Int):=by omega
   have g2:-9223372036854775808<=(j:Int)+1:=by omega
   have g3:(j:Int)+1<=9223372036854775807:=by omega
   have hta:=hx.at_ j hj;have hpp:POk ⟨S,M,d,r,Q,(a.getD j a0).2⟩:=⟨k2,k3,by show Q<=_; omega,hta.1⟩;have hSl:(bB [] S).length<=1000000:=by rw[nC]; omega
   have hkd:wfT S/\(bB [] S).length<=1000000:=⟨k2.wf,hSl⟩;have hkp:wfT S/\(bB [] S).length<=1000000/\(a.getD j a0).2.1.length<4611686018427387904/\(a.getD j a0).2.2.length<4611686018427387904:=⟨k2.wf,hSl,hta.1,hta.2⟩;have hzd:=Z5 k2.wf (true,(a.getD j a0).2);have hzp:=Z5 k2.wf (false,(a.getD j a0).2);have hzd2:szT (lP S (a.getD j a0).2)<=13+j:=by have:szT (lP S (a.getD j a0).2)<=szT S+1:=hzd.2; omega
   have hzp2:szT (lQ S (a.getD j a0).2)<=13+j:=by have:szT (lQ S (a.getD j a0).2)<=szT S+1:=hzp.2; omega
   repeat' (first|apply aA|(with_reducible first|exact g0|exact g1))
   refine aB ⟨TT×(Nat->NO)×Nat×Int,λs=>szT s.1<=13+j/\Tr Dd s.1 s.2.1 s.2.2.1 r (Q+1000),λs=>[(15,.int .i64 s.2.2.2),(16,.int .i64 s.2.2.2)],λs=>[(0,.cells 39 (ndL n)),(1,.cells 64 (.cons (.fown 2 r 0) .nil)),(2,.fam λq=>noO 2 (s.2.1 q)),(3,.cells 79 (.cons (.lsl 41 2 (bB [] s.1).length) .nil)),ksH 41 (bB [] s.1),(40,.gone)],λ_=>0⟩ (aA ?_ ?_)
   .repeat' (first|refine aA ?_ ?_)
    .refine λ(hb:(a.getD j a0).1=true)=>?_;repeat' (first|apply aA|exact trivial|(with_reducible first|exact g0|exact g1))
     refine aB ⟨S,M,d,r,Q,(a.getD j a0).2⟩ (aB [1,2] ?_);repeat' (first|exact hpp|apply aA|exact trivial|exact rfl|exact zm M rfl|fail)
     refine λ(y:(Nat->NO)×Int) (hy:Tr Dd (lP S (a.getD j a0).2) y.1 d r (Q+1000)/\y.2=dcT S (a.getD j a0).2)=>?_;obtain⟨M2,f⟩:=y;obtain⟨(h2:Tr Dd (lP S (a.getD j a0).2) M2 d r (Q+1000)),(hf:f=dcT S (a.getD j a0).2)⟩:=hy;repeat' (first|apply aA|exact trivial|exact rfl)
     refine aB ⟨S,(a.getD j a0).2⟩ (aB [3,40] ?_);repeat' (first|exact hkd|apply aA|exact trivial|exact rfl|exact lz λ_=>rfl|fail)
     refine λ(y:Bool×Int) (hy:y.2=dcT S (a.getD j a0).2)=>?_;obtain⟨b2,f2⟩:=y;have hff:f2=f:=Eq.trans hy hf.symm;subst hff;have hI:szT (lP S (a.getD j a0).2)<=13+j/\Tr Dd (lP S (a.getD j a0).2) M2 d r (Q+1000):=⟨hzd2,h2⟩;cases b2;all_goals repeat' (first|apply aA|exact trivial|fail)
     all_goals refine aB ((lP S (a.getD j a0).2),M2,d,f2) ?_
     all_goals repeat' (first|exact hI|apply aA|exact trivial|exact rfl|exact lz λ_=>rfl|exact zr M2 rfl rfl|fail)
    .refine λ(hb:(a.getD j a0).1=false)=>?_;repeat' (first|apply aA|exact trivial|(with_reducible first|exact g0|exact g1))
     refine aB ⟨S,M,d,r,Q,(a.getD j a0).2⟩ (aB [1,2] ?_);repeat' (first|exact hpp|apply aA|exact trivial|exact rfl|exact zm M rfl|fail)
     refine λ(y:(Nat->NO)×Nat×Int) (hy:Tr Dd (lQ S (a.getD j a0).2) y.1 y.2.1 r (Q+1000)/\y.2.2=pcT S (a.getD j a0).2)=>?_;obtain⟨M2,d2,f⟩:=y;obtain⟨(h2:Tr Dd (lQ S (a.getD j a0).2) M2 d2 r (Q+1000)),(hf:f=pcT S (a.getD j a0).2)⟩:=hy;repeat' (first|apply aA|exact trivial|exact rfl)
     refine aB ⟨S,(a.getD j a0).2⟩ (aB [3,40] ?_);repeat' (first|exact hkp|apply aA|exact trivial|exact rfl|exact lz λ_=>rfl|fail)
     refine λ(y:Bool×Int) (hy:y.2=pcT S (a.getD j a0).2)=>?_;obtain⟨b2,f2⟩:=y;have hff:f2=f:=Eq.trans hy hf.symm;subst hff;have hI:szT (lQ S (a.getD j a0).2)<=13+j/\Tr Dd (lQ S (a.getD j a0).2) M2 d2 r (Q+1000):=⟨hzp2,h2⟩;cases b2;all_goals repeat' (first|apply aA|exact trivial|fail)
     all_goals refine aB ((lQ S (a.getD j a0).2),M2,d2,f2) ?_
     all_goals repeat' (first|exact hI|apply aA|exact trivial|exact rfl|exact lz λ_=>rfl|exact zr M2 rfl rfl|fail)
   rintro⟨S2,M2,d2,f⟩ ⟨(q0:szT S2<=13+j),(q1:Tr Dd S2 M2 d2 r (Q+1000))⟩;have hu:UOk ⟨S2,M2,d2,r,Q+1000,[]⟩:=⟨q1,by show szT S2<=24; omega,by show 0<=_; decide⟩;have hn2:NOk S2:=⟨q1.wf,by omega,q1.val⟩;have g4:j+1<=a.length:=hj;have g5:a.length-(j+1)<a.length-j:=by omega
   have q2:szT S2<=12+(j+1):=by omega
   have q3:0<=Q+1000:=by omega
   have q4:Q+1000<=20000000+1000*((j+1:Nat):Int):=by omega
   repeat' (first|refine aA ?_ ?_)
   rotate_left 1
   .exact λ(h:(!decide (f=f))=!false)=>Bool.noConfusion (show false=true from(nff f).symm.trans h)
   refine λ(_:(!decide (f=f))=false)=>?_;refine aB ⟨S2,M2,d2,r,Q+1000,[]⟩ (aB [1,2] ?_);repeat' (first|exact hu|apply aA|exact trivial|exact rfl|exact zm M2 rfl|fail)
   refine λ(M3:Nat->NO) (h3:Tr Dd S2 M3 d2 r (Q+1000))=>?_;repeat' (first|refine aA ?_ ?_)
   rotate_left 1
   .exact λ(h:(!decide (f=f))=!false)=>Bool.noConfusion (show false=true from(nff f).symm.trans h)
   refine λ(_:(!decide (f=f))=false)=>?_;refine aB ⟨bB [] S2,S2,[]⟩ (aB [3,41] ?_);repeat' (first|exact(⟨rfl,hn2⟩:bB [] S2=bB [] S2/\NOk S2)|apply aA|exact trivial|exact rfl|exact lz λ_=>rfl|fail)
   refine λ(_:Unit) (_:True)=>?_;repeat' (first|refine aA ?_ ?_)
   .exact λ(h:bN _ _ _ _ _=true)=>Bool.noConfusion (h.symm.trans (dg2 f (iK Dd S2)))
   refine λ(_:bN _ _ _ _ _=false)=>?_;repeat' (first|apply aA|(with_reducible first|exact g2|exact g3))
   refine aB (j+1,S2,M3,d2,Q+1000) ?_;repeat' (first|(with_reducible first|exact g4|exact g5|exact q2|exact h3|exact q3|exact q4)|apply aA|exact trivial|exact rfl|exact lz λ_=>rfl|exact zr M3 rfl rfl|fail)
  .refine λ(hg:decide ((j:Int)<(a.length:Int))=false)=>?_;have hj:j=a.length:=by have:=of_decide_eq_false hg; omega
   subst hj;have hkl:(bB [] S).length<=1000000:=by rw[nC]; omega
   obtain⟨LS,hLS⟩:∃L,bB [] S=L:=⟨_,rfl⟩;rw[hLS]at hkl;rw[hLS];have hs24:szT S<=24:=by omega
   have hup:UOk ⟨S,M,d,r,Q,p⟩:=⟨k2,hs24,by show p.length<=_; omega⟩;have hnS:NOk S:=⟨k2.wf,hs24,k2.val⟩;refine aB ⟨S,M,d,r,Q,p⟩ (aB [1,2] ?_);repeat' (first|exact hup|apply aA|exact trivial|exact rfl|exact zm M rfl|fail)
   refine λ(y:(Nat->NO)×ND×Bool) (hy:Tr Dd S y.1 d r Q/\y.2.1=ndO (bV p S)/\y.2.2=(bV p S).isSome)=>?_;obtain⟨M2,nd,b⟩:=y;obtain⟨(h2:Tr Dd S M2 d r Q),(hnd:nd=ndO (bV p S)),(hb:b=(bV p S).isSome)⟩:=hy;refine aB ⟨LS,S,p⟩ (aB [3,40] ?_);repeat' (first|exact(⟨hLS.symm,hnS,aV hp40 (by decide)⟩:LS=bB [] S/\NOk S/\p.length<=120)|apply aA|exact trivial|exact rfl|exact lz λ_=>rfl|fail)
   refine λ(y:ND×Bool) (hy:y.1=ndO (bV p S)/\y.2=(bV p S).isSome)=>?_;obtain⟨nd2,b2⟩:=y;obtain⟨(hnd2:nd2=ndO (bV p S)),(hb2:b2=(bV p S).isSome)⟩:=hy;have hn3:nd2=nd:=hnd2.trans hnd.symm;have hb3:b2=b:=hb2.trans hb.symm;have hnl:nd.ids.length<4611686018427387904:=by rw[hnd]; have:=(hnS.dgO (p:=p)).1.1; omega
   have hnk2:nd.kids.length<4611686018427387904:=by rw[hnd]; have:=(hnS.dgO (p:=p)).1.2; omega
   clear hnd2 hb2;rw[hn3,hb3];clear hn3 hb3;repeat' (first|apply aA|exact zh|refine zt ?_|fail)
   refine aB (nd,nd) (aB [] ?_);repeat' (first|exact(⟨hnl,hnk2⟩:nd.ids.length<4611686018427387904/\nd.kids.length<4611686018427387904)|apply aA|exact trivial|exact rfl|exact cN (aP _)|exact(λ(q:Nat) _=>by rw[aP q]; exact Or.inl (fS _ _ _ _))|fail)
   refine λ(y:Bool) (hy:y=decide (nd=nd))=>?_;obtain rfl:y=true:=hy.trans (decide_eq_true rfl);clear hy;have huk:UOk ⟨S,M2,d,r,Q,[]⟩:=⟨h2,hs24,by show 0<=_; decide⟩;cases b
   .repeat' (first|apply aA|exact zh|refine zt ?_|fail)
    refine aB ⟨S,M2,d,r,Q,[]⟩ (aB [1,2] ?_);repeat' (first|exact huk|apply aA|exact trivial|exact rfl|exact zr M2 rfl rfl|fail)
    refine λ(L1:List Ky) (hL1:L1=bB [] S)=>?_;have hL2:L1=LS:=hL1.trans hLS;have hL1l:L1.length<4611686018427387904:=by rw[hL2]; omega
    repeat' (first|apply aA|exact zh|refine zt ?_|fail)
    refine aB LS (aB [3,40] ?_);repeat' (first|exact hkl|apply aA|exact trivial|exact rfl|exact lz λ_=>rfl|fail)
    refine λ(_:Unit) (_:True)=>?_;repeat' (first|apply aA|exact zh|refine zt ?_|fail)
    refine aB (L1,LS) (aB [] ?_);repeat' (first|exact hL1l|apply aA|exact trivial|exact rfl)
    .exact cN (aP _)
    .exact (λ(q:Nat) _=>by rw[aP q]; exact Or.inl (kI _ _ _ _))
    .exact cN (aP _)
    .exact (λ(q:Nat) _=>by rw[aP q]; exact Or.inl (kI _ _ _ _))
    refine λ(y:Bool) (hy:y=decide (L1=LS))=>?_;obtain rfl:y=true:=hy.trans (decide_eq_true hL2);clear hy;repeat' (first|apply aA|exact zh|refine zt ?_|fail)
    refine aB ⟨S,M2,d,r,Q,[]⟩ (aB [1,2] ?_);repeat' (first|exact huk|apply aA|exact trivial|exact rfl|exact zr M2 rfl rfl|fail)
    refine λ(M4:Nat->NO) (h4:Tr Dd S M4 d r Q)=>?_;repeat' (first|apply aA|exact zh|refine zt ?_|fail)
    refine aB ⟨LS,S,[]⟩ (aB [3,40] ?_);repeat' (first|exact(⟨hLS.symm,hnS⟩:LS=bB [] S/\NOk S)|apply aA|exact trivial|exact rfl|exact lz λ_=>rfl|fail)
    refine λ(_:Unit) (_:True)=>?_;exact(decide_eq_true rfl:decide (iK Dd S=iK Dd S)=true)
   .repeat' (first|apply aA|exact zh|refine zt ?_|fail)
    refine aB ⟨S,M2,d,r,Q,[]⟩ (aB [1,2] ?_);repeat' (first|exact huk|apply aA|exact trivial|exact rfl|exact zr M2 rfl rfl|fail)
    refine λ(L1:List Ky) (hL1:L1=bB [] S)=>?_;have hL2:L1=LS:=hL1.trans hLS;have hL1l:L1.length<4611686018427387904:=by rw[hL2]; omega
    repeat' (first|apply aA|exact zh|refine zt ?_|fail)
    refine aB LS (aB [3,40] ?_);repeat' (first|exact hkl|apply aA|exact trivial|exact rfl|exact lz λ_=>rfl|fail)
    refine λ(_:Unit) (_:True)=>?_;repeat' (first|apply aA|exact zh|refine zt ?_|fail)
    refine aB (L1,LS) (aB [] ?_);repeat' (first|exact hL1l|apply aA|exact trivial|exact rfl)
    .exact cN (aP _)
    .exact (λ(q:Nat) _=>by rw[aP q]; exact Or.inl (kI _ _ _ _))
    .exact cN (aP _)
    .exact (λ(q:Nat) _=>by rw[aP q]; exact Or.inl (kI _ _ _ _))
    refine λ(y:Bool) (hy:y=decide (L1=LS))=>?_;obtain rfl:y=true:=hy.trans (decide_eq_true hL2);clear hy;repeat' (first|apply aA|exact zh|refine zt ?_|fail)
    refine aB ⟨S,M2,d,r,Q,[]⟩ (aB [1,2] ?_);repeat' (first|exact huk|apply aA|exact trivial|exact rfl|exact zr M2 rfl rfl|fail)
    refine λ(M4:Nat->NO) (h4:Tr Dd S M4 d r Q)=>?_;repeat' (first|apply aA|exact zh|refine zt ?_|fail)
    refine aB ⟨LS,S,[]⟩ (aB [3,40] ?_);repeat' (first|exact(⟨hLS.symm,hnS⟩:LS=bB [] S/\NOk S)|apply aA|exact trivial|exact rfl|exact lz λ_=>rfl|fail)
    refine λ(_:Unit) (_:True)=>?_;exact(decide_eq_true rfl:decide (iK Dd S=iK Dd S)=true)
 |false =>
  repeat' (first|apply aA|exact trivial)
  refine aB (l,12) (aB [] ?_);repeat' (first|exact hl|apply aA|exact trivial|exact rfl|exact lz λ_=>rfl|fail)
  refine λ(y:Bool) (hf1:y=tP l 12)=>?_;cases y
  .repeat' (first|apply aA|exact rfl|exact zh|refine zt ?_|fail)
  repeat' (first|apply aA|exact zf|refine zt ?_|fail)
  refine aB a (aB [] ?_);repeat' (first|exact ha|apply aA|exact trivial|exact rfl|exact lz λ_=>rfl|fail)
  refine λ(y:Bool) (hf2:y=Ae a)=>?_;cases y
  .repeat' (first|apply aA|exact rfl|exact zh|refine zt ?_|fail)
  repeat' (first|refine aA ?_ ?_)
  .refine λ(_:bN _ _ _ _ _=true)=>?_;repeat' (first|exact rfl)
  refine λ(hx2:bN _ _ _ _ _=false)=>?_;simp only[dL,cZ,decide_eq_false_iff_not]at hx2;have hp40:p.length<=40:=by have:=hx2.1.1.1.2; omega
  have hni:n.ids.length<=12:=by have:=hx2.1.1.2; omega
  have hnk:n.kids.length<=12:=by have:=hx2.2; omega
  clear hx2;have hpn:l.length<4611686018427387904/\∀j,j<l.length->(l.getD j k0).1.length<4611686018427387904:=⟨hl,λj hj=>(hx.lt j hj).1⟩;have hpr:l.length<4611686018427387904/\∀j,j<l.length->(l.getD j k0).1.length<4611686018427387904/\(l.getD j k0).2.length<4611686018427387904:=⟨hl,hx.lt⟩;have hdp:=Rb hni hnk hx.nis hx.nks;have hd1:(n.ids.length<=100000/\n.kids.length<=100000)/\(dG (D6.cA n++dO n n.kids.length)).length<=140737488355328:=⟨hdp.1,hdp.2.2⟩;refine aB l (aB [] ?_);repeat' (first|exact hpn|apply aA|exact trivial|exact rfl|exact lz λ_=>rfl|fail)
  refine λ(y:NY) (hy:(y.e=(T19.fK l).1/\y.o=decide (y.e=0))/\(y.o=true->Tr Dd (T19.fK l).2 y.N y.c y.r y.K/\0<=y.K/\y.K<=20000000))=>?_;obtain⟨e,o,N,c,r,K⟩:=y;obtain⟨⟨(he:e=(T19.fK l).1),(ho:o=decide (e=0))⟩,-⟩:=hy;have hne:=Tf l;have hnc:=O7 l;have hn0:¬(T19.fK l).1=0:=of_decide_eq_false hbb;obtain rfl:o=false:=by rw[ho,he]; exact decide_eq_false hn0
  clear ho
  -- refused
  refine aB l (aB [] ?_);repeat' (first|exact hpr|apply aA|exact trivial|exact rfl|exact lz λ_=>rfl|fail)
  refine λ(y:RY) (hy:y.e=(iO l).1/\y.o=decide (y.e=0)/\(y.o=true->y.L=(iO l).2))=>?_;obtain⟨e2,o2,L⟩:=y;obtain⟨(he2:e2=(iO l).1),(ho2:o2=decide (e2=0)),-⟩:=hy;have he20:=he2.trans (hne.1.trans he.symm);subst he20;obtain rfl:o2=false:=ho2.trans (decide_eq_false λh=>hn0 (he.symm.trans h));clear ho2 he2 hne;repeat' (first|apply aA|exact trivial)
  rotate_left 1
  .exact λ(h:bN _ _ _ _ _=!false)=>Bool.noConfusion (show false=true from(dgm e2).symm.trans h)
  refine λ(_:bN _ _ _ _ _=false)=>?_;refine aB n (aB [] ?_);repeat' (first|exact hd1|apply aA|exact trivial|exact rfl|exact lz λ_=>rfl|fail)
  refine λ(y1:B) (hy1:y1=kQ n)=>?_;repeat' (first|apply aA|exact trivial|exact rfl)
  rotate_left 1
  .exact λ(h:bN _ _ _ _ _=!false)=>Bool.noConfusion (show false=true from(dgm e2).symm.trans h)
  refine λ(_:bN _ _ _ _ _=false)=>?_;refine aB n (aB [] ?_);repeat' (first|exact hdp|apply aA|exact trivial|exact rfl|exact lz λ_=>rfl|fail)
  refine λ(y2:B) (hy2:y2=kQ n)=>?_;have hyy:y2=y1:=hy2.trans hy1.symm;clear hy2 hy1;subst hyy;repeat' (first|apply aA|exact trivial)
  .exact λ(h:bN _ _ _ _ _=true)=>Bool.noConfusion (h.symm.trans (dgn y2 e2))
  refine λ(_:bN _ _ _ _ _=false)=>?_;refine⟨⟨Nat,λs=>s<=a.length,λs=>[(14,.int .i64 (s:Int))],λ_=>[(0,.cells 39 (ndL n))],λs=>a.length-s⟩,0,aS _,?_,?_⟩
  .repeat' (first|apply aA|exact trivial|exact rfl|exact lz λ_=>rfl|fail)
  rintro(j:Nat) (kj:j<=a.length);repeat' (first|refine aA ?_ ?_)
  .refine λ(hg:decide ((j:Int)<(a.length:Int))=true)=>?_;have hj:j<a.length:=by have:=of_decide_eq_true hg; omega
   have g0:(0:Int)<=(j:Int):=by omega
   have g1:(j:Int)<(a.length:Int):=by omega
   have g2:-9223372036854775808<=(j:Int)+1:=by omega
   have g3:(j:Int)+1<=9223372036854775807:=by omega
   have g4:j+1<=a.length:=hj;have g5:a.length-(j+1)<a.length-j:=by omega
   repeat' (first|apply aA|(with_reducible first|exact g0|exact g1))
   refine aB ⟨Unit,λ_=>True,λ_=>[(15,.int .i64 1),(16,.int .i64 1)],λ_=>[(0,.cells 39 (ndL n))],λ_=>0⟩ (aA ?_ ?_)
   .repeat' (first|refine aA ?_ ?_)
    .refine λ(hb:(a.getD j a0).1=true)=>?_;repeat' (first|apply aA|exact trivial|(with_reducible first|exact g0|exact g1))
     refine aB (a.getD j a0).2 (aB [] ?_);repeat' (first|apply aA|exact trivial|exact rfl)
     refine λ(y:Int) (hy:y=1)=>?_;subst hy;repeat' (first|apply aA|exact trivial|exact rfl)
     refine aB (a.getD j a0).2 (aB [] ?_);repeat' (first|apply aA|exact trivial|exact rfl)
     refine λ(y:Int) (hy:y=1)=>?_;subst hy;repeat' (first|apply aA|exact trivial)
     refine aB () ?_;repeat' (first|apply aA|exact trivial|exact rfl|exact lz λ_=>rfl|fail)
    .refine λ(hb:(a.getD j a0).1=false)=>?_;repeat' (first|apply aA|exact trivial|(with_reducible first|exact g0|exact g1))
     refine aB (a.getD j a0).2 (aB [] ?_);repeat' (first|apply aA|exact trivial|exact rfl)
     refine λ(y:Int) (hy:y=1)=>?_;subst hy;repeat' (first|apply aA|exact trivial|exact rfl)
     refine aB (a.getD j a0).2 (aB [] ?_);repeat' (first|apply aA|exact trivial|exact rfl)
     refine λ(y:Int) (hy:y=1)=>?_;subst hy;repeat' (first|apply aA|exact trivial)
     refine aB () ?_;repeat' (first|apply aA|exact trivial|exact rfl|exact lz λ_=>rfl|fail)
   rintro⟨⟩ (_:True);repeat' (first|apply aA|exact trivial|exact rfl|exact zf|refine zt ?_|(with_reducible first|exact g2|exact g3))
   refine aB (j+1) ?_;repeat' (first|(with_reducible first|exact g4|exact g5)|apply aA|exact trivial|exact rfl|exact lz λ_=>rfl|fail)
  .refine λ(hg:decide ((j:Int)<(a.length:Int))=false)=>?_;repeat' (first|apply aA|exact trivial|exact rfl|exact zh|refine zt ?_|fail)
   refine aB (nd0,nd0) (aB [] ?_);repeat' (first|exact aCp|apply aA|exact trivial|exact rfl)
   refine λ(y:Bool) (hy:y=decide (nd0=nd0))=>?_;obtain rfl:y=true:=hy.trans (decide_eq_true rfl);clear hy;repeat' (first|apply aA|exact trivial|exact rfl|exact zh|refine zt ?_|fail)
   refine aB ([],[]) (aB [] ?_);repeat' (first|exact aCq|apply aA|exact trivial|exact rfl)
   refine λ(y:Bool) (hy:y=decide (([]:List Ky)=[]))=>?_;obtain rfl:y=true:=hy.trans (decide_eq_true rfl);clear hy;repeat' (first|apply aA|exact trivial|exact rfl|refine zt ?_|fail)

end Q13
end
section
namespace Go.Eng
open Go Go.RowKit Go.ChangeShapes Go.WideShapes Go.ChangeAt
open Go.Proofs.YtpiolkcdfgiefaaGreatDoor.Rows (uptoBulk uptoBulkAll uptoSmall OpenSpec.upto)
inductive Sp where
 |nil
 |cons (h t:Sp)
 |bool
 |str
 |slice (sz:Nat) (e:Sp)
def Sp.app:Sp->Sp->Sp
 |.cons h t,s=>.cons h (t.app s)
 |_,s=>s
def Sp.len:Sp->Nat
 |.cons _ t=>t.len+1
 |_=>0
def Sp.isL:Sp->Bool
 |.nil=>true
 |.cons _ t=>t.isL
 |_=>false
def U1(P:Program)(f:TypeId->Option Sp):List Field->Nat->Option Sp
 | [],_=>some .nil
 |fd::r,off=>match f fd.type with
  |some s=>bif Nat.beq fd.offset off && Nat.beq s.len (P.cellsOf fd.type) && s.isL then match U1 P f r (off+s.len) with
   |some s'=>some (s.app s')
   |none=>none
   else none
  |none=>none
def yV(P:Program):Nat->TypeId->Option Sp
 |0,_=>none
 |n+1,t=>match P.underlying t with
  |some .bool=>some (.cons .bool .nil)
  |some .string=>some (.cons .str .nil)
  |some (.slice e)=>match yV P n e with
   |some s=>bif Nat.beq s.len (P.cellsOf e) && Nat.blt 0 s.len && s.isL && Nat.blt 0 (P.bytesOf e)then some (.cons (.slice s.len s) .nil)else none
   |none=>none
  |some (.struct fs)=>match U1 P (yV P n) fs.toList 0 with
   |some s=>bif Nat.beq s.len (P.cellsOf t)then some s else none
   |none=>none
  |_=>none
def Sh:Sp->SV->Prop
 |.nil,l=>l=.nil
 |.cons h t,l=>∃a b,l=.cons a b/\Sh h a/\Sh t b
 |.bool,a=>∃b,a=.bool b
 |.str,a=>∃s,a=.str s/\s.length<=1048576
 |.slice sz e,a=>∃n enc,a=.slice sz n enc/\n<=1048576/\∀i,i<n->Sh e (enc i)
theorem Sp.Lc:∀{s t:Sp},s.isL=true->(s.app t).len=s.len+t.len:=by
 intro s;induction s with
 |cons h t _ ih=>intro u hu; simp only[Sp.app,Sp.len,ih hu]; omega
 |nil=>intro u _; simp[Sp.app,Sp.len]
 |_=>intro u hu; simp[Sp.isL]at hu
theorem Sp.Vx:∀{s t:Sp},s.isL=true->t.isL=true->(s.app t).isL=true:=by
 intro s;induction s with
 |cons h t _ ih=>intro u h1 h2; simp only[Sp.app,Sp.isL]; exact ih h1 h2
 |nil=>intro u _ h2; exact h2
 |_=>intro u hu; simp[Sp.isL]at hu
theorem Sh.isL:∀{s:Sp} {l:SV},s.isL=true->Sh s l->Eng.isL l=true:=by
 intro s;induction s with
 |cons h t _ ih =>
  intro l hl hs;obtain⟨a,b,rfl,_,h2⟩:=hs;simp only[Eng.isL];exact ih hl h2
 |nil=>intro l _ hs; simp only[Sh]at hs; subst hs; rfl
 |_=>intro l hu; simp[Sp.isL]at hu
theorem Sh.app:∀{s t:Sp} {l m:SV},s.isL=true->Sh s l->Sh t m->Sh (s.app t) (vH l m):=by
 intro s;induction s with
 |cons h t _ ih =>
  intro u l m hl hs ht;obtain⟨a,b,rfl,h1,h2⟩:=hs;simp only[Sp.app,vH];exact⟨a,_,rfl,h1,ih hl h2 ht⟩
 |nil=>intro u l m _ hs ht; simp only[Sh]at hs; subst hs; exact ht
 |_=>intro u l m hu; simp[Sp.isL]at hu
def Light{H:Type}(d:DataW H):Prop:=uptoBulk d<=1048576
theorem vL{H:Type}:∀{ds:List (DataW H)} {j:Nat} {d:DataW H},ds[j]?=some d->uptoBulk d<=uptoBulkAll ds
 |a::r,0,d,h=>by cases h; simp only[uptoBulkAll]; omega
 |a::r,j+1,d,h=>by have:=vL (ds:=r) (j:=j) h; simp only[uptoBulkAll]; omega
theorem one_le{H:Type}(d:DataW H):1<=uptoBulk d:=by
 cases d with
 |lit l=>cases l<;>simp[uptoBulk]
 |_=>simp[uptoBulk]
theorem Sv{H:Type}:∀(l:List (DataW H)),l.length<=uptoBulkAll l
 | []=>aS _
 |x::r=>by have:=one_le x; have:=Sv r; simp only[uptoBulkAll,bA]; omega
def Wall(w:World)(b:Nat):Prop:=b<w.heap.size/\Plain w b
theorem B1(a:Addr)(k:Nat):(a.add k).block=a.block:=by
 unfold Addr.add;split<;>rfl
theorem mapM_some{α β:Type}{f:α->Option β}:∀{l:List α} {r:List β},l.mapM f=some r->r.length=l.length/\∀(j:Nat) (x:α),l[j]?=some x->f x=r[j]?:=by
 intro l;induction l with
 |nil=>intro r h; simp at h; subst h; exact⟨rfl,λj x e=>by simp at e⟩
 |cons a t ih =>
  intro r h;rw[List.mapM_cons]at h;simp only[aE,aD]at h;obtain⟨b,h1,s,h2,h3⟩:=h;cases h3;obtain⟨i1,i2⟩:=ih h2;refine⟨by simp[i1],λj x e=>?_⟩;cases j with
  |zero=>simp at e; subst e; simpa using h1
  |succ j=>simpa using i2 j x (by simpa using e)
section
variable {H:Type} {enc:TypeId×Value->H} {P:Program} {W:World} {base:Nat} {sp:Nat->Bool} {held:Bool}
theorem Pp{n:Nat}{f:TypeId->Option Sp}{cs:List Value}(hf:∀(fd:Field) (s:Sp),f fd.type=some s->s.len=P.cellsOf fd.type->s.isL=true->(∃x,DataW.trod enc P W base sp held n fd.type ((cs.drop fd.offset).take (P.cellsOf fd.type))=some x/\Light x.1) ->
   ∃l,Sh s l/\R (iV (Wall W) W) l ((cs.drop fd.offset).take (P.cellsOf fd.type))) :
  ∀(fs:List Field) (off:Nat) (s:Sp),U1 P f fs off=some s->(∀fd∈fs,∃x,DataW.trod enc P W base sp held n fd.type ((cs.drop fd.offset).take (P.cellsOf fd.type))=some x/\Light x.1)->off+s.len<=cs.length ->
   s.isL=true/\∃l,Sh s l/\R (iV (Wall W) W) l ((cs.drop off).take s.len):=by
 intro fs;induction fs with
 |nil =>
  intro off s h _ _;simp only[U1,aH]at h;subst h;exact⟨rfl,.nil,rfl,by simp[R,Sp.len]⟩
 |cons fd r ih =>
  intro off s h hx hl;simp only[U1]at h;split at h
  .rename_i s1 hs1;cases hb:(Nat.beq fd.offset off && Nat.beq s1.len (P.cellsOf fd.type) && s1.isL) with
   |false=>simp[hb]at h
   |true =>
    simp only[hb,cond_true]at h;simp only[aI]at hb;obtain⟨⟨h1,h2⟩,h3⟩:=hb;have e1:=nbeq h1;have e2:=nbeq h2;split at h
    .rename_i s2 hs2;cases h;rw[Sp.Lc h3]at hl;obtain⟨l1,a1,a2⟩:=hf fd s1 hs1 e2 h3 (hx fd (aZ ..));obtain⟨i0,l2,i1,i2⟩:=ih (off+s1.len) s2 hs2 (λg hg=>hx g (aW _ hg)) (by omega);refine⟨Sp.Vx h3 i0,vH l1 l2,a1.app h3 i1,?_⟩;rw[e1,<- e2]at a2;have:=C8 (a1.isL h3) a2 i2;rw[Sp.Lc h3];have e3:(cs.drop off).take (s1.len+s2.len)=(cs.drop off).take s1.len++(cs.drop (off+s1.len)).take s2.len:=by
      rw[List.take_add,List.drop_drop]
     rw[e3];exact this
    .cases h
  .cases h
theorem Ni:∀(fuel n:Nat) (t:TypeId) (cs:List Value) (x:DataW H×List MemPlace) (s:Sp),yV P fuel t=some s->DataW.trod enc P W base sp held n t cs=some x->Light x.1 ->
  s.isL=true/\s.len=cs.length/\∃l,Sh s l/\R (iV (Wall W) W) l cs:=by
 intro fuel;induction fuel with
 |zero=>intro n t cs x s h; cases h
 |succ fuel ih =>
  intro n t cs x s h hd hw0;simp only[yV]at h;split at h
  .rename_i ht;cases h;obtain⟨b,rfl,_⟩:=DataW.trod_bool ht hd;exact⟨rfl,rfl,.cons (.bool b) .nil,⟨_,_,rfl,⟨b,rfl⟩,rfl⟩,by simp[R]⟩
  .rename_i ht;cases h;obtain⟨b,rfl,rfl,_⟩:=DataW.trod_string ht hd;have hl:b.data.toList.length<=1048576:=by simp only[Light,uptoBulk]at hw0; omega
   refine⟨rfl,rfl,.cons (.str b.data.toList) .nil,⟨_,_,rfl,⟨_,rfl,hl⟩,rfl⟩,?_⟩;simp only[R];exact⟨_,_,rfl,by simp,rfl⟩
  .rename_i e ht;split at h
   .rename_i s1 hs1;cases hb:(Nat.beq s1.len (P.cellsOf e) && Nat.blt 0 s1.len && s1.isL && Nat.blt 0 (P.bytesOf e)) with
    |false=>simp[hb]at h
    |true =>
     simp only[hb,cond_true,aH]at h;subst h;simp only[aI]at hb;obtain⟨⟨⟨h1,h2⟩,h3⟩,h4⟩:=hb;have e1:=nbeq h1;have h2':0<s1.len:=kO h2;have h4':0<P.bytesOf e:=kO h4;rcases DataW.trod_slice ht hd with⟨rfl,_⟩|⟨a,len,cap,elems,rest,m,_,rfl,rfl,hba,hlc,hcm,hel,hget,_⟩
     .refine ⟨rfl,rfl,.cons (.slice s1.len 0 λ_=>.junk) .nil,⟨_,_,rfl,⟨0,_,rfl,aS _,λi hi=>absurd hi (cO i)⟩,rfl⟩,?_⟩;simp only[R];exact⟨_,_,rfl,⟨none,0,rfl,aN _,λi hi=>absurd hi (cO i)⟩,rfl⟩
     .have hsz:len<=1048576:=by
       have h5:=Sv (elems.map (·.1));simp only[Light,uptoBulk,cS]at hw0 h5;omega
      -- where they lie
      have head:0<len->∃b off c T fr,a=⟨b,off,none⟩/\W.heap[b]?=some (.cells c T fr):=by
       intro hi;have hg:=hget 0 hi;rw[aM (by omega)]at hg;simp only[aD]at hg;obtain⟨cs1,hc,hd1⟩:=hg;unfold World.cells? at hc;rw[if_pos (by rw[B1]; exact hba)]at hc;obtain⟨c1,c2⟩:=mapM_some hc;rw[kX]at c1;have h0:=c2 0 0 (by rw[List.getElem?_range (by omega)]);rw[aM (by omega),Nat.zero_mul]at h0;have e0:(a.add 0).add 0=a:=by simp[Addr.add]
       rw[e0]at h0;obtain⟨b,off,spot⟩:=a;unfold World.cell? at h0;simp only at h0;split at h0
       .rename_i c T fr hh;cases spot with
        |none=>exact⟨b,off,c,T,fr,rfl,hh⟩
        |some q=>simp at h0
       .cases h0
      -- every element is like its type says
      have elem:∀i,i<len->∃l,Sh s1 l/\pM (iV (Wall W) W) (some a) s1.len i (R (iV (Wall W) W) l):=by
       intro i hi;have hg:=hget i hi;rw[aM (by omega)]at hg;simp only[aD]at hg;obtain⟨cs1,hc,hd1⟩:=hg;obtain⟨_,hlen,l,g1,g2⟩:=ih m e cs1 _ s1 hs1 hd1 (by
        have h5:uptoBulk elems[i].1<=_:=vL (ds:=elems.map (·.1)) (j:=i) (by rw[eC,aM (by omega)]; rfl);simp only[Light,uptoBulk]at hw0 ⊢;omega)
       unfold World.cells? at hc;rw[if_pos (by rw[B1]; exact hba)]at hc;obtain⟨c1,c2⟩:=mapM_some hc;rw[kX]at c1;have cell:∀j,j<cs1.length->W.cell? ((a.add (i*P.cellsOf e)).add j)=cs1[j]?:=by
        intro j hj;exact c2 j j (by rw[List.getElem?_range (by omega)])
       obtain⟨b,off,c,T,fr,rfl,hh⟩:=head (by omega);refine⟨l,g1,b,off,cs1,rfl,⟨(aU.1 hh).1,λds e2=>by rw[hh]at e2; cases e2; rfl⟩,g2,by omega,?_⟩;intro j v hv;have hj:j<cs1.length:=(bZ.1 hv).1;rw[<- hv,<- cell j hj];rw[Addr.mE,Addr.mE,e1]
      refine⟨rfl,rfl,.cons (.slice s1.len len λi=>if hi:i<len then (elem i hi).choose else .junk) .nil,⟨_,_,rfl,⟨len,_,rfl,hsz,λi hi=>?_⟩,rfl⟩,?_⟩
      .simp only [hi,dif_pos];exact(elem i hi).choose_spec.1
      .simp only [R];refine⟨_,_,rfl,⟨some a,cap,rfl,hlc,λi hi=>?_⟩,rfl⟩;simp only[hi,dif_pos];exact(elem i hi).choose_spec.2
   .cases h
  .rename_i fs ht;split at h
   .rename_i s1 hs1;cases hb:Nat.beq s1.len (P.cellsOf t) with
    |false=>simp[hb]at h
    |true =>
     simp only[hb,cond_true,aH]at h;subst h;obtain⟨xs,m,_,rfl,hl,hxl,hx⟩:=DataW.trod_struct ht hd;have e1:=nbeq hb;obtain⟨g0,l,g1,g2⟩:=Pp (enc:=enc) (P:=P) (W:=W) (base:=base) (sp:=sp) (held:=held) (n:=m) (f:=yV P fuel) (cs:=cs) (λfd s h1 h2 _ hy0=>by
       obtain⟨y,hy,hyw⟩:=hy0;obtain⟨_,_,l,k1,k2⟩:=ih m fd.type _ y s h1 hy hyw;exact⟨l,k1,k2⟩) fs.toList 0 s1 hs1 (λfd hfd=>by
       obtain⟨i,hi⟩:=jE hfd;have hi':fs[i]?=some fd:=by simpa using hi
       have hlt:i<xs.length:=by rw[hxl]; exact(aU.1 hi').1
       refine⟨xs[i],by rw[hx i fd hi',aM hlt],?_⟩;have h5:uptoBulk xs[i].1<=_:=vL (ds:=xs.map (·.1)) (j:=i) (by rw[eC,aM hlt]; rfl);simp only[Light,uptoBulk]at hw0 ⊢;omega) (by omega)
     refine⟨g0,by omega,l,g1,?_⟩
     rwa [kH,List.take_of_length_le (by omega)]at g2
   .cases h
  .cases h
theorem Vy{r:Reach}{b0:Nat}{fuel:Nat}{s:Sp}{t:TypeId}{v:Value}{d:DataW H}{ps:List MemPlace}(ht:∃fs,P.underlying t=some (.struct fs))(hs:yV P fuel t=some s)
  (hval:Value.okWide P W r b0 t v) (hd:DataW.Trod enc P W base sp held t v d ps) (hw:Light d):∃l,Sh s l/\R (iV (Wall W) W) (.agg l) [v]:=by
 obtain⟨n,hn⟩:=hd;obtain⟨_,_,l,h1,h2⟩:=Ni fuel n t _ _ s hs hn hw;have hc:∃cs,v=.agg cs:=by
  unfold Value.okWide at hval;obtain⟨fs,ht⟩:=ht;rw[ht]at hval; obtain⟨cs,h,_⟩:=hval; exact⟨cs,h⟩
 obtain⟨cs,rfl⟩:=hc;refine⟨l,h1,?_⟩;simp only[R];exact⟨cs.toList,by simp,h2⟩
theorem Dc{r:Reach}{b0:Nat}{fuel:Nat}{s:Sp}{t:TypeId}{v:Value}{d:DataW H}{ps:List MemPlace}(hs:yV P (fuel+1) t=some (.cons s .nil))(hne:∀fs,P.underlying t≠some (.struct fs))
  (hval:Value.okWide P W r b0 t v) (hd:DataW.Trod enc P W base sp held t v d ps) (hw:Light d):∃a,Sh s a/\R (iV (Wall W) W) a [v]:=by
 obtain⟨n,hn⟩:=hd;obtain⟨_,_,l,h1,h2⟩:=Ni (fuel+1) n t _ _ _ hs hn hw;have hc:v.cells.toList=[v]:=by
  simp only[yV]at hs;split at hs
  .rename_i ht; obtain⟨m,rfl⟩:=okWide_bool ht hval; rfl
  .rename_i ht; obtain⟨m,rfl⟩:=okWide_string ht hval; rfl
  .rename_i ht; obtain⟨_,_,_,rfl⟩:=okWide_slice ht hval; rfl
  .rename_i fs ht; exact absurd ht (hne fs)
  .cases hs
 rw[hc]at h2;obtain⟨a,b,rfl,k1,k2⟩:=h1;simp only[R]at h2;obtain⟨x,xs,e,k3,_⟩:=h2;cases e;exact⟨a,k1,k3⟩
end
section
variable {H:Type} {enc:TypeId×Value->H} {P:Program} {W W':World}
theorem Bx(hl:laidOutB P=true){sp':Nat->Bool}:∀(ts:List TypeId) (vs:List Value) (ds:List (DataW H)) (ps:List MemPlace),(∀t∈ts,P.readableRec t=true/\t<P.types.size)->DataW.TrodAll enc P W 0 (λ_=>true) true ts vs ds ps ->
  (∀p∈ps,W.sameAt W' p)->(∀p∈ps,sp' p.block=true)->DataW.TrodAll enc P W' 0 sp' true ts vs ds ps:=by
 intro ts;induction ts with
 |nil =>
  intro vs ds ps _ h _ _;cases vs<;>cases ds<;>first|exact h|exact h.elim
 |cons t ts ih =>
  intro vs ds ps ht h h1 h2;cases vs with
  |nil=>exact h.elim
  |cons v vs =>
   cases ds with
   |nil=>exact h.elim
   |cons d ds =>
    obtain⟨p,q,a,b,rfl⟩:=h;obtain⟨r1,r2⟩:=ht t (aZ ..);exact⟨p,q,WideElems.Trod_stays hl r1 r2 a (λx hx=>h1 x (dY _ hx)) (λx hx=>h2 x (dY _ hx)),
     ih vs ds q (λu hu=>ht u (aW _ hu)) b (λx hx=>h1 x (iM _ hx)) (λx hx=>h2 x (iM _ hx)),rfl⟩
theorem Ki{f:Func}{s:ChangeSpec}{apart fresh handsOn again:Bool}{args:Array Value}{v:Value}{ds gs:List (DataW H)}{before pa pv:List MemPlace}
  (hW:DataW.Whole enc P f.params.toList s.vars apart W args.toList ds gs before)
  (hres:∀(b:Nat) (sp:Nat->Bool) (hd:Bool),DataW.TrodAll enc P W' b sp hd f.resultTypes.toList (v.resultList f.resultTypes.size) (s.fn H (ds++gs)).results [])
  (hargs:∀sp:Nat->Bool,(∀p∈before,sp p.block=true)->DataW.TrodAll enc P W' 0 sp true f.params.toList args.toList (s.fn H (ds++gs)).args pa)
  (hvars:∀sp:Nat->Bool,(∀p∈before,sp p.block=true)->DataW.TrodVars enc P W' sp s.vars (s.fn H (ds++gs)).vars pv)
  (hps:before=pa++pv) (hb:RowKit.Below W.heap.size W W')
  (hok:∀(j:Nat) (t:TypeId) (r:Value),f.resultTypes[j]?=some t->(v.resultList f.resultTypes.size)[j]?=some r->Value.okWide P W' .any 0 t r) :
  s.post enc P f apart fresh handsOn again W args v W':=by
 have hlt:∀p∈before,p.block<W.heap.size:=λp hp=>hW.lt p hp;have hold:∀p∈before,(λb=>decide (b<W.heap.size)) p.block=true:=λp hp=>by simpa using hlt p hp
 refine⟨ds,gs,before,[],pa,pv,hW,hres _ _ _,hargs _ hold,hvars _ hold,World.keptBut_mono (λp hp=>⟨hp,?_⟩) (hb.frame (·∈before)),λ_=>?_⟩
 .rw [hps,bT]at hp;exact Or.inr hp
 .obtain ⟨_,_,_,_,_,hz,hn⟩:=hW;refine⟨hok,_,_,([]++pa)++pv,⟨[]++pa,pv,trodAll_append (hargs _ (λ_ _=>rfl)) (hres _ _ _),hvars _ (λ_ _=>rfl),rfl,?_,?_⟩,?_⟩
  .intro b off hp;have hin:MemPlace.cell b off∈before:=by rw[hps]; simpa using hp
   rw[hb.frozen (hlt _ hin)];exact hz b off hin
  .intro ha;have:=hn ha;rw[hps]at this;simpa using this
  .intro p hp _;rw[hps];simpa using hp
theorem Ia:∀{ts:List TypeId} {vs:List Value} {ds:List (DataW H)} {ps:List MemPlace} {b:Nat} {sp:Nat->Bool} {hd:Bool},DataW.TrodAll enc P W b sp hd ts vs ds ps->ds.length=ts.length:=by
 intro ts;induction ts with
 |nil =>
  intro vs ds ps b sp hd h;cases vs<;>cases ds<;>first|rfl|exact h.elim
 |cons t ts ih =>
  intro vs ds ps b sp hd h;cases vs with
  |nil=>exact h.elim
  |cons v vs =>
   cases ds with
   |nil=>exact h.elim
   |cons d ds =>
    obtain⟨p,q,_,b,_⟩:=h;simp[ih b]
end
theorem Fo{H:Type}{enc:TypeId×Value->H}{C:Checked}{os:Os}{f:FuncId}{fn:Func}{s:ChangeSpec}{conds:List PathCond}{laid:List (String×DataW Unit)}(w0:World)(args:Array Value)(fuel:Nat)(hos:w0.os=os)
  (hsh:(w0.forCall (λ_ _=>0) ⟨#[],args,[]⟩).Shaped C.prog)
  (hok:Input.okWideB C.prog (w0.forCall (λ_ _=>0) ⟨#[],args,[]⟩) f ⟨#[],args,[]⟩=true)
  (hx:(match DataW.whole enc C.prog (w0.forCall (λ_ _=>0) ⟨#[],args,[]⟩).memory fn.params.toList s.vars false args.toList fuel with
   |some x=>conds.all (PathCond.test C.prog ⟨fn.params.toList,x.1,s.plain.varTypes C.prog,x.2.1⟩) && uptoSmall H (x.1++x.2.1)
   |none=>false)=true)
  (hsz:s.sizedB enc C.prog fn false (w0.forCall (λ_ _=>0) ⟨#[],args,[]⟩).memory args fuel=true)
  (hl:laidMetH C.prog laid (w0.forCall (λ_ _=>0) ⟨#[],args,[]⟩).memory) :
  ∃(w:World) (tape:Tape) (i:Input),w.os=os/\(w.forCall tape i).Shaped C.prog/\i.vars=[]/\Input.okWide C.prog (w.forCall tape i) .any w.heap.size f i /\
   (OpenSpec.upto s).preRow enc C.prog fn conds false laid (w.forCall tape i).memory i.args/\({}:Assume).holds C.prog (lone (Frame.enter C.prog f i.args .normal) [] (w.forCall tape i)):=by
 split at hx
 .rename_i x e;simp only[aI]at hx;refine⟨w0,λ_ _=>0,⟨#[],args,[]⟩,hos,hsh,(Input.okWide_of_okWideB (base:=0) hok).1,(Input.okWide_of_okWideB hok).2,OpenSpec.preRow_of_cond (s:=OpenSpec.upto s) fuel e hx.1 (λk hk=>by cases hk; exact hx.2) hsz hl,?_⟩;simp only[Assume.holds];exact⟨by simp,by simp,λ_=>Modest.zero,by simp,by simp⟩
 .cases hx
theorem yS{C:Checked}{os:Os}{H:Type}{enc:TypeId×Value->H}{laid:List (String×DataW Unit)}(started:os.Started){f:FuncId}{fn:Func}{s:ChangeSpec}{F:Stop.Interp}{conds:List PathCond}{tb:TypeId}
  (own:ownKnob C.prog.godebug=none) (noInit:C.prog.inits.idxOf? f=none) (hfn:C.prog.funcs[f]?=some fn)
  (witness:∃(w:World) (tape:Tape) (i:Input),w.os=os/\(w.forCall tape i).Shaped C.prog/\i.vars=[]/\Input.okWide C.prog (w.forCall tape i) .any w.heap.size f i /\
   (OpenSpec.upto s).preRow enc C.prog fn conds false laid (w.forCall tape i).memory i.args/\({}:Assume).holds C.prog (lone (Frame.enter C.prog f i.args .normal) [] (w.forCall tape i)))
  (hl:laidOutB C.prog=true) (hread:∀t∈fn.params.toList,C.prog.readableRec t=true/\t<C.prog.types.size) (hvars:s.vars=[]) (hrt:fn.resultTypes=#[tb]) (htb:C.prog.underlying tb=some .bool)
  (hspec:∀ds:List (DataW H),ds.length=fn.params.size->s.fn H ds={ results:=[.lit (.bool true)],args:=ds })
  (hcall:∀(W:World) (base:Nat) (args:Array Value) (ds:List (DataW H)) (p:List MemPlace),(∀(j:Nat) t v,fn.params[j]?=some t->args[j]?=some v->Value.okWide C.prog W .any base t v) ->
   DataW.TrodAll enc C.prog W 0 (λ_=>true) true fn.params.toList args.toList ds p->(∀(j:Nat) d,ds[j]?=some d->Light d)->W.ShapedOpen C.prog->laidMetH C.prog laid W->Calls C.prog f args W λe W'=>e=.returned (.bool true)/\Below W.heap.size W W') :
  ReturnsInHanded {} C os f .any ((OpenSpec.upto s).preRow enc C.prog fn conds false laid) (((OpenSpec.upto s).at F).post enc C.prog fn false true false false):=by
 refine returnsInHanded_of_row (s:=OpenSpec.upto s) own started noInit hfn witness ?_;intro W base args ds gs before hval hW _ hk _ hL hsh _;have hW':=hW;obtain⟨p,q,hA,hV,rfl,hfz,hnd⟩:=hW;rw[show(OpenSpec.upto s).vars=s.vars from rfl,hvars]at hV;obtain⟨rfl,rfl⟩:=trodVars_none hV;have hb:uptoBulkAll (ds++[])<=1048576:=of_decide_eq_true (hk _ rfl);refine(hcall W base args ds p hval hA (λj d hd=>aV (vL (j:=j) (by rw[eY]; exact hd)) hb) hsh hL).mono ?_;rintro e W' ⟨rfl,hb⟩;have hlen:=Ia hA;have hs:=hspec (ds++[]) (by rw[eY,hlen]; simp);refine⟨_,rfl,Ki (s:=(OpenSpec.upto s).at F) (pa:=p) (pv:=[]) hW' ?_ ?_ ?_ rfl hb.row ?_⟩
 .intro b sp hd;show DataW.TrodAll enc C.prog W' b sp hd _ _ (s.fn H (ds++[])).results [];rw[hs,hrt];exact trodAll_mk1 (shut_bool htb true)
 .intro sp hsp;show DataW.TrodAll enc C.prog W' 0 sp true _ _ (s.fn H (ds++[])).args p;rw[hs,eY];refine Bx hl _ _ _ _ hread hA (λx hx=>hb.row.same ?_) (λx hx=>hsp x (by simpa using hx));have:=hW'.lt x (by simpa using hx);exact this
 .intro sp _;show DataW.TrodVars enc C.prog W' sp s.vars (s.fn H (ds++[])).vars [];rw[hs,hvars];exact rfl
 .exact ok_one hrt rfl (okWide_bool_mk htb _)
end Go.Eng
end
section
set_option maxHeartbeats 10000000
namespace VCU
open Go Go.Eng Go.Proofs Go.RowKit Go.Proofs.YtpiolkcdfgiefaaGreatDoor
set_option maxRecDepth 100000
def Mm : List (String × DataW Unit) := [("math/bits.deBruijn32tab", Rows.laid_math_bits_deBruijn32tab), ("math/bits.deBruijn64tab", Rows.laid_math_bits_deBruijn64tab), ("internal/strconv.uint64pow10", Rows.laid_internal_strconv_uint64pow10), ("strconv.ErrRange", Rows.laid_strconv_ErrRange), ("strconv.ErrSyntax", Rows.laid_strconv_ErrSyntax)]
theorem own:ownKnob Tryz.prog.godebug=none:=by kernel_rfl
theorem laidOut:laidOutB Tryz.prog=true:=by kernel_rfl
theorem Zd : Tryz.prog.globalNamed "internal/strconv.uint64pow10" = some 0 := by kernel_rfl
theorem Zc : Tryz.prog.globalNamed "math/bits.deBruijn64tab" = some 7 := by kernel_rfl
theorem Zf : Tryz.prog.globalNamed "strconv.ErrSyntax" = some 4 := by kernel_rfl
theorem Ze : Tryz.prog.globalNamed "strconv.ErrRange" = some 5 := by kernel_rfl
theorem row214 (u : TypeId) (h : Tryz.prog.typeName? 3 u = some "*errors.errorString") : u = 214 :=
 typeName_ptr_named (nm := "errors.errorString") (by rw [show ("*" ++ "errors.errorString") = "*errors.errorString" from rfl]; kernel_rfl) (by kernel_rfl) (by decide) u (by rw [show ("*" ++ "errors.errorString") = "*errors.errorString" from rfl]; exact h)
theorem C7{P:Program}{W:World}{n:String}{g:Nat}{cs:Array Value}(hg:P.globalNamed n=some g)(hv:W.var? P n=some cs):∃T fr,W.heap[g]?=some (.cells cs T fr):=by
 grind[World.var?]
theorem aEp{W:World}(hs:W.ShapedOpen Tryz.prog)(hl:laidMetH Tryz.prog Mm W):GV W:=by
 rw [MakeChecks.laidMetH_plain _ _ _ (by kernel_rfl)] at hl;have l2 := hl.tail;have l3 := l2.tail;have l4 := l3.tail;have l5 := l4.tail;have hd : Lib.TabIs Tryz.prog W "math/bits.deBruijn64tab" .u8 dbr64 :=
  Lib.tabIs_of_head (zs:=dbr64) Zc (by kernel_rfl) Tryz.underlying212 Tryz.underlying5 (by kernel_rfl) (by kernel_rfl) l2
 have ht : Lib.TabIs Tryz.prog W "internal/strconv.uint64pow10" .u64 pow10 :=
  Lib.tabIs_of_head (zs:=pow10) Zd (by kernel_rfl) Tryz.underlying176 Tryz.underlying109 (by kernel_rfl) (by kernel_rfl) l3
 obtain⟨ar,sr,vr,_⟩:=laid_sentinel l4 Ze (by kernel_rfl) Tryz.underlying91 row214 Tryz.underlying214 Tryz.underlying216 rfl rfl Tryz.underlying9 (by kernel_rfl) (by kernel_rfl);obtain⟨ay,sy,vy,_⟩:=laid_sentinel l5 Zf (by kernel_rfl) Tryz.underlying91 row214 Tryz.underlying214 Tryz.underlying216 rfl rfl Tryz.underlying9 (by kernel_rfl) (by kernel_rfl);refine⟨C7 Zd ht,?_,?_,?_,C7 Zc hd⟩
 .exact cell_of_shapedOpen_int (P:=Tryz.prog) (g:=3) (t:=3) (zero:=#[.int .i64 0]) hs (of_decide_eq_true (by kernel_rfl)) (by kernel_rfl) rfl (by kernel_rfl) (by kernel_rfl) Tryz.underlying3
 .exact ⟨_,(by simpa using World.var?_cell Zf vy 0:W.cell? ⟨4,0,none⟩=_),.inr ⟨_,_,rfl⟩⟩
 .exact ⟨_,(by simpa using World.var?_cell Ze vr 0:W.cell? ⟨5,0,none⟩=_),.inr ⟨_,_,rfl⟩⟩
end VCU
end
