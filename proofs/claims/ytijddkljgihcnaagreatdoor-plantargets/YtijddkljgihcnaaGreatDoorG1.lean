/- A part of the proof. -/
import Derived.Test.YtijddkljgihcnaaGreatDoorProg
import Derived.KernelRfl
import Derived.Test.YtijddkljgihcnaaGreatDoorL5
open Go Go.Eng Go.Proofs
set_option maxRecDepth 100000
namespace G1
abbrev Pt:=Int×Int
theorem aN (k:Keep) (hp:List (Nat×aG)) (m:Nat) (p:Int×Int):sub k hp (m+4) (.cons (.int .i64 p.1) (.cons (.int .i64 p.2) .nil)) (.cons (.int .i64 p.1) (.cons (.int .i64 p.2) .nil)):=⟨⟨rfl,rfl⟩,⟨rfl,rfl⟩,trivial⟩
theorem Jb {b:Bool} {P:Prop} (h:b=false) (h2:b=true):P:=by rw [h] at h2; cases h2
def aP:SV->Int
 | .int _ n=>n
 | _=>0
def ptL (q:Pt):SV:=.cons (.int .i64 q.1) (.cons (.int .i64 q.2) .nil)
def ptE (q:Pt):SV:=.agg (ptL q)
def ptD:SV->Option Pt
 | .agg (.cons (.int _ a) (.cons (.int _ b) .nil))=>some (a,b)
 | _=>none
theorem nE {a b B:Int} (h1:-B<=a) (h2:a<=B) (h3:-B<=b) (h4:b<=B):-(B * B)<=a * b/\a * b<=B * B:=by
 have hB:0<=B:=by omega
 have k1:0<=(B - a) * (B+b):=Int.mul_nonneg (by omega) (by omega)
 have k2:0<=(B+a) * (B - b):=Int.mul_nonneg (by omega) (by omega)
 have k3:0<=(B - a) * (B - b):=Int.mul_nonneg (by omega) (by omega)
 have k4:0<=(B+a) * (B+b):=Int.mul_nonneg (by omega) (by omega)
 simp only [Int.mul_add,Int.add_mul,Int.sub_mul,Int.mul_sub] at k1 k2 k3 k4
 have e1:b * B=B * b:=Int.mul_comm _ _
 have e2:a * B=B * a:=Int.mul_comm _ _
 constructor <;> omega
def bd (B:Int) (q:Pt):Prop:=(-B<=q.1/\q.1<=B)/\(-B<=q.2/\q.2<=B)
def onB (q:Pt):Bool:=decide (0<=min q.1 q.2) && decide (max q.1 q.2<=32767)
theorem fF {q:Pt}:onB q=true ↔ 0<=q.1/\q.1<=32767/\0<=q.2/\q.2<=32767:=by
 unfold onB
 simp only [Bool.and_eq_true,decide_eq_true_eq]
 omega
def vec (a b:Pt):Pt:=(b.1 - a.1,b.2 - a.2)
def crs (u v:Pt):Int:=u.1 * v.2 - u.2 * v.1
def dot (u v:Pt):Int:=u.1 * v.1+u.2 * v.2
def sgn (n:Int):Int:=if 0 < n then 1 else if n < 0 then -1 else 0
def ar (a b c:Pt):Int:=crs (vec a b) (vec a c)
theorem vM {a b:Pt} (ha:onB a=true) (hb:onB b=true):bd 32767 (vec a b):=by
 have h1:=fF.1 ha
 have h2:=fF.1 hb
 unfold bd vec
 dsimp only
 omega
theorem Hp {u v:Pt} {B:Int} (hu:bd B u) (hv:bd B v):(-(B * B)<=u.1 * v.2/\u.1 * v.2<=B * B)/\(-(B * B)<=u.2 * v.1/\u.2 * v.1<=B * B):=⟨nE hu.1.1 hu.1.2 hv.2.1 hv.2.2,nE hu.2.1 hu.2.2 hv.1.1 hv.1.2⟩
theorem Hu {u v:Pt} {B:Int} (hu:bd B u) (hv:bd B v):(-(B * B)<=u.1 * v.1/\u.1 * v.1<=B * B)/\(-(B * B)<=u.2 * v.2/\u.2 * v.2<=B * B):=⟨nE hu.1.1 hu.1.2 hv.1.1 hv.1.2,nE hu.2.1 hu.2.2 hv.2.1 hv.2.2⟩
def one (f:SV->Option Pt):SV->Option Pt
 | .cons a .nil=>f a
 | _=>none
def two:SV->Option (Pt×Pt)
 | .cons a (.cons b .nil)=>match ptD a,ptD b with
  | some p,some q=>some (p,q)
  | _,_=>none
 | _=>none
def g151:List Nat:=[0,1,2]
def c151:aH :=
 .seq (.region g151 [(zo 1 (.box 53 (.s 0))),(zo 2 (.move cF))]) (.seq (.region g151 [(fa 3 0 1),(ld 4 3),(fa 5 1 1),(ld 6 5),(zo 7 (.mm false (.s 4) (.s 6))),(zo 8 (.bin (.geq) (.s 7) (cj 0))),(mv 9 8),(fg 10 9 true 0 1),(lg 11 9 true 10),(fg 12 9 true 1 1),(lg 13 9 true 12),(zg 14 9 true (.mm true (.s 11) (.s 13))),(zg 15 9 true (.bin (.leq) (.s 14) (cj 32767))),(zo 16 (.pick (.s 9) (.s 15) cF)),(mv 2 16)]) .ret)
theorem e151:aI Tryz.prog 151 g151 [] [] []=some (c151,[.slot 2],17):=by kernel_rfl
def On:Eng.Spec where
 X:=Pt
 args:=fun x=>.cons (ptE x) .nil
 pre:=fun _=>True
 res:=fun x=>.bool (onB x)
 inst:=fun
  | .cons a .nil=>ptD a
  | _=>none
theorem rR:On.Ok Tryz.prog 151:=by
 refine Eng.Spec.cY e151 .nil (fun _=>[]) (fun _ _=>aA.nil) ?_
 rintro ⟨x,y⟩ _
 refine ⟨trivial,?_⟩
 exact rfl
def g199:List Nat:=[0,1,2]
def c199:aH :=
 .seq (.region g199 [(zo 1 (.box 53 (.s 0))),(zo 2 (.move cF))]) (.seq (.region g199 [(zo 3 (.load 2 true (.s 1))),(zo 4 (.call (.c (.fn 151)) [.s 3])),(zo 5 (.not (.s 4))),(mv 2 5)]) .ret)
theorem e199:aI Tryz.prog 199 g199 [] [] []=some (c199,[.slot 2],6):=by kernel_rfl
def Rs:Eng.Spec where
 X:=Pt
 args:=fun x=>.cons (ptE x) .nil
 pre:=fun _=>True
 res:=fun x=>.bool (!onB x)
 inst:=fun
  | .cons a .nil=>ptD a
  | _=>none
theorem Jj:Rs.Ok Tryz.prog 199:=by
 refine Eng.Spec.cY e199 .nil (fun _=>[(151,.p On)]) (fun _ _=>aA.p rR aA.nil) ?_
 rintro ⟨x,y⟩ _
 refine ⟨trivial,?_⟩
 repeat' (first|apply And.intro|exact trivial|exact rfl)
def g254:List Nat:=[0,6,8,5,4,13,7,2]
def c254:aH :=
 .seq (.region g254 [(zo 2 (.move cF))]) (.seq (.seq (.region g254 [(mv 5 0),(zo 6 (.lenSl (.s 5))),(zo 7 (.move (cj 0)))]) (.block 0 (.loop 0 [8,9,10,4,11,12,13,2,14,7] (.seq (.region g254 [(zo 8 (.bin (.lss) (.s 7) (.s 6)))]) (.seq (.cond (.s 8) .skip (.exit 0)) (.seq (.block 1 (.seq (.region g254 [(zo 9 (.idxSl 2 (.s 5) (.s 7))),(zo 10 (.load 2 true (.s 9))),(zo 4 (.alloc 53 zPt)),⟨none,none,.store 2 (.s 4) (.s 10),[]⟩]) (.seq (.region g254 [(zo 11 (.load 2 true (.s 4))),(zo 12 (.call (.c (.fn 151)) [.s 11])),(zo 13 (.not (.s 12)))]) (.cond (.s 13) (.seq (.region g254 [(zo 2 (.move cF))]) .ret) .skip)))) (.region g254 [(zo 14 (.bin (.add) (.s 7) (cj 1))),(mv 7 14)]))))))) (.seq (.region g254 [(zo 2 (.move cT))]) .ret))
theorem e254:aI Tryz.prog 254 g254 [] [] []=some (c254,[.slot 2],15):=by kernel_rfl
structure Pts where
 n:Nat
 p:Nat->Pt
def gG (x:Pts):Bool:=decide (∀ i,i < x.n->onB (x.p i)=true)
def on_:Eng.Spec where
 X:=Pts
 args:=fun x=>.cons (.slice 2 x.n fun i=>ptL (x.p i)) .nil
 pre:=fun x=>(x.n:Int)<=9223372036854775806
 res:=fun x=>.bool (gG x)
 inst:=fun
  | .cons s .nil=>match asSlice s with
   | some (_,n,enc)=>some ⟨n,fun i=>(aP (aJ (enc i) 0),aP (aJ (enc i) 1))⟩
   | none=>none
  | _=>none
theorem Jk:on_.Ok Tryz.prog 254:=by
 refine Eng.Spec.cY e254 .nil (fun _=>[(151,.p On)]) (fun _ _=>aA.p rR aA.nil) ?_
 intro (x:Pts) hn
 replace hn:(x.n:Int)<=9223372036854775806:=hn
 refine ⟨trivial,?_⟩
 refine ⟨⟨Nat,fun i=>i<=x.n/\∀ j,j < i->onB (x.p j)=true,fun i=>[(7,.int .i64 (i:Int))],fun _=>[],fun i=>x.n - i⟩,0,⟨Nat.zero_le _,fun j hj=>by omega⟩,?_,?_⟩
 ·repeat' (first|apply And.intro|exact trivial|exact rfl|exact fun (j:Nat) (hj:j < _)=>Or.inl (aN _ _ _ _))
 rintro (i:Nat) ⟨hi,hall⟩
 replace hi:i<=x.n:=hi
 replace hall:∀ j,j < i->onB (x.p j)=true:=hall
 refine ⟨fun hlt=>?_,fun hge=>?_⟩
 ·have hlt':i < x.n:=by simpa using hlt
  repeat' (first|exact trivial|apply And.intro|exact rfl|omega|intro hb)
  ·have hb':onB (x.p i)=false:=by simpa using hb
   have e:gG x=false:=decide_eq_false fun h=>by rw [h i hlt'] at hb'; cases hb'
   show _=_
   exact e.symm
  ·have hb':onB (x.p i)=true:=by simpa using hb
   refine ⟨i+1,⟨by omega,fun j hj=>?_⟩,?_,?_⟩
   ·by_cases e:j=i
    ·subst e; exact hb'
    ·exact hall j (by omega)
   ·repeat' (first|apply And.intro|exact trivial|exact rfl|exact fun (j:Nat) (hj:j < _)=>Or.inl (aN _ _ _ _))
   ·show x.n - (i+1) < x.n - i
    omega
 ·have hge':¬ i < x.n:=by simpa using hge
  have e:gG x=true:=decide_eq_true fun j hj=>hall j (by omega)
  show _=_
  exact e.symm
def sl1 (l:SV) (i:Nat):Pt:=(aP (aJ (aJ l i) 0),aP (aJ (aJ l i) 1))
theorem wS (p q r:Pt):gG ⟨3,sl1 (.cons (ptL p) (.cons (ptL q) (.cons (ptL r) .nil)))⟩=(onB p && onB q && onB r):=by
 unfold gG
 rw [Bool.eq_iff_iff]
 simp only [decide_eq_true_eq,Bool.and_eq_true]
 constructor
 ·exact fun h=>⟨⟨h 0 (by decide),h 1 (by decide)⟩,h 2 (by decide)⟩
 ·rintro ⟨⟨h1,h2⟩,h3⟩ i hi
  match i,hi with
  | 0,_=>exact h1
  | 1,_=>exact h2
  | 2,_=>exact h3
theorem Ru (p q r s:Pt):gG ⟨4,sl1 (.cons (ptL p) (.cons (ptL q) (.cons (ptL r) (.cons (ptL s) .nil))))⟩=(onB p && onB q && onB r && onB s):=by
 unfold gG
 rw [Bool.eq_iff_iff]
 simp only [decide_eq_true_eq,Bool.and_eq_true]
 constructor
 ·exact fun h=>⟨⟨⟨h 0 (by decide),h 1 (by decide)⟩,h 2 (by decide)⟩,h 3 (by decide)⟩
 ·rintro ⟨⟨⟨h1,h2⟩,h3⟩,h4⟩ i hi
  match i,hi with
  | 0,_=>exact h1
  | 1,_=>exact h2
  | 2,_=>exact h3
  | 3,_=>exact h4
def g264:List Nat:=[0,1,3,2,4]
def c264:aH :=
 .seq (.region g264 [(zo 2 (.box 53 (.s 0))),(zo 3 (.box 53 (.s 1))),(zo 4 (.alloc 265 zPt))]) (.seq (.region g264 [(fa 5 0 3),(ld 6 5),(fa 7 0 2),(ld 8 7),(zo 9 (.bin (.sub) (.s 6) (.s 8))),(fa 10 1 3),(ld 11 10),(fa 12 1 2),(ld 13 12),(zo 14 (.bin (.sub) (.s 11) (.s 13))),(zo 15 (.build zPt [(0,1,.s 9),(1,1,.s 14)])),⟨none,none,.store 2 (.s 4) (.s 15),[]⟩]) .ret)
theorem e264:aI Tryz.prog 264 g264 [] [] []=some (c264,[.cell 4 2 true],16):=by kernel_rfl
def from_:Eng.Spec where
 X:=Pt×Pt
 args:=fun x=>.cons (ptE x.1) (.cons (ptE x.2) .nil)
 pre:=fun x=>onB x.1=true/\onB x.2=true
 res:=fun x=>ptE (vec x.1 x.2)
 inst:=two
theorem wB:from_.Ok Tryz.prog 264:=by
 refine Eng.Spec.cY e264 .nil (fun _=>[]) (fun _ _=>aA.nil) ?_
 intro (x:Pt×Pt) ⟨h1,h2⟩
 replace h1:=fF.1 h1
 replace h2:=fF.1 h2
 refine ⟨trivial,?_⟩
 repeat' (first|apply And.intro|exact trivial|exact rfl|omega|(dsimp only; omega))
def g266:List Nat:=[0,1,2,3,4]
def c266:aH :=
 .seq (.region g266 [(zo 2 (.box 265 (.s 0))),(zo 3 (.box 265 (.s 1))),(zo 4 (.move (cj 0)))]) (.seq (.region g266 [(fa 5 0 2),(ld 6 5),(fa 7 0 3),(ld 8 7),(zo 9 (.bin (.mul) (.s 6) (.s 8))),(fa 10 1 2),(ld 11 10),(fa 12 1 3),(ld 13 12),(zo 14 (.bin (.mul) (.s 11) (.s 13))),(zo 15 (.bin (.add) (.s 9) (.s 14))),(mv 4 15)]) .ret)
theorem e266:aI Tryz.prog 266 g266 [] [] []=some (c266,[.slot 4],16):=by kernel_rfl
def along:Eng.Spec where
 X:=Pt×Pt
 args:=fun x=>.cons (ptE x.1) (.cons (ptE x.2) .nil)
 pre:=fun x=>bd 32767 x.1/\bd 32767 x.2
 res:=fun x=>.int .i64 (dot x.1 x.2)
 inst:=two
theorem G9:along.Ok Tryz.prog 266:=by
 refine Eng.Spec.cY e266 .nil (fun _=>[]) (fun _ _=>aA.nil) ?_
 intro (x:Pt×Pt) ⟨h1,h2⟩
 have k:=Hu h1 h2
 refine ⟨trivial,?_⟩
 repeat' (first|apply And.intro|exact trivial|exact rfl|omega|(dsimp only; omega))
def g265:List Nat:=[0,1,2,3,4]
def c265:aH :=
 .seq (.region g265 [(zo 2 (.box 265 (.s 0))),(zo 3 (.box 265 (.s 1))),(zo 4 (.move (cj 0)))]) (.seq (.region g265 [(fa 5 0 2),(ld 6 5),(fa 7 1 3),(ld 8 7),(zo 9 (.bin (.mul) (.s 6) (.s 8))),(fa 10 1 2),(ld 11 10),(fa 12 0 3),(ld 13 12),(zo 14 (.bin (.mul) (.s 11) (.s 13))),(zo 15 (.bin (.sub) (.s 9) (.s 14))),(mv 4 15)]) .ret)
theorem e265:aI Tryz.prog 265 g265 [] [] []=some (c265,[.slot 4],16):=by kernel_rfl
def area:Eng.Spec where
 X:=Pt×Pt
 args:=fun x=>.cons (ptE x.1) (.cons (ptE x.2) .nil)
 pre:=fun x=>bd 32767 x.1/\bd 32767 x.2
 res:=fun x=>.int .i64 (crs x.1 x.2)
 inst:=two
theorem Lk:area.Ok Tryz.prog 265:=by
 refine Eng.Spec.cY e265 .nil (fun _=>[]) (fun _ _=>aA.nil) ?_
 intro (x:Pt×Pt) ⟨h1,h2⟩
 have k:=Hp h1 h2
 refine ⟨trivial,?_⟩
 repeat' (first|apply And.intro|exact trivial|exact rfl|omega|(dsimp only; omega))
def Sa (a b:Pt):SV:=.cons (.int .i64 a.1) (.cons (.int .i64 a.2) (.cons (.int .i64 b.1) (.cons (.int .i64 b.2) (.cons (.int .i64 (b.1 - a.1)) (.cons (.int .i64 (b.2 - a.2)) .nil)))))
def V0:SV->Option (Pt×Pt)
 | .agg (.cons (.int _ a) (.cons (.int _ b) (.cons (.int _ c) (.cons (.int _ d) _))))=>some ((a,b),(c,d))
 | _=>none
def g255:List Nat:=[0,1,2,3,4]
def c255:aH :=
 .seq (.region g255 [(zo 2 (.box 53 (.s 0))),(zo 3 (.box 53 (.s 1))),(zo 4 (.alloc 267 (.cons (.int .i64 0) (.cons (.int .i64 0) (.cons (.int .i64 0) (.cons (.int .i64 0) (.cons (.int .i64 0) (.cons (.int .i64 0) .nil))))))))]) (.seq (.drawn g255 (.pure 0 (zo 5 (.load 2 true (.s 2))) (.pure 1 (zo 6 (.load 2 true (.s 3))) (.pure 2 (zo 7 (.build (.cons (.int .i64 0) (.cons (.int .i64 0) (.cons (.int .i64 0) (.cons (.int .i64 0) .nil)))) [(0,2,.s 5),(2,2,.s 6)])) (.pure 3 (zo 8 (.load 2 true (.s 2))) (.pure 4 (zo 9 (.load 2 true (.s 3))) (.pure 5 (zo 10 (.call (.c (.fn 264)) [.s 8,.s 9])) (.pure 6 (zo 11 (.build (.cons (.int .i64 0) (.cons (.int .i64 0) (.cons (.int .i64 0) (.cons (.int .i64 0) (.cons (.int .i64 0) (.cons (.int .i64 0) .nil)))))) [(0,4,.s 7),(4,2,.s 10)])) (.eff 7 ⟨none,none,.store 6 (.s 4) (.s 11),[]⟩ [] .done .none))))))))) .ret)
theorem e255:aI Tryz.prog 255 g255 [] [] []=some (c255,[.cell 4 6 true],12):=by kernel_rfl
def open_:Eng.Spec where
 X:=Pt×Pt
 args:=fun x=>.cons (ptE x.1) (.cons (ptE x.2) .nil)
 pre:=fun x=>onB x.1=true/\onB x.2=true
 res:=fun x=>.agg (Sa x.1 x.2)
 inst:=two
theorem wT:open_.Ok Tryz.prog 255:=by
 refine Eng.Spec.cY e255 .nil (fun _=>[(264,.p from_)]) (fun _ _=>aA.p wB aA.nil) ?_
 intro (x:Pt×Pt) ⟨h1,h2⟩
 refine ⟨trivial,?_⟩
 repeat' (first|exact h1|exact h2|apply And.intro|exact trivial|exact rfl)
def g256:List Nat:=[0,1,2,3,14,5,17,4]
def c256:aH :=
 .seq (.region g256 [(zo 2 (.box 267 (.s 0))),(zo 3 (.box 53 (.s 1))),(zo 4 (.move (cj 0)))]) (.seq (.drawn g256 (.pure 0 (fa 6 4 2) (.pure 1 (zo 7 (.load 2 true (.s 6))) (.pure 2 (fa 8 0 2) (.pure 3 (fa 9 0 8) (.pure 4 (zo 10 (.load 2 true (.s 9))) (.pure 5 (zo 11 (.load 2 true (.s 3))) (.pure 6 (zo 12 (.call (.c (.fn 264)) [.s 10,.s 11])) (.pure 7 (zo 13 (.call (.c (.fn 265)) [.s 7,.s 12])) (.pure 8 (mv 5 13) .done)))))))))) (.seq (.block 0 (.seq (.region g256 [(mv 15 5),(zo 16 (.bin (.gtr) (.s 15) (cj 0))),(mv 14 16)]) (.cond (.s 14) (.seq (.region g256 [(zo 4 (.move (cj 1)))]) .ret) (.seq (.region g256 [(mv 18 5),(zo 19 (.bin (.lss) (.s 18) (cj 0))),(mv 17 19)]) (.cond (.s 17) (.seq (.region g256 [(zo 4 (.move (cj (-1))))]) .ret) .skip))))) (.seq (.region g256 [(zo 4 (.move (cj 0)))]) .ret)))
theorem e256:aI Tryz.prog 256 g256 [] [] []=some (c256,[.slot 4],20):=by kernel_rfl
def side:Eng.Spec where
 X:=(Pt×Pt)×Pt
 args:=fun x=>.cons (.agg (Sa x.1.1 x.1.2)) (.cons (ptE x.2) .nil)
 pre:=fun x=>onB x.1.1=true/\onB x.1.2=true/\onB x.2=true
 res:=fun x=>.int .i64 (sgn (ar x.1.1 x.1.2 x.2))
 inst:=fun
  | .cons a (.cons b .nil)=>match V0 a,ptD b with
   | some p,some q=>some (p,q)
   | _,_=>none
  | _=>none
theorem xI:side.Ok Tryz.prog 256:=by
 refine Eng.Spec.cY e256 .nil (fun _=>[(264,.p from_),(265,.p area)]) (fun _ _=>aA.p wB (aA.p Lk aA.nil)) ?_
 intro (x:(Pt×Pt)×Pt) ⟨h1,h2,h3⟩
 have b1:=vM h1 h2
 have b2:=vM h1 h3
 refine ⟨trivial,?_⟩
 repeat' (first|exact h1|exact h2|exact h3|exact b1|exact b2|apply And.intro|exact trivial|exact rfl)
 ·refine fun (h:decide (0 < ar x.1.1 x.1.2 x.2)=true)=>?_
  have e:1=sgn (ar x.1.1 x.1.2 x.2):=by unfold sgn; rw [if_pos (of_decide_eq_true h)]
  repeat' (first|exact e|apply And.intro|exact trivial|exact rfl)
 refine fun (h:decide (0 < ar x.1.1 x.1.2 x.2)=false)=>?_
 repeat' (first|apply And.intro|exact trivial|exact rfl)
 ·refine fun (h2:decide (ar x.1.1 x.1.2 x.2 < 0)=true)=>?_
  have e:-1=sgn (ar x.1.1 x.1.2 x.2):=by unfold sgn; rw [if_neg (of_decide_eq_false h),if_pos (of_decide_eq_true h2)]
  repeat' (first|exact e|apply And.intro|exact trivial|exact rfl)
 refine fun (h2:decide (ar x.1.1 x.1.2 x.2 < 0)=false)=>?_
 have e:0=sgn (ar x.1.1 x.1.2 x.2):=by unfold sgn; rw [if_neg (of_decide_eq_false h),if_neg (of_decide_eq_false h2)]
 repeat' (first|exact e|apply And.intro|exact trivial|exact rfl)
def g239:List Nat:=[0,1,2,12,3,4,5,6]
def c239:aH :=
 .seq (.region g239 [(zo 3 (.box 53 (.s 0))),(zo 4 (.box 53 (.s 1))),(zo 5 (.box 53 (.s 2))),(zo 6 (.move (cj 0)))]) (.seq (.seq (.region g239 [(zo 7 (.load 2 true (.s 3))),(zo 8 (.load 2 true (.s 4))),(zo 9 (.load 2 true (.s 5))),(zo 10 (.buildSl 53 2 3 zPt [(0,2,.s 7),(2,2,.s 8),(4,2,.s 9)])),(zo 11 (.call (.c (.fn 254)) [.s 10])),(zo 12 (.not (.s 11)))]) (.cond (.s 12) (.seq (.region g239 [(zo 6 (.move (cj 0)))]) .ret) .skip)) (.seq (.drawn g239 (.pure 0 (zo 13 (.load 2 true (.s 3))) (.pure 1 (zo 14 (.load 2 true (.s 4))) (.pure 2 (zo 15 (.call (.c (.fn 255)) [.s 13,.s 14])) (.pure 3 (zo 16 (.load 2 true (.s 5))) (.pure 4 (zo 17 (.call (.c (.fn 256)) [.s 15,.s 16])) (.pure 5 (mv 6 17) .done))))))) .ret))
theorem e239:aI Tryz.prog 239 g239 [] [] []=some (c239,[.slot 6],18):=by kernel_rfl
def lL (a b c:Pt):Int:=if onB a=true/\onB b=true/\onB c=true then sgn (ar a b c) else 0
def three:SV->Option (Pt×Pt×Pt)
 | .cons a (.cons b (.cons c .nil))=>match ptD a,ptD b,ptD c with
  | some p,some q,some r=>some (p,q,r)
  | _,_,_=>none
 | _=>none
def Turn:Eng.Spec where
 X:=Pt×Pt×Pt
 args:=fun x=>.cons (ptE x.1) (.cons (ptE x.2.1) (.cons (ptE x.2.2) .nil))
 pre:=fun _=>True
 res:=fun x=>.int .i64 (lL x.1 x.2.1 x.2.2)
 inst:=three
theorem Lf:Turn.Ok Tryz.prog 239:=by
 refine Eng.Spec.cY e239 .nil (fun _=>[(254,.p on_),(255,.p open_),(256,.p side)]) (fun _ _=>aA.p Jk (aA.p wT (aA.p xI aA.nil))) ?_
 intro (x:Pt×Pt×Pt) _
 refine ⟨trivial,?_⟩
 repeat' (first|apply And.intro|exact trivial|exact rfl)
 ·show (3:Int)<=_
  omega
 ·refine fun (h:(!gG ⟨3,sl1 (.cons (ptL x.1) (.cons (ptL x.2.1) (.cons (ptL x.2.2) .nil)))⟩)=true)=>?_
  rw [wS] at h
  have e:0=lL x.1 x.2.1 x.2.2:=by
   unfold lL
   rw [if_neg]
   rintro ⟨h1,h2,h3⟩
   rw [h1,h2,h3] at h
   cases h
  repeat' (first|exact e|apply And.intro|exact trivial|exact rfl)
 refine fun (h:(!gG ⟨3,sl1 (.cons (ptL x.1) (.cons (ptL x.2.1) (.cons (ptL x.2.2) .nil)))⟩)=false)=>?_
 rw [wS] at h
 simp only [Bool.not_eq_false',Bool.and_eq_true] at h
 have h1:=h.1.1
 have h2:=h.1.2
 have h3:=h.2
 have e:sgn (ar x.1 x.2.1 x.2.2)=lL x.1 x.2.1 x.2.2:=by
  unfold lL
  rw [if_pos ⟨h1,h2,h3⟩]
 repeat' (first|exact h1|exact h2|exact h3|exact e|apply And.intro|exact trivial|exact rfl)
end G1
