/- A part of the proof. -/
import Derived.Test.YtlfdokecdilkcaaGreatDoorProg
import Derived.KernelRfl
import Derived.Test.YtlfdokecdilkcaaGreatDoorEngLib
open Go Go.Eng Go.Proofs
set_option maxRecDepth 100000
namespace G1
abbrev Pt:=Int×Int
theorem aL (k:Keep) (hp:List (Nat×aE)) (m:Nat) (p:Int×Int):sub k hp (m+4) (.cons (.int .i64 p.1) (.cons (.int .i64 p.2) .nil)) (.cons (.int .i64 p.1) (.cons (.int .i64 p.2) .nil)):=⟨⟨rfl,rfl⟩,⟨rfl,rfl⟩,trivial⟩
theorem Jx {b:Bool} {P:Prop} (h:b=false) (h2:b=true):P:=by rw [h] at h2; cases h2
def eZ:SV->Int
 | .int _ n=>n
 | _=>0
def ptL (q:Pt):SV:=.cons (.int .i64 q.1) (.cons (.int .i64 q.2) .nil)
def ptE (q:Pt):SV:=.agg (ptL q)
def ptD:SV->Option Pt
 | .agg (.cons (.int _ a) (.cons (.int _ b) .nil))=>some (a,b)
 | _=>none
theorem nR {a b B:Int} (h1:-B<=a) (h2:a<=B) (h3:-B<=b) (h4:b<=B):-(B * B)<=a * b/\a * b<=B * B:=by
 have hB:0<=B:=by omega
 have k1:0<=(B - a) * (B+b):=Int.mul_nonneg (by omega) (by omega)
 have k2:0<=(B+a) * (B - b):=Int.mul_nonneg (by omega) (by omega)
 have k3:0<=(B - a) * (B - b):=Int.mul_nonneg (by omega) (by omega)
 have k4:0<=(B+a) * (B+b):=Int.mul_nonneg (by omega) (by omega)
 simp only [Int.mul_add,Int.add_mul,Int.sub_mul,Int.mul_sub] at k1 k2 k3 k4
 have e1:b * B=B * b:=Int.mul_comm _ _
 have e2:a * B=B * a:=Int.mul_comm _ _
 constructor <;> omega
def bd (B:Int) (q:Pt):Prop:=(-B<=q.1/\q.1<=B)/\(-B<=q.2/\q.2<=B)
def onB (q:Pt):Bool:=decide (0<=min q.1 q.2) && decide (max q.1 q.2<=32767)
theorem iE {q:Pt}:onB q=true ↔ 0<=q.1/\q.1<=32767/\0<=q.2/\q.2<=32767:=by
 unfold onB
 simp only [Bool.and_eq_true,decide_eq_true_eq]
 omega
def vec (a b:Pt):Pt:=(b.1 - a.1,b.2 - a.2)
def crs (u v:Pt):Int:=u.1 * v.2 - u.2 * v.1
def dot (u v:Pt):Int:=u.1 * v.1+u.2 * v.2
def sgn (n:Int):Int:=if 0 < n then 1 else if n < 0 then -1 else 0
def ar (a b c:Pt):Int:=crs (vec a b) (vec a c)
theorem wI {a b:Pt} (ha:onB a=true) (hb:onB b=true):bd 32767 (vec a b):=by
 have h1:=iE.1 ha
 have h2:=iE.1 hb
 unfold bd vec
 dsimp only
 omega
theorem Qc {u v:Pt} {B:Int} (hu:bd B u) (hv:bd B v):(-(B * B)<=u.1 * v.2/\u.1 * v.2<=B * B)/\(-(B * B)<=u.2 * v.1/\u.2 * v.1<=B * B):=⟨nR hu.1.1 hu.1.2 hv.2.1 hv.2.2,nR hu.2.1 hu.2.2 hv.1.1 hv.1.2⟩
theorem Qk {u v:Pt} {B:Int} (hu:bd B u) (hv:bd B v):(-(B * B)<=u.1 * v.1/\u.1 * v.1<=B * B)/\(-(B * B)<=u.2 * v.2/\u.2 * v.2<=B * B):=⟨nR hu.1.1 hu.1.2 hv.1.1 hv.1.2,nR hu.2.1 hu.2.2 hv.2.1 hv.2.2⟩
def one (f:SV->Option Pt):SV->Option Pt
 | .cons a .nil=>f a
 | _=>none
def two:SV->Option (Pt×Pt)
 | .cons a (.cons b .nil)=>match ptD a,ptD b with
  | some p,some q=>some (p,q)
  | _,_=>none
 | _=>none
def g23:List Nat:=[0,1,2]
def c23:aD :=
 .seq (.region g23 [(zo 1 (.box 27 (.s 0))),(zo 2 (.move (.c (.bool false))))]) (.seq (.region g23 [(zo 3 (.fldA 0 (.s 1))),(zo 4 (.load 1 false (.s 3))),(zo 5 (.fldA 1 (.s 1))),(zo 6 (.load 1 false (.s 5))),(zo 7 (.mm false (.s 4) (.s 6))),(zo 8 (.bin (.geq) (.s 7) (.c (.int .i64 0)))),(zo 9 (.move (.s 8))),(zg 10 9 true (.fldA 0 (.s 1))),(zg 11 9 true (.load 1 false (.s 10))),(zg 12 9 true (.fldA 1 (.s 1))),(zg 13 9 true (.load 1 false (.s 12))),(zg 14 9 true (.mm true (.s 11) (.s 13))),(zg 15 9 true (.bin (.leq) (.s 14) (.c (.int .i64 32767)))),(zo 16 (.pick (.s 9) (.s 15) (.c (.bool false)))),(zo 2 (.move (.s 16)))]) .ret)
def r23:List aR:=[.slot 2]
def k23:List (Nat×Nat×aD×Nat):=[]
theorem e23:aK Tryz.prog 23 g23 [] [] k23=some (c23,r23,17):=by kernel_rfl
theorem q23:aF Tryz.prog k23:=aF.nil
def On:Eng.Spec where
 X:=Pt
 args:=fun x=>.cons (ptE x) .nil
 pre:=fun _=>True
 res:=fun x=>.bool (onB x)
 inst:=fun
  | .cons a .nil=>ptD a
  | _=>none
theorem uX:On.Ok Tryz.prog 23:=by
 refine Eng.Spec.dG e23 q23 (fun _=>[]) (fun _ _=>aA.nil) ?_
 rintro ⟨x,y⟩ _
 refine ⟨trivial,?_⟩
 exact rfl
def g125:List Nat:=[0,1,2]
def c125:aD :=
 .seq (.region g125 [(zo 1 (.box 27 (.s 0))),(zo 2 (.move (.c (.bool false))))]) (.seq (.region g125 [(zo 3 (.load 2 true (.s 1))),(zo 4 (.call (.c (.fn 23)) [.s 3])),(zo 5 (.not (.s 4))),(zo 2 (.move (.s 5)))]) .ret)
def r125:List aR:=[.slot 2]
def k125:List (Nat×Nat×aD×Nat):=[]
theorem e125:aK Tryz.prog 125 g125 [] [] k125=some (c125,r125,6):=by kernel_rfl
theorem q125:aF Tryz.prog k125:=aF.nil
def Vd:Eng.Spec where
 X:=Pt
 args:=fun x=>.cons (ptE x) .nil
 pre:=fun _=>True
 res:=fun x=>.bool (!onB x)
 inst:=fun
  | .cons a .nil=>ptD a
  | _=>none
theorem R4:Vd.Ok Tryz.prog 125:=by
 refine Eng.Spec.dG e125 q125 (fun _=>[(23,.p On)]) (fun _ _=>aA.p uX aA.nil) ?_
 rintro ⟨x,y⟩ _
 refine ⟨trivial,?_⟩
 repeat' (first|apply And.intro|exact trivial|exact rfl)
def g194:List Nat:=[0,6,8,5,4,13,7,2]
def c194:aD :=
 .seq (.region g194 [(zo 2 (.move (.c (.bool false))))]) (.seq (.seq (.region g194 [(zo 5 (.move (.s 0))),(zo 6 (.lenSl (.s 5))),(zo 7 (.move (.c (.int .i64 0))))]) (.block 0 (.loop 0 [8,9,10,4,11,12,13,2,14,7] (.seq (.region g194 [(zo 8 (.bin (.lss) (.s 7) (.s 6)))]) (.seq (.cond (.s 8) .skip (.exit 0)) (.seq (.block 1 (.seq (.region g194 [(zo 9 (.idxSl 2 (.s 5) (.s 7))),(zo 10 (.load 2 true (.s 9))),(zo 4 (.alloc 27 zPt)),⟨none,none,.store 2 (.s 4) (.s 10),[]⟩]) (.seq (.region g194 [(zo 11 (.load 2 true (.s 4))),(zo 12 (.call (.c (.fn 23)) [.s 11])),(zo 13 (.not (.s 12)))]) (.cond (.s 13) (.seq (.region g194 [(zo 2 (.move (.c (.bool false))))]) .ret) .skip)))) (.region g194 [(zo 14 (.bin (.add) (.s 7) (.c (.int .i64 1)))),(zo 7 (.move (.s 14)))]))))))) (.seq (.region g194 [(zo 2 (.move (.c (.bool true))))]) .ret))
def r194:List aR:=[.slot 2]
def k194:List (Nat×Nat×aD×Nat):=[]
theorem e194:aK Tryz.prog 194 g194 [] [] k194=some (c194,r194,15):=by kernel_rfl
theorem q194:aF Tryz.prog k194:=aF.nil
structure Pts where
 n:Nat
 p:Nat->Pt
def hO (x:Pts):Bool:=decide (∀ i,i < x.n->onB (x.p i)=true)
def on_:Eng.Spec where
 X:=Pts
 args:=fun x=>.cons (.slice 2 x.n fun i=>ptL (x.p i)) .nil
 pre:=fun x=>(x.n:Int)<=9223372036854775806
 res:=fun x=>.bool (hO x)
 inst:=fun
  | .cons s .nil=>match asSlice s with
   | some (_,n,enc)=>some ⟨n,fun i=>(eZ (bI (enc i) 0),eZ (bI (enc i) 1))⟩
   | none=>none
  | _=>none
theorem J0:on_.Ok Tryz.prog 194:=by
 refine Eng.Spec.dG e194 q194 (fun _=>[(23,.p On)]) (fun _ _=>aA.p uX aA.nil) ?_
 intro (x:Pts) hn
 replace hn:(x.n:Int)<=9223372036854775806:=hn
 refine ⟨trivial,?_⟩
 refine ⟨⟨Nat,fun i=>i<=x.n/\∀ j,j < i->onB (x.p j)=true,fun i=>[(7,.int .i64 (i:Int))],fun _=>[],fun i=>x.n - i⟩,0,⟨Nat.zero_le _,fun j hj=>by omega⟩,?_,?_⟩
 ·repeat' (first|apply And.intro|exact trivial|exact rfl|exact fun (j:Nat) (hj:j < _)=>Or.inl (aL _ _ _ _))
 rintro (i:Nat) ⟨hi,hall⟩
 replace hi:i<=x.n:=hi
 replace hall:∀ j,j < i->onB (x.p j)=true:=hall
 refine ⟨fun hlt=>?_,fun hge=>?_⟩
 ·have hlt':i < x.n:=by simpa using hlt
  repeat' (first|exact trivial|apply And.intro|exact rfl|omega|intro hb)
  ·have hb':onB (x.p i)=false:=by simpa using hb
   have e:hO x=false:=decide_eq_false fun h=>by rw [h i hlt'] at hb'; cases hb'
   show _=_
   exact e.symm
  ·have hb':onB (x.p i)=true:=by simpa using hb
   refine ⟨i+1,⟨by omega,fun j hj=>?_⟩,?_,?_⟩
   ·by_cases e:j=i
    ·subst e; exact hb'
    ·exact hall j (by omega)
   ·repeat' (first|apply And.intro|exact trivial|exact rfl|exact fun (j:Nat) (hj:j < _)=>Or.inl (aL _ _ _ _))
   ·show x.n - (i+1) < x.n - i
    omega
 ·have hge':¬ i < x.n:=by simpa using hge
  have e:hO x=true:=decide_eq_true fun j hj=>hall j (by omega)
  show _=_
  exact e.symm
def sl1 (l:SV) (i:Nat):Pt:=(eZ (bI (bI l i) 0),eZ (bI (bI l i) 1))
theorem xP (p q r:Pt):hO ⟨3,sl1 (.cons (ptL p) (.cons (ptL q) (.cons (ptL r) .nil)))⟩=(onB p && onB q && onB r):=by
 unfold hO
 rw [Bool.eq_iff_iff]
 simp only [decide_eq_true_eq,Bool.and_eq_true]
 constructor
 ·exact fun h=>⟨⟨h 0 (by decide),h 1 (by decide)⟩,h 2 (by decide)⟩
 ·rintro ⟨⟨h1,h2⟩,h3⟩ i hi
  match i,hi with
  | 0,_=>exact h1
  | 1,_=>exact h2
  | 2,_=>exact h3
theorem R5 (p q r s:Pt):hO ⟨4,sl1 (.cons (ptL p) (.cons (ptL q) (.cons (ptL r) (.cons (ptL s) .nil))))⟩=(onB p && onB q && onB r && onB s):=by
 unfold hO
 rw [Bool.eq_iff_iff]
 simp only [decide_eq_true_eq,Bool.and_eq_true]
 constructor
 ·exact fun h=>⟨⟨⟨h 0 (by decide),h 1 (by decide)⟩,h 2 (by decide)⟩,h 3 (by decide)⟩
 ·rintro ⟨⟨⟨h1,h2⟩,h3⟩,h4⟩ i hi
  match i,hi with
  | 0,_=>exact h1
  | 1,_=>exact h2
  | 2,_=>exact h3
  | 3,_=>exact h4
def g213:List Nat:=[0,1,3,2,4]
def c213:aD :=
 .seq (.region g213 [(zo 2 (.box 27 (.s 0))),(zo 3 (.box 27 (.s 1))),(zo 4 (.alloc 203 zPt))]) (.seq (.region g213 [(zo 5 (.fldA 0 (.s 3))),(zo 6 (.load 1 false (.s 5))),(zo 7 (.fldA 0 (.s 2))),(zo 8 (.load 1 false (.s 7))),(zo 9 (.bin (.sub) (.s 6) (.s 8))),(zo 10 (.fldA 1 (.s 3))),(zo 11 (.load 1 false (.s 10))),(zo 12 (.fldA 1 (.s 2))),(zo 13 (.load 1 false (.s 12))),(zo 14 (.bin (.sub) (.s 11) (.s 13))),(zo 15 (.build zPt [(0,1,.s 9),(1,1,.s 14)])),⟨none,none,.store 2 (.s 4) (.s 15),[]⟩]) .ret)
def r213:List aR:=[.cell 4 2 true]
def k213:List (Nat×Nat×aD×Nat):=[]
theorem e213:aK Tryz.prog 213 g213 [] [] k213=some (c213,r213,16):=by kernel_rfl
theorem q213:aF Tryz.prog k213:=aF.nil
def from_:Eng.Spec where
 X:=Pt×Pt
 args:=fun x=>.cons (ptE x.1) (.cons (ptE x.2) .nil)
 pre:=fun x=>onB x.1=true/\onB x.2=true
 res:=fun x=>ptE (vec x.1 x.2)
 inst:=two
theorem wX:from_.Ok Tryz.prog 213:=by
 refine Eng.Spec.dG e213 q213 (fun _=>[]) (fun _ _=>aA.nil) ?_
 intro (x:Pt×Pt) ⟨h1,h2⟩
 replace h1:=iE.1 h1
 replace h2:=iE.1 h2
 refine ⟨trivial,?_⟩
 repeat' (first|apply And.intro|exact trivial|exact rfl|omega|(dsimp only; omega))
def g215:List Nat:=[0,1,2,3,4]
def c215:aD :=
 .seq (.region g215 [(zo 2 (.box 203 (.s 0))),(zo 3 (.box 203 (.s 1))),(zo 4 (.move (.c (.int .i64 0))))]) (.seq (.region g215 [(zo 5 (.fldA 0 (.s 2))),(zo 6 (.load 1 false (.s 5))),(zo 7 (.fldA 0 (.s 3))),(zo 8 (.load 1 false (.s 7))),(zo 9 (.bin (.mul) (.s 6) (.s 8))),(zo 10 (.fldA 1 (.s 2))),(zo 11 (.load 1 false (.s 10))),(zo 12 (.fldA 1 (.s 3))),(zo 13 (.load 1 false (.s 12))),(zo 14 (.bin (.mul) (.s 11) (.s 13))),(zo 15 (.bin (.add) (.s 9) (.s 14))),(zo 4 (.move (.s 15)))]) .ret)
def r215:List aR:=[.slot 4]
def k215:List (Nat×Nat×aD×Nat):=[]
theorem e215:aK Tryz.prog 215 g215 [] [] k215=some (c215,r215,16):=by kernel_rfl
theorem q215:aF Tryz.prog k215:=aF.nil
def along:Eng.Spec where
 X:=Pt×Pt
 args:=fun x=>.cons (ptE x.1) (.cons (ptE x.2) .nil)
 pre:=fun x=>bd 32767 x.1/\bd 32767 x.2
 res:=fun x=>.int .i64 (dot x.1 x.2)
 inst:=two
theorem H5:along.Ok Tryz.prog 215:=by
 refine Eng.Spec.dG e215 q215 (fun _=>[]) (fun _ _=>aA.nil) ?_
 intro (x:Pt×Pt) ⟨h1,h2⟩
 have k:=Qk h1 h2
 refine ⟨trivial,?_⟩
 repeat' (first|apply And.intro|exact trivial|exact rfl|omega|(dsimp only; omega))
def g214:List Nat:=[0,1,2,3,4]
def c214:aD :=
 .seq (.region g214 [(zo 2 (.box 203 (.s 0))),(zo 3 (.box 203 (.s 1))),(zo 4 (.move (.c (.int .i64 0))))]) (.seq (.region g214 [(zo 5 (.fldA 0 (.s 2))),(zo 6 (.load 1 false (.s 5))),(zo 7 (.fldA 1 (.s 3))),(zo 8 (.load 1 false (.s 7))),(zo 9 (.bin (.mul) (.s 6) (.s 8))),(zo 10 (.fldA 1 (.s 2))),(zo 11 (.load 1 false (.s 10))),(zo 12 (.fldA 0 (.s 3))),(zo 13 (.load 1 false (.s 12))),(zo 14 (.bin (.mul) (.s 11) (.s 13))),(zo 15 (.bin (.sub) (.s 9) (.s 14))),(zo 4 (.move (.s 15)))]) .ret)
def r214:List aR:=[.slot 4]
def k214:List (Nat×Nat×aD×Nat):=[]
theorem e214:aK Tryz.prog 214 g214 [] [] k214=some (c214,r214,16):=by kernel_rfl
theorem q214:aF Tryz.prog k214:=aF.nil
def area:Eng.Spec where
 X:=Pt×Pt
 args:=fun x=>.cons (ptE x.1) (.cons (ptE x.2) .nil)
 pre:=fun x=>bd 32767 x.1/\bd 32767 x.2
 res:=fun x=>.int .i64 (crs x.1 x.2)
 inst:=two
theorem Lx:area.Ok Tryz.prog 214:=by
 refine Eng.Spec.dG e214 q214 (fun _=>[]) (fun _ _=>aA.nil) ?_
 intro (x:Pt×Pt) ⟨h1,h2⟩
 have k:=Qc h1 h2
 refine ⟨trivial,?_⟩
 repeat' (first|apply And.intro|exact trivial|exact rfl|omega|(dsimp only; omega))
def Ss (a b:Pt):SV:=.cons (.int .i64 a.1) (.cons (.int .i64 a.2) (.cons (.int .i64 b.1) (.cons (.int .i64 b.2) (.cons (.int .i64 (b.1 - a.1)) (.cons (.int .i64 (b.2 - a.2)) .nil)))))
def Vp:SV->Option (Pt×Pt)
 | .agg (.cons (.int _ a) (.cons (.int _ b) (.cons (.int _ c) (.cons (.int _ d) _))))=>some ((a,b),(c,d))
 | _=>none
def g195:List Nat:=[0,1,2,3,4]
def c195:aD :=
 .seq (.region g195 [(zo 2 (.box 27 (.s 0))),(zo 3 (.box 27 (.s 1))),(zo 4 (.alloc 205 (.cons (.int .i64 0) (.cons (.int .i64 0) (.cons (.int .i64 0) (.cons (.int .i64 0) (.cons (.int .i64 0) (.cons (.int .i64 0) .nil))))))))]) (.seq (.drawn g195 (.pure 0 (zo 5 (.load 2 true (.s 2))) (.pure 1 (zo 6 (.load 2 true (.s 3))) (.pure 2 (zo 7 (.build (.cons (.int .i64 0) (.cons (.int .i64 0) (.cons (.int .i64 0) (.cons (.int .i64 0) .nil)))) [(0,2,.s 5),(2,2,.s 6)])) (.pure 3 (zo 8 (.load 2 true (.s 2))) (.pure 4 (zo 9 (.load 2 true (.s 3))) (.pure 5 (zo 10 (.call (.c (.fn 213)) [.s 8,.s 9])) (.pure 6 (zo 11 (.build (.cons (.int .i64 0) (.cons (.int .i64 0) (.cons (.int .i64 0) (.cons (.int .i64 0) (.cons (.int .i64 0) (.cons (.int .i64 0) .nil)))))) [(0,4,.s 7),(4,2,.s 10)])) (.eff 7 ⟨none,none,.store 6 (.s 4) (.s 11),[]⟩ [] .done .none))))))))) .ret)
def r195:List aR:=[.cell 4 6 true]
def k195:List (Nat×Nat×aD×Nat):=[]
theorem e195:aK Tryz.prog 195 g195 [] [] k195=some (c195,r195,12):=by kernel_rfl
theorem q195:aF Tryz.prog k195:=aF.nil
def open_:Eng.Spec where
 X:=Pt×Pt
 args:=fun x=>.cons (ptE x.1) (.cons (ptE x.2) .nil)
 pre:=fun x=>onB x.1=true/\onB x.2=true
 res:=fun x=>.agg (Ss x.1 x.2)
 inst:=two
theorem xQ:open_.Ok Tryz.prog 195:=by
 refine Eng.Spec.dG e195 q195 (fun _=>[(213,.p from_)]) (fun _ _=>aA.p wX aA.nil) ?_
 intro (x:Pt×Pt) ⟨h1,h2⟩
 refine ⟨trivial,?_⟩
 repeat' (first|exact h1|exact h2|apply And.intro|exact trivial|exact rfl)
def g196:List Nat:=[0,1,2,3,14,5,17,4]
def c196:aD :=
 .seq (.region g196 [(zo 2 (.box 205 (.s 0))),(zo 3 (.box 27 (.s 1))),(zo 4 (.move (.c (.int .i64 0))))]) (.seq (.drawn g196 (.pure 0 (zo 6 (.fldA 4 (.s 2))) (.pure 1 (zo 7 (.load 2 true (.s 6))) (.pure 2 (zo 8 (.fldA 0 (.s 2))) (.pure 3 (zo 9 (.fldA 0 (.s 8))) (.pure 4 (zo 10 (.load 2 true (.s 9))) (.pure 5 (zo 11 (.load 2 true (.s 3))) (.pure 6 (zo 12 (.call (.c (.fn 213)) [.s 10,.s 11])) (.pure 7 (zo 13 (.call (.c (.fn 214)) [.s 7,.s 12])) (.pure 8 (zo 5 (.move (.s 13))) .done)))))))))) (.seq (.block 0 (.seq (.region g196 [(zo 15 (.move (.s 5))),(zo 16 (.bin (.gtr) (.s 15) (.c (.int .i64 0)))),(zo 14 (.move (.s 16)))]) (.cond (.s 14) (.seq (.region g196 [(zo 4 (.move (.c (.int .i64 1))))]) .ret) (.seq (.region g196 [(zo 18 (.move (.s 5))),(zo 19 (.bin (.lss) (.s 18) (.c (.int .i64 0)))),(zo 17 (.move (.s 19)))]) (.cond (.s 17) (.seq (.region g196 [(zo 4 (.move (.c (.int .i64 (-1)))))]) .ret) .skip))))) (.seq (.region g196 [(zo 4 (.move (.c (.int .i64 0))))]) .ret)))
def r196:List aR:=[.slot 4]
def k196:List (Nat×Nat×aD×Nat):=[]
theorem e196:aK Tryz.prog 196 g196 [] [] k196=some (c196,r196,20):=by kernel_rfl
theorem q196:aF Tryz.prog k196:=aF.nil
def side:Eng.Spec where
 X:=(Pt×Pt)×Pt
 args:=fun x=>.cons (.agg (Ss x.1.1 x.1.2)) (.cons (ptE x.2) .nil)
 pre:=fun x=>onB x.1.1=true/\onB x.1.2=true/\onB x.2=true
 res:=fun x=>.int .i64 (sgn (ar x.1.1 x.1.2 x.2))
 inst:=fun
  | .cons a (.cons b .nil)=>match Vp a,ptD b with
   | some p,some q=>some (p,q)
   | _,_=>none
  | _=>none
theorem yE:side.Ok Tryz.prog 196:=by
 refine Eng.Spec.dG e196 q196 (fun _=>[(213,.p from_),(214,.p area)]) (fun _ _=>aA.p wX (aA.p Lx aA.nil)) ?_
 intro (x:(Pt×Pt)×Pt) ⟨h1,h2,h3⟩
 have b1:=wI h1 h2
 have b2:=wI h1 h3
 refine ⟨trivial,?_⟩
 repeat' (first|exact h1|exact h2|exact h3|exact b1|exact b2|apply And.intro|exact trivial|exact rfl)
 ·refine fun (h:decide (0 < ar x.1.1 x.1.2 x.2)=true)=>?_
  have e:1=sgn (ar x.1.1 x.1.2 x.2):=by unfold sgn; rw [if_pos (of_decide_eq_true h)]
  repeat' (first|exact e|apply And.intro|exact trivial|exact rfl)
 refine fun (h:decide (0 < ar x.1.1 x.1.2 x.2)=false)=>?_
 repeat' (first|apply And.intro|exact trivial|exact rfl)
 ·refine fun (h2:decide (ar x.1.1 x.1.2 x.2 < 0)=true)=>?_
  have e:-1=sgn (ar x.1.1 x.1.2 x.2):=by unfold sgn; rw [if_neg (of_decide_eq_false h),if_pos (of_decide_eq_true h2)]
  repeat' (first|exact e|apply And.intro|exact trivial|exact rfl)
 refine fun (h2:decide (ar x.1.1 x.1.2 x.2 < 0)=false)=>?_
 have e:0=sgn (ar x.1.1 x.1.2 x.2):=by unfold sgn; rw [if_neg (of_decide_eq_false h),if_neg (of_decide_eq_false h2)]
 repeat' (first|exact e|apply And.intro|exact trivial|exact rfl)
def g161:List Nat:=[0,1,2,12,3,4,5,6]
def c161:aD :=
 .seq (.region g161 [(zo 3 (.box 27 (.s 0))),(zo 4 (.box 27 (.s 1))),(zo 5 (.box 27 (.s 2))),(zo 6 (.move (.c (.int .i64 0))))]) (.seq (.seq (.region g161 [(zo 7 (.load 2 true (.s 3))),(zo 8 (.load 2 true (.s 4))),(zo 9 (.load 2 true (.s 5))),(zo 10 (.buildSl 27 2 3 zPt [(0,2,.s 7),(2,2,.s 8),(4,2,.s 9)])),(zo 11 (.call (.c (.fn 194)) [.s 10])),(zo 12 (.not (.s 11)))]) (.cond (.s 12) (.seq (.region g161 [(zo 6 (.move (.c (.int .i64 0))))]) .ret) .skip)) (.seq (.drawn g161 (.pure 0 (zo 13 (.load 2 true (.s 3))) (.pure 1 (zo 14 (.load 2 true (.s 4))) (.pure 2 (zo 15 (.call (.c (.fn 195)) [.s 13,.s 14])) (.pure 3 (zo 16 (.load 2 true (.s 5))) (.pure 4 (zo 17 (.call (.c (.fn 196)) [.s 15,.s 16])) (.pure 5 (zo 6 (.move (.s 17))) .done))))))) .ret))
def r161:List aR:=[.slot 6]
def k161:List (Nat×Nat×aD×Nat):=[]
theorem e161:aK Tryz.prog 161 g161 [] [] k161=some (c161,r161,18):=by kernel_rfl
theorem q161:aF Tryz.prog k161:=aF.nil
def kK (a b c:Pt):Int:=if onB a=true/\onB b=true/\onB c=true then sgn (ar a b c) else 0
def three:SV->Option (Pt×Pt×Pt)
 | .cons a (.cons b (.cons c .nil))=>match ptD a,ptD b,ptD c with
  | some p,some q,some r=>some (p,q,r)
  | _,_,_=>none
 | _=>none
def Turn:Eng.Spec where
 X:=Pt×Pt×Pt
 args:=fun x=>.cons (ptE x.1) (.cons (ptE x.2.1) (.cons (ptE x.2.2) .nil))
 pre:=fun _=>True
 res:=fun x=>.int .i64 (kK x.1 x.2.1 x.2.2)
 inst:=three
theorem Lu:Turn.Ok Tryz.prog 161:=by
 refine Eng.Spec.dG e161 q161 (fun _=>[(194,.p on_),(195,.p open_),(196,.p side)]) (fun _ _=>aA.p J0 (aA.p xQ (aA.p yE aA.nil))) ?_
 intro (x:Pt×Pt×Pt) _
 refine ⟨trivial,?_⟩
 repeat' (first|apply And.intro|exact trivial|exact rfl)
 ·show (3:Int)<=_
  omega
 ·refine fun (h:(!hO ⟨3,sl1 (.cons (ptL x.1) (.cons (ptL x.2.1) (.cons (ptL x.2.2) .nil)))⟩)=true)=>?_
  rw [xP] at h
  have e:0=kK x.1 x.2.1 x.2.2:=by
   unfold kK
   rw [if_neg]
   rintro ⟨h1,h2,h3⟩
   rw [h1,h2,h3] at h
   cases h
  repeat' (first|exact e|apply And.intro|exact trivial|exact rfl)
 refine fun (h:(!hO ⟨3,sl1 (.cons (ptL x.1) (.cons (ptL x.2.1) (.cons (ptL x.2.2) .nil)))⟩)=false)=>?_
 rw [xP] at h
 simp only [Bool.not_eq_false',Bool.and_eq_true] at h
 have h1:=h.1.1
 have h2:=h.1.2
 have h3:=h.2
 have e:sgn (ar x.1 x.2.1 x.2.2)=kK x.1 x.2.1 x.2.2:=by
  unfold kK
  rw [if_pos ⟨h1,h2,h3⟩]
 repeat' (first|exact h1|exact h2|exact h3|exact e|apply And.intro|exact trivial|exact rfl)
end G1
