/- A part of the proof. -/
import Derived.Test.YtijddkljgihcnaaGreatDoorS39
section
open Go Go.Eng Go.Proofs G7 G4 L3 L10 G1 G3 EV0 B1 B2 S1 S2 S3 S4 S5 S6 S7 S9 PL PL2
set_option maxRecDepth 100000
namespace S36
attribute [local irreducible] dst
def c1:Sq B:=⟨1,fun _=>[99,49]⟩
def c2:Sq B:=⟨1,fun _=>[99,50]⟩
def c0:Sq B:=⟨0,fun _=>[]⟩
def lk (a b:Int):Sq Int:=⟨2,fun j=>if j=0 then a else b⟩
def of0:Of:=⟨lk 1 3,c0⟩
def of1:Of:=⟨lk 0 2,c1⟩
def of2:Of:=⟨lk 1 3,c2⟩
def of3:Of:=⟨lk 0 2,c1⟩
def l0f (i:Nat):Of:=if i=0 then of0 else if i=1 then of1 else if i=2 then of2 else of3
def l0:Sq Of:=⟨4,l0f⟩
def g26:List Nat:=[0]
def c26:aH :=
 .seq (.region g26 [(zo 0 (.move (.c (.nilsl))))]) (.seq (.region g26 [(zo 1 (.buildSl 3 1 2 (.cons (.int .i64 0) .nil) [(0,1,cj 1),(1,1,cj 3)])),(zo 2 (.build (.cons (.nilsl) (.cons (.nilsl) .nil)) [(0,1,.s 1)])),(zo 3 (.buildSl 3 1 2 (.cons (.int .i64 0) .nil) [(0,1,cj 0),(1,1,cj 2)])),(zo 4 (.buildSl 9 1 1 (.cons (.str []) .nil) [(0,1,.c (.str [99,49]))])),(zo 5 (.build (.cons (.nilsl) (.cons (.nilsl) .nil)) [(0,1,.s 3),(1,1,.s 4)])),(zo 6 (.buildSl 3 1 2 (.cons (.int .i64 0) .nil) [(0,1,cj 1),(1,1,cj 3)])),(zo 7 (.buildSl 9 1 1 (.cons (.str []) .nil) [(0,1,.c (.str [99,50]))])),(zo 8 (.build (.cons (.nilsl) (.cons (.nilsl) .nil)) [(0,1,.s 6),(1,1,.s 7)])),(zo 9 (.buildSl 3 1 2 (.cons (.int .i64 0) .nil) [(0,1,cj 0),(1,1,cj 2)])),(zo 10 (.buildSl 9 1 1 (.cons (.str []) .nil) [(0,1,.c (.str [99,49]))])),(zo 11 (.build (.cons (.nilsl) (.cons (.nilsl) .nil)) [(0,1,.s 9),(1,1,.s 10)])),(zo 12 (.buildSl 44 2 4 (.cons (.nilsl) (.cons (.nilsl) .nil)) [(0,2,.s 2),(2,2,.s 5),(4,2,.s 8),(6,2,.s 11)])),(mv 0 12)]) .ret)
theorem e26:aI Tryz.prog 26 g26 [] [] []=some (c26,[.slot 0],13):=by kernel_rfl
def Ui:Eng.Spec where
 X:=Unit
 args:=fun _=>.nil
 pre:=fun _=>True
 res:=fun _=>ofE l0
 inst:=fun _=>some ()
 fresh:=false
theorem Qt:Ui.Ok Tryz.prog 26:=by
 refine Eng.Spec.okR e26 .nil (fun _=>[]) (fun _ _=>aA.nil) ?_
 rintro ⟨⟩ _
 refine ⟨trivial,?_⟩
 repeat' (first|apply And.intro|exact trivial|exact rfl)
theorem Vo (i:Nat):(l0f i).links.n=2:=by
 unfold l0f
 split
 ·rfl
 ·split
  ·rfl
  ·split <;> rfl
theorem jV (i k:Nat):EO l0 i k ↔ i < 4/\(((l0f i).links.f 0=(k:Int))\/((l0f i).links.f 1=(k:Int))):=by
 unfold EO
 constructor
 ·rintro ⟨h1,j,h2,h3⟩
  have h1:i < 4:=h1
  refine ⟨h1,?_⟩
  have h2:j < (l0f i).links.n:=h2
  have e:=Vo i
  have:j=0\/j=1:=by omega
  rcases this with rfl|rfl
  ·exact .inl h3
  ·exact .inr h3
 ·rintro ⟨h1,h2⟩
  have e:=Vo i
  rcases h2 with h2|h2
  ·exact ⟨h1,0,by show 0 < (l0f i).links.n; omega,h2⟩
  ·exact ⟨h1,1,by show 1 < (l0f i).links.n; omega,h2⟩
theorem E01:EO l0 0 1:=(jV 0 1).2 ⟨by decide,.inl rfl⟩
theorem E03:EO l0 0 3:=(jV 0 3).2 ⟨by decide,.inr rfl⟩
theorem E12:EO l0 1 2:=(jV 1 2).2 ⟨by decide,.inr rfl⟩
theorem E10:EO l0 1 0:=(jV 1 0).2 ⟨by decide,.inl rfl⟩
theorem E21:EO l0 2 1:=(jV 2 1).2 ⟨by decide,.inl rfl⟩
theorem E23:EO l0 2 3:=(jV 2 3).2 ⟨by decide,.inr rfl⟩
theorem E30:EO l0 3 0:=(jV 3 0).2 ⟨by decide,.inl rfl⟩
theorem E32:EO l0 3 2:=(jV 3 2).2 ⟨by decide,.inr rfl⟩
theorem Vb:¬ EO l0 0 2:=fun h=>by
 have:=((jV 0 2).1 h).2
 rcases this with h|h
 ·exact absurd h (by decide)
 ·exact absurd h (by decide)
theorem irr0 (a:Nat):¬ EO l0 a a:=fun h=>by
 obtain ⟨h1,h2⟩:=(jV a a).1 h
 have:a=0\/a=1\/a=2\/a=3:=by omega
 rcases this with rfl|rfl|rfl|rfl <;> rcases h2 with h|h <;> exact absurd h (by decide)
theorem d00:dst (EO l0) 0 0=0:=xK _ _
theorem d01:dst (EO l0) 0 1=1:=(kZ irr0).2 E01
theorem d03:dst (EO l0) 0 3=1:=(kZ irr0).2 E03
theorem d02:dst (EO l0) 0 2=2:=by
 have h1:dst (EO l0) 0 2<=2:=mJ (l:=2) ⟨1,⟨0,rfl,E01⟩,E12⟩
 have h2:dst (EO l0) 0 2≠0:=fun h=>absurd (rL.1 h) (by decide)
 have h3:dst (EO l0) 0 2≠1:=fun h=>Vb ((kZ irr0).1 h)
 omega
theorem d21:dst (EO l0) 2 1=1:=(kZ irr0).2 E21
theorem d23:dst (EO l0) 2 3=1:=(kZ irr0).2 E23
theorem nm1:dW [99,49]=true:=by kernel_rfl
theorem nm2:dW [99,50]=true:=by kernel_rfl
theorem co0:orB (coB c0) c0.n=false:=rfl
theorem co1:orB (coB c1) c1.n=false:=by
 show (false || (!dW [99,49] || (decide ((0:Int) < ((0:Nat):Int)) && _)))=false
 rw [nm1]; rfl
theorem co2:orB (coB c2) c2.n=false:=by
 show (false || (!dW [99,50] || (decide ((0:Int) < ((0:Nat):Int)) && _)))=false
 rw [nm2]; rfl
theorem four {P:Nat->Prop} (h0:P 0) (h1:P 1) (h2:P 2) (h3:P 3):∀ i,i < 4->P i:=fun i hi=>by
 have:i=0\/i=1\/i=2\/i=3:=by omega
 rcases this with rfl|rfl|rfl|rfl
 ·exact h0
 ·exact h1
 ·exact h2
 ·exact h3
theorem vd0:vdV l0=true:=by
 refine pM.2 (PL2.Vd.mk' (by decide) (by decide) ?_ ?_ ?_ ?_ ?_)
 ·refine four ?_ ?_ ?_ ?_ <;> (intro j hj; have hj:j < 2:=hj; have:j=0\/j=1:=by omega) <;> rcases this with rfl|rfl <;> decide
 ·intro i k e
  obtain ⟨h1,h2⟩:=(jV i k).1 e
  have:i=0\/i=1\/i=2\/i=3:=by omega
  rcases this with rfl|rfl|rfl|rfl
  ·rcases h2 with h|h
   ·have:k=1:=by have h:(1:Int)=k:=h; omega
    subst this; exact ⟨by decide,by decide,E10⟩
   ·have:k=3:=by have h:(3:Int)=k:=h; omega
    subst this; exact ⟨by decide,by decide,E30⟩
  ·rcases h2 with h|h
   ·have:k=0:=by have h:(0:Int)=k:=h; omega
    subst this; exact ⟨by decide,by decide,E01⟩
   ·have:k=2:=by have h:(2:Int)=k:=h; omega
    subst this; exact ⟨by decide,by decide,E21⟩
  ·rcases h2 with h|h
   ·have:k=1:=by have h:(1:Int)=k:=h; omega
    subst this; exact ⟨by decide,by decide,E12⟩
   ·have:k=3:=by have h:(3:Int)=k:=h; omega
    subst this; exact ⟨by decide,by decide,E32⟩
  ·rcases h2 with h|h
   ·have:k=0:=by have h:(0:Int)=k:=h; omega
    subst this; exact ⟨by decide,by decide,E03⟩
   ·have:k=2:=by have h:(2:Int)=k:=h; omega
    subst this; exact ⟨by decide,by decide,E23⟩
 ·exact four co0 co1 co2 co1
 ·refine four ?_ ?_ ?_ ?_ <;> intro _ <;> decide
 ·refine four ?_ ?_ ?_ ?_
  ·rw [d00]; decide
  ·rw [d01]; decide
  ·rw [d02]; decide
  ·rw [d03]; decide
theorem hop02:eG l0 0 2=2:=by
 have:=jF vd0 (i:=0) (j:=2) (by decide) (by decide)
 rw [d02] at this
 exact this
theorem prp02:dD l0 0 2=true:=wB vd0 (i:=0) (j:=2) (by decide) (by decide)
theorem prp22:dD l0 2 2=true:=wB vd0 (i:=2) (j:=2) (by decide) (by decide)
theorem nxt02:Bs l0 0 2=1:=by
 have e1:(dst (EO l0) ((2:Int).toNat) ((1:Int)).toNat:Int)=1:=by rw [show ((2:Int).toNat)=2 from rfl,show ((1:Int)).toNat=1 from rfl,d21]; rfl
 have e3:(dst (EO l0) ((2:Int).toNat) ((3:Int)).toNat:Int)=1:=by rw [show ((2:Int).toNat)=2 from rfl,show ((3:Int)).toNat=3 from rfl,d23]; rfl
 show (lk 1 3).f (if (dst (EO l0) ((2:Int).toNat) ((3:Int)).toNat:Int) < (dst (EO l0) ((2:Int).toNat) ((1:Int)).toNat:Int) then 1 else 0)=1
 rw [e1,e3]
 rfl
theorem sv1:S8.svI l0 [99,49]=1:=rfl
theorem sv3:S8.svI l0 [99,51]=-1:=rfl
theorem sv2:S8.svI l0 [99,50]=2:=rfl
theorem vd3:vdV ⟨3,l0f⟩=false:=by
 cases h:vdV ⟨3,l0f⟩ with
 | false=>rfl
 | true =>
  have:=((pM.1 h).lk 0 (by decide) 1 (by decide)).2.1
  exact absurd this (by decide)
end S36
end
section
open Go Go.Eng Go.Proofs G7 G4 EV0 B1 B2 B3 S1 S2 S4 S5 S6 S7 S9 PL PL2 S39
namespace S40
attribute [local irreducible] dst
structure Ix (l:Sq Of) (a:Int):Prop where
 lo:0<=a
 hi:a < (l.n:Int)
theorem Ix.nat {l:Sq Of} {a:Int} (h:Ix l a):∃ i:Nat,a=(i:Int)/\i < l.n:=⟨a.toNat,by have:=h.lo; omega,by have:=h.lo; have:=h.hi; omega⟩
theorem Ve {l:Sq Of} (h:vdV l=true) {a b:Int} (ha:Ix l a) (hb:Ix l b):dD l a b=true:=by
 obtain ⟨i,rfl,hi⟩:=ha.nat
 obtain ⟨j,rfl,hj⟩:=hb.nat
 exact wB h hi hj
theorem Vl {l:Sq Of} (h:vdV l=true) {a b:Int} (ha:Ix l a) (hb:Ix l b):eG l a b=eG l b a:=by
 obtain ⟨i,rfl,hi⟩:=ha.nat
 obtain ⟨j,rfl,hj⟩:=hb.nat
 exact K9 h hi hj
theorem U1 {l:Sq Of} (h:vdV l=true) {a b:Int} (ha:Ix l a) (hb:Ix l b):decide (eG l a b=0)=decide (a=b):=by
 obtain ⟨i,rfl,hi⟩:=ha.nat
 obtain ⟨j,rfl,hj⟩:=hb.nat
 exact Hf h hi hj
theorem Vc {l:Sq Of} (h:vdV l=true) {a b:Int} (ha:Ix l a) (hb:Ix l b):decide (eG l a b=1)=orB (fun q=>decide ((l.f a.toNat).links.f q=b)) (l.f a.toNat).links.n:=by
 obtain ⟨i,rfl,hi⟩:=ha.nat
 obtain ⟨j,rfl,hj⟩:=hb.nat
 exact K7 h hi hj
theorem Qo {l:Sq Of} (h:vdV l=true) {a b:Int} (ha:Ix l a) (hb:Ix l b):0<=eG l a b/\eG l a b < (l.n:Int):=by
 obtain ⟨i,rfl,hi⟩:=ha.nat
 obtain ⟨j,rfl,hj⟩:=hb.nat
 exact K8 h hi hj
theorem Vn {l:Sq Of} (h:vdV l=true) {a b c:Int} (ha:Ix l a) (hb:Ix l b) (hc:Ix l c):eG l a b<=eG l a c+eG l c b:=by
 obtain ⟨i,rfl,hi⟩:=ha.nat
 obtain ⟨j,rfl,hj⟩:=hb.nat
 obtain ⟨k,rfl,hk⟩:=hc.nat
 exact La h hi hj hk
theorem Pw {l:Sq Of} {m:Int} (h0:0<=m) (hn:l.n≠0):Ix l (Int.tmod m (l.n:Int)):=by
 have h1:(0:Int) < (l.n:Int):=by omega
 exact ⟨Int.tmod_nonneg _ h0,Int.tmod_lt_of_pos _ h1⟩
theorem oZ {a b:Bool} {k:Nat} (ha:a=true) (hb:b=true):aE a (.s k) cF b false=true:=by rw [aD,ha,hb]; rfl
theorem Bz {a b:Bool} {k:Nat} (ha:a=false) (hb:b=false):aE a cT (.s k) true b=false:=by rw [aF,ha,hb]; rfl
theorem D4 {l:Sq Of} (h:jY l=true) (h64:l.n<=64):l.n<=8/\∀ i,i < l.n->(l.f i).links.n<=10/\(l.f i).codes.n<=8/\∀ j,j < (l.f i).codes.n->((l.f i).codes.f j).length<=60:=by
 unfold jY at h
 rw [Bool.or_eq_true] at h
 rcases h with h|h
 ·rw [Bool.and_eq_true,decide_eq_true_iff] at h
  omega
 ·rw [Bool.and_eq_true,decide_eq_true_iff,Bool.not_eq_true'] at h
  refine ⟨by omega,fun i hi=>?_⟩
  have:=bF.1 h.1 i hi
  unfold uP at this
  rw [Bool.or_eq_false_iff,Bool.or_eq_false_iff,decide_eq_false_iff_not,decide_eq_false_iff_not] at this
  refine ⟨by omega,by omega,fun j hj=>?_⟩
  have:=bF.1 this.2 j hj
  unfold lng at this
  have:=of_decide_eq_false this
  omega
theorem C5 {l:Sq Of} (h:jY l=true) (_:bgO l):l.n<=1000000/\(l.n<=64->okO l):=by
 refine ⟨?_,fun h64=>?_⟩
 ·have:=h
  unfold jY at this
  rw [Bool.or_eq_true,Bool.and_eq_true,Bool.and_eq_true,decide_eq_true_iff,decide_eq_true_iff,decide_eq_true_iff] at this
  omega
 ·obtain ⟨h1,h2⟩:=D4 h h64
  exact ⟨fun i hi=>by have:=(h2 i hi).1; omega,fun i hi=>⟨by have:=(h2 i hi).2.1; omega,fun j hj=>by have h3:=(h2 i hi).2.2 j hj; show ((l.f i).codes.f j).length<=1000000; omega⟩⟩
theorem okI {l:Sq Of} (h:vdV l=true) {a b:Int} (ha:Ix l a) (hb:Ix l b):(!decide ((if dD l a b=true then (0:Int) else 1)=0))=false:=by rw [if_pos (Ve h ha hb)]; rfl
theorem Gv {l:Sq Of} (hb:bgO l) (hg:(!jY l)=false):l.n<=1000000/\(l.n<=64->okO l):=C5 (by simpa using hg) hb
end S40
end
