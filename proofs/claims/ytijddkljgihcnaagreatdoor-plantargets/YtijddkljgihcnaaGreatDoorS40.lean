/- A part of the proof. -/
import Derived.Test.YtijddkljgihcnaaGreatDoorS39
open Go Go.Eng Go.Proofs G7 G4 EV0 B1 B2 B3 S1 S2 S4 S5 S6 S7 S9 PL PL2 S39
namespace S40
attribute [local irreducible] dst
structure Ix (l:Sq Of) (a:Int):Prop where
 lo:0<=a
 hi:a < (l.n:Int)
theorem Ix.nat {l:Sq Of} {a:Int} (h:Ix l a):∃ i:Nat,a=(i:Int)/\i < l.n:=⟨a.toNat,by have:=h.lo; omega,by have:=h.lo; have:=h.hi; omega⟩
theorem W6 {l:Sq Of} (h:vdV l=true) {a b:Int} (ha:Ix l a) (hb:Ix l b):dG l a b=true:=by
 obtain ⟨i,rfl,hi⟩:=ha.nat
 obtain ⟨j,rfl,hj⟩:=hb.nat
 exact xB h hi hj
theorem lG {a b:Bool} {k:Nat} (ha:a=true) (hb:b=true):aE a (.s k) cF b false=true:=by rw [aF,ha,hb]; rfl
theorem R1 {a b:Bool} {k:Nat} (ha:a=false) (hb:b=false):aE a cT (.s k) true b=false:=by rw [aD,ha,hb]; rfl
theorem E2 {l:Sq Of} (h:kR l=true) (h64:l.n<=64):l.n<=8/\∀ i,i < l.n->(l.f i).links.n<=10/\(l.f i).codes.n<=8/\∀ j,j < (l.f i).codes.n->((l.f i).codes.f j).length<=60:=by
 unfold kR at h
 rw [Bool.or_eq_true] at h
 rcases h with h|h
 ·rw [Bool.and_eq_true,decide_eq_true_iff] at h
  omega
 ·rw [Bool.and_eq_true,decide_eq_true_iff,Bool.not_eq_true'] at h
  refine ⟨by omega,fun i hi=>?_⟩
  have:=aS.1 h.1 i hi
  unfold vN at this
  rw [Bool.or_eq_false_iff,Bool.or_eq_false_iff,decide_eq_false_iff_not,decide_eq_false_iff_not] at this
  refine ⟨by omega,by omega,fun j hj=>?_⟩
  have:=aS.1 this.2 j hj
  unfold lng at this
  have:=of_decide_eq_false this
  omega
theorem D0 {l:Sq Of} (h:kR l=true) (_:bgO l):l.n<=1000000/\(l.n<=64->okO l):=by
 refine ⟨?_,fun h64=>?_⟩
 ·have:=h
  unfold kR at this
  rw [Bool.or_eq_true,Bool.and_eq_true,Bool.and_eq_true,decide_eq_true_iff,decide_eq_true_iff,decide_eq_true_iff] at this
  omega
 ·obtain ⟨h1,h2⟩:=E2 h h64
  exact ⟨fun i hi=>by have:=(h2 i hi).1; omega,fun i hi=>⟨by have:=(h2 i hi).2.1; omega,fun j hj=>by have h3:=(h2 i hi).2.2 j hj; show ((l.f i).codes.f j).length<=1000000; omega⟩⟩
theorem okI {l:Sq Of} (h:vdV l=true) {a b:Int} (ha:Ix l a) (hb:Ix l b):(!decide ((if dG l a b=true then (0:Int) else 1)=0))=false:=by rw [if_pos (W6 h ha hb)]; rfl
end S40
