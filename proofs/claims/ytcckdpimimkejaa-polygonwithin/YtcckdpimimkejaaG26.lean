/- A part of the proof: see the last text. -/
import Derived.Test.YtcckdpimimkejaaG25
open Go Go.Eng Go.Proofs G1 G2 G3 G4 G5 G6 G7 G8 G9 G10 G11 G12 G13 G14 G15 G16 J9 J10 K6 K7 K8 K9 G25
set_option maxRecDepth 100000
namespace G26
/-- The same points from place k on: as far as looked at. -/
def eqK (a b : Pts) (k : Nat) : Nat → Bool
  | 0 => decide ((a.n : Int) = (b.n : Int))
  | i + 1 => eqK a b k i && eqP (a.p ((i + k) % a.n)) (b.p i)
theorem eqK_iff {a b : Pts} {k : Nat} : ∀ {i : Nat}, eqK a b k i = true ↔ a.n = b.n ∧ ∀ j, j < i → a.p ((j + k) % a.n) = b.p j
  | 0 => by unfold eqK; rw [decide_eq_true_eq]; exact ⟨fun h => ⟨by omega, fun j hj => absurd hj (by omega)⟩, fun h => by omega⟩
  | i + 1 => by
    unfold eqK
    rw [Bool.and_eq_true, eqK_iff (i := i), eqP_iff]
    constructor
    · rintro ⟨⟨h1, h2⟩, h3⟩
      refine ⟨h1, fun j hj => ?_⟩
      by_cases e : j = i
      · rw [e]; exact h3
      · exact h2 j (by omega)
    · rintro ⟨h1, h2⟩
      exact ⟨⟨h1, fun j hj => h2 j (by omega)⟩, h2 i (by omega)⟩
theorem eqK_no {a b : Pts} {k : Nat} : ∀ {i j : Nat}, eqK a b k i = false → i ≤ j → eqK a b k j = false := fun {i j} h hij => by
  rw [← Bool.not_eq_true, eqK_iff]
  rintro ⟨h1, h2⟩
  have : eqK a b k i = true := eqK_iff.2 ⟨h1, fun l hl => h2 l (by omega)⟩
  rw [h] at this
  cases this
def samV (a b : Pts) : Bool := orB (fun k => eqK a b k a.n) a.n
@[irreducible] def samX (a b : Pts) : Bool := samV a b
theorem samX_eq : samX = samV := by funext a b; unfold samX; rfl
def sameS : Eng.Spec where
  X := Pts × Pts
  args := fun x => .cons (rgE x.1) (.cons (rgE x.2) .nil)
  pre := fun x => x.1.n ≤ 50 ∧ x.2.n ≤ 50
  res := fun x => .bool (samX x.1 x.2)
  inst := twoR
/-- gazetteer/gazetteerlaw08.same -/
def g28 : List Nat := [11, 25, 0, 1, 7, 6, 42, 5, 4]
def c28 : SCode :=
  .seq (.region g28 [⟨some 4, none, .move (.c (.bool false)), []⟩]) (.seq (.seq (.region g28 [⟨some 5, none, .move (.c (.int .i64 0)), []⟩]) (.block 0 (.loop 0 [8, 9, 10, 11, 14, 15, 16, 17, 18, 19, 20, 21, 22, 23, 24, 25, 28, 29, 30, 31, 32, 33, 34, 35, 36, 37, 38, 39, 40, 41, 6, 26, 27, 7, 42, 4, 12, 13, 5] (.seq (.seq (.region g28 [⟨some 8, none, .move (.s 5), []⟩, ⟨some 9, none, .move (.s 0), []⟩, ⟨some 10, none, .lenSl (.s 9), []⟩, ⟨some 11, none, .bin (.lss) (.s 8) (.s 10), []⟩]) (.cond (.s 11) .skip (.exit 0))) (.seq (.block 1 (.seq (.region g28 [⟨some 14, none, .move (.s 0), []⟩, ⟨some 15, none, .lenSl (.s 14), []⟩, ⟨some 16, none, .move (.s 1), []⟩, ⟨some 17, none, .lenSl (.s 16), []⟩, ⟨some 18, none, .bin (.eql) (.s 15) (.s 17), []⟩, ⟨some 6, none, .move (.s 18), []⟩]) (.seq (.seq (.region g28 [⟨some 7, none, .move (.c (.int .i64 0)), []⟩]) (.block 2 (.loop 1 [19, 20, 21, 22, 23, 24, 25, 28, 29, 30, 31, 32, 33, 34, 35, 36, 37, 38, 39, 40, 41, 6, 26, 27, 7] (.seq (.seq (.region g28 [⟨some 19, none, .move (.s 7), []⟩, ⟨some 20, none, .move (.s 0), []⟩, ⟨some 21, none, .lenSl (.s 20), []⟩, ⟨some 22, none, .bin (.lss) (.s 19) (.s 21), []⟩, ⟨some 23, none, .move (.s 22), []⟩, ⟨some 24, some (23, true), .move (.s 6), []⟩, ⟨some 25, none, .pick (.s 23) (.s 24) (.c (.bool false)), []⟩]) (.cond (.s 25) .skip (.exit 2))) (.seq (.block 3 (.drawn g28 (.pure 0 ⟨some 28, none, .move (.s 0), []⟩ (.pure 1 ⟨some 29, none, .move (.s 7), []⟩ (.pure 2 ⟨some 30, none, .move (.s 5), []⟩ (.pure 3 ⟨some 31, none, .bin (.add) (.s 29) (.s 30), []⟩ (.pure 4 ⟨some 32, none, .move (.s 0), []⟩ (.pure 5 ⟨some 33, none, .lenSl (.s 32), []⟩ (.pure 6 ⟨some 34, none, .bin (.rem) (.s 31) (.s 33), []⟩ (.pure 7 ⟨some 35, none, .idxSl 2 (.s 28) (.s 34), []⟩ (.pure 8 ⟨some 36, none, .load 2 true (.s 35), []⟩ (.pure 9 ⟨some 37, none, .move (.s 1), []⟩ (.pure 10 ⟨some 38, none, .move (.s 7), []⟩ (.pure 11 ⟨some 39, none, .idxSl 2 (.s 37) (.s 38), []⟩ (.pure 12 ⟨some 40, none, .load 2 true (.s 39), []⟩ (.pure 13 ⟨some 41, none, .eqS false [(0, 1), (1, 1)] (.s 36) (.s 40), []⟩ (.pure 14 ⟨some 6, none, .move (.s 41), []⟩ .done))))))))))))))))) (.region g28 [⟨some 26, none, .move (.s 7), []⟩, ⟨some 27, none, .bin (.add) (.s 26) (.c (.int .i64 1)), []⟩, ⟨some 7, none, .move (.s 27), []⟩])))))) (.seq (.region g28 [⟨some 42, none, .move (.s 6), []⟩]) (.cond (.s 42) (.seq (.region g28 [⟨some 4, none, .move (.c (.bool true)), []⟩]) .ret) .skip))))) (.region g28 [⟨some 12, none, .move (.s 5), []⟩, ⟨some 13, none, .bin (.add) (.s 12) (.c (.int .i64 1)), []⟩, ⟨some 5, none, .move (.s 13), []⟩])))))) (.seq (.region g28 [⟨some 4, none, .move (.c (.bool false)), []⟩]) .ret))
def r28 : List SRes := [.slot 4]
def k28 : List (Nat × Nat × SCode × Nat) := []
theorem e28 : cFunc Try.prog 28 g28 [] [] k28 = some (c28, r28, 43) := by kernel_rfl
theorem q28 : RgOk Try.prog k28 := RgOk.nil
set_option maxHeartbeats 4000000 in
theorem sameS_ok : sameS.Ok Try.prog 28 := by
  refine Eng.Spec.ok_of e28 q28 (fun _ => []) (fun _ _ => TabOk.nil) ?_
  rintro ⟨a, b⟩ ⟨ha, hb⟩
  replace ha : a.n ≤ 50 := ha
  replace hb : b.n ≤ 50 := hb
  refine ⟨trivial, ?_⟩
  repeat' (first | refine And.intro ?_ ?_ | exact trivial | exact rfl | exact fun (j : Nat) (hj : j < _) => Or.inl (sub_ptN _ _ _ _))
  refine ⟨⟨Nat, fun k => k ≤ a.n ∧ orB (fun k => eqK a b k a.n) k = false, fun k => [(5, .int .i64 (k : Int))], fun _ => [], fun k => a.n - k⟩, 0, ⟨Nat.zero_le _, rfl⟩, ?_, ?_⟩
  · repeat' (first | refine And.intro ?_ ?_ | exact trivial | exact rfl | exact fun (j : Nat) (hj : j < _) => Or.inl (sub_ptN _ _ _ _))
  rintro (k : Nat) ⟨(hk : k ≤ a.n), (hf : orB (fun k => eqK a b k a.n) k = false)⟩
  repeat' (first | refine And.intro ?_ ?_ | exact trivial | exact rfl | exact fun (j : Nat) (hj : j < _) => Or.inl (sub_ptN _ _ _ _))
  · refine fun (h : decide ((k : Int) < (a.n : Int)) = true) => ?_
    have hk1 : (k : Int) < (a.n : Int) := of_decide_eq_true h
    have hkl : k < a.n := by omega
    have b1 : -9223372036854775808 ≤ (k : Int) + 1 := by omega
    have b2 : (k : Int) + 1 ≤ 9223372036854775807 := by omega
    repeat' (first | refine And.intro ?_ ?_ | exact trivial | exact rfl | exact fun (j : Nat) (hj : j < _) => Or.inl (sub_ptN _ _ _ _))
    refine ⟨⟨Nat, fun i => i ≤ a.n, fun i => [(7, .int .i64 (i : Int)), (6, .bool (eqK a b k i))], fun _ => [], fun i => a.n - i⟩, 0, Nat.zero_le _, ?_, ?_⟩
    · repeat' (first | refine And.intro ?_ ?_ | exact trivial | exact rfl | exact fun (j : Nat) (hj : j < _) => Or.inl (sub_ptN _ _ _ _))
    rintro (i : Nat) (hi : i ≤ a.n)
    repeat' (first | refine And.intro ?_ ?_ | exact trivial | exact rfl | exact fun (j : Nat) (hj : j < _) => Or.inl (sub_ptN _ _ _ _))
    · refine fun (h2 : pickB (decide ((i : Int) < (a.n : Int))) (.s 24) (.c (.bool false)) (eqK a b k i) false = true) => ?_
      rw [pickB_and, Bool.and_eq_true, decide_eq_true_eq] at h2
      have hi1 : (i : Int) < (a.n : Int) := h2.1
      have hil : i < a.n := by omega
      have hab := (eqK_iff.1 h2.2).1
      have hi2 : (i : Int) < (b.n : Int) := by omega
      have hi0 : (0 : Int) ≤ (i : Int) := by omega
      have c1 : -9223372036854775808 ≤ (i : Int) + (k : Int) := by omega
      have c2 : (i : Int) + (k : Int) ≤ 9223372036854775807 := by omega
      have hnz : (a.n : Int) ≠ 0 := by omega
      have hm : ((i : Int) + (k : Int)).tmod (a.n : Int) = (((i + k) % a.n : Nat) : Int) := by
        rw [Int.tmod_eq_emod_of_nonneg (by omega)]
        rfl
      have hm1 : 0 ≤ ((i : Int) + (k : Int)).tmod (a.n : Int) := by rw [hm]; omega
      have hm2 : ((i : Int) + (k : Int)).tmod (a.n : Int) < (a.n : Int) := by rw [hm]; have := Nat.mod_lt (i + k) (show 0 < a.n by omega); omega
      have d1 : -9223372036854775808 ≤ (i : Int) + 1 := by omega
      have d2 : (i : Int) + 1 ≤ 9223372036854775807 := by omega
      have e6 : eqP (a.p (((i : Int) + (k : Int)).tmod (a.n : Int)).toNat) (b.p i) = eqK a b k (i + 1) := by
        rw [hm]
        show _ = (eqK a b k i && eqP (a.p ((i + k) % a.n)) (b.p i))
        rw [h2.2]
        rfl
      repeat' (first | with_reducible exact c1 | with_reducible exact c2 | with_reducible exact hnz | with_reducible exact hm1 | with_reducible exact hm2 | with_reducible exact hi0 | with_reducible exact hi2 | with_reducible exact d1 | with_reducible exact d2 | refine And.intro ?_ ?_ | exact trivial | exact rfl | exact fun (j : Nat) (hj : j < _) => Or.inl (sub_ptN _ _ _ _))
      refine Exists.intro (i + 1) ?_
      refine And.intro (show i + 1 ≤ a.n from hil) ?_
      repeat' (first | exact e6 | refine And.intro ?_ ?_ | exact trivial | exact rfl | exact fun (j : Nat) (hj : j < _) => Or.inl (sub_ptN _ _ _ _))
      show a.n - (i + 1) < a.n - i
      omega
    · refine fun (h2 : pickB (decide ((i : Int) < (a.n : Int))) (.s 24) (.c (.bool false)) (eqK a b k i) false = false) => ?_
      rw [pickB_and] at h2
      have hend : eqK a b k i = eqK a b k a.n := by
        by_cases c : (i : Int) < (a.n : Int)
        · rw [decide_eq_true c, Bool.true_and] at h2
          rw [h2, eqK_no h2 hi]
        · rw [show i = a.n by omega]
      repeat' (first | refine And.intro ?_ ?_ | exact trivial | exact rfl | exact fun (j : Nat) (hj : j < _) => Or.inl (sub_ptN _ _ _ _))
      · refine fun (h3 : eqK a b k i = true) => ?_
        have et : true = samX a b := by
          rw [samX_eq]
          exact (orB_true.2 ⟨k, hkl, by rw [← hend]; exact h3⟩).symm
        repeat' (first | exact et | refine And.intro ?_ ?_ | exact trivial | exact rfl | exact fun (j : Nat) (hj : j < _) => Or.inl (sub_ptN _ _ _ _))
      · refine fun (h3 : eqK a b k i = false) => ?_
        have hf1 : orB (fun k => eqK a b k a.n) (k + 1) = false := by
          simp only [orB]
          rw [hf, ← hend, h3]
          rfl
        repeat' (first | with_reducible exact b1 | with_reducible exact b2 | refine And.intro ?_ ?_ | exact trivial | exact rfl | exact fun (j : Nat) (hj : j < _) => Or.inl (sub_ptN _ _ _ _))
        refine Exists.intro (k + 1) ?_
        refine And.intro (And.intro hkl hf1) ?_
        repeat' (first | refine And.intro ?_ ?_ | exact trivial | exact rfl | exact fun (j : Nat) (hj : j < _) => Or.inl (sub_ptN _ _ _ _))
        show a.n - (k + 1) < a.n - k
        omega
  · refine fun (h : decide ((k : Int) < (a.n : Int)) = false) => ?_
    have hk1 : ¬ (k : Int) < (a.n : Int) := of_decide_eq_false h
    have e : k = a.n := by omega
    have ef : false = samX a b := by
      rw [samX_eq]
      unfold samV
      rw [← hf, e]
    repeat' (first | exact ef | refine And.intro ?_ ?_ | exact trivial | exact rfl | exact fun (j : Nat) (hj : j < _) => Or.inl (sub_ptN _ _ _ _))
end G26
