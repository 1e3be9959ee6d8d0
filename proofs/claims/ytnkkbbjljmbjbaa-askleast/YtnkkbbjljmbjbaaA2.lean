/- A part of the proof: see the last text. -/
import Derived.Test.YtnkkbbjljmbjbaaA1
open Go Go.Eng Go.Proofs A0 A1
set_option maxRecDepth 100000
namespace A2
/-! ### proper -/
def fxP (F : Fx) : SV := .cptr (.cons (fxE F) .nil)
/-- gazetteer/ask.proper$1 -/
def g23 : List Nat := [0, 1, 3]
def c23 : SCode :=
  .seq (.region g23 [⟨some 3, none, .move (.c (.bool false)), []⟩]) (.seq (.region g23 [⟨some 4, none, .move (.s 0), []⟩, ⟨some 5, none, .lenSl (.s 4), []⟩, ⟨some 6, none, .load 1 false (.s 1), []⟩, ⟨some 7, none, .idxSl 1 (.s 6) (.c (.int .i64 0)), []⟩, ⟨some 8, none, .load 1 false (.s 7), []⟩, ⟨some 9, none, .lenSl (.s 8), []⟩, ⟨some 10, none, .bin (.neq) (.s 5) (.s 9), []⟩, ⟨some 3, none, .move (.s 10), []⟩]) .ret)
def r23 : List SRes := [.slot 3]
def k23 : List (Nat × Nat × SCode × Nat) := []
theorem e23 : cFunc Try.prog 23 g23 [] [] k23 = some (c23, r23, 11) := by kernel_rfl
theorem q23 : RgOk Try.prog k23 := RgOk.nil
structure XP where
  t : Tx
  F : Fx
def proper1 : Eng.Spec where
  X := XP
  args := fun x => .cons (txE x.t.n x.t.s) (.cons (fxP x.F) .nil)
  pre := fun x => 0 < x.F.n
  res := fun x => .bool (!decide ((x.t.n : Int) = (x.F.k 0 : Int)))
  inst := fun
    | .cons (.slice _ n e) (.cons (.cptr (.cons (.slice _ m f) .nil)) .nil) => some ⟨⟨n, fun j => hdS (e j)⟩, fxOf m f⟩
    | _ => none
theorem proper1_ok : proper1.Ok Try.prog 23 := by
  refine Eng.Spec.ok_of e23 q23 (fun _ => []) (fun _ _ => TabOk.nil) ?_
  rintro ⟨t, F⟩ hF
  replace hF : 0 < F.n := hF
  refine ⟨trivial, ?_⟩
  repeat' (first | refine And.intro ?_ ?_ | exact trivial | exact rfl | omega | (dsimp only; omega))
/-- slices.IndexFunc[[][]string,[]string] -/
def g26 : List Nat := [7, 9, 1, 0, 16, 5, 8, 4]
def c26 : SCode :=
  .seq (.region g26 [⟨some 4, none, .move (.c (.int .i64 0)), []⟩]) (.seq (.seq (.region g26 [⟨some 6, none, .move (.s 0), []⟩, ⟨some 7, none, .lenSl (.s 6), []⟩, ⟨some 8, none, .move (.c (.int .i64 0)), []⟩]) (.block 0 (.loop 0 [9, 10, 5, 11, 12, 13, 14, 15, 16, 17, 4, 18, 8] (.seq (.region g26 [⟨some 9, none, .bin (.lss) (.s 8) (.s 7), []⟩]) (.seq (.cond (.s 9) .skip (.exit 0)) (.seq (.block 1 (.seq (.region g26 [⟨some 10, none, .move (.s 8), []⟩, ⟨some 5, none, .move (.s 10), []⟩]) (.seq (.region g26 [⟨some 11, none, .move (.s 1), []⟩, ⟨some 12, none, .move (.s 0), []⟩, ⟨some 13, none, .move (.s 5), []⟩, ⟨some 14, none, .idxSl 1 (.s 12) (.s 13), []⟩, ⟨some 15, none, .load 1 false (.s 14), []⟩, ⟨some 16, none, .call (.s 11) [.s 15], []⟩]) (.cond (.s 16) (.seq (.region g26 [⟨some 17, none, .move (.s 5), []⟩, ⟨some 4, none, .move (.s 17), []⟩]) .ret) .skip)))) (.region g26 [⟨some 18, none, .bin (.add) (.s 8) (.c (.int .i64 1)), []⟩, ⟨some 8, none, .move (.s 18), []⟩]))))))) (.seq (.region g26 [⟨some 4, none, .move (.c (.int .i64 (-1))), []⟩]) .ret))
def r26 : List SRes := [.slot 4]
def k26 : List (Nat × Nat × SCode × Nat) := []
theorem e26 : cFunc Try.prog 26 g26 [] [] k26 = some (c26, r26, 19) := by kernel_rfl
theorem q26 : RgOk Try.prog k26 := RgOk.nil
def badAt (F : Fx) : Option Nat := (List.range F.n).find? fun i => !decide ((F.k i : Int) = (F.k 0 : Int))
def badI (F : Fx) : Int := match badAt F with
  | some i => (i : Int)
  | none => -1
theorem bad_none {F : Fx} (h : ∀ j, j < F.n → (F.k j : Int) = (F.k 0 : Int)) : (-1 : Int) = badI F := by
  have : badAt F = none := by
    unfold badAt
    rw [List.find?_eq_none]
    intro i hi
    simp [h i (List.mem_range.1 hi)]
  unfold badI
  rw [this]
theorem bad_some {F : Fx} {i : Nat} (hi : i < F.n) (hb : (!decide ((F.k i : Int) = (F.k 0 : Int))) = true) (h : ∀ j, j < i → (F.k j : Int) = (F.k 0 : Int)) : (i : Int) = badI F := by
  have : badAt F = some i := by
    unfold badAt
    rw [List.find?_range_eq_some]
    refine ⟨hb, List.mem_range.2 hi, fun j hj => ?_⟩
    simp [h j hj]
  unfold badI
  rw [this]
theorem idx_next {F : Fx} {i : Nat} (hall : ∀ j, j < i → (F.k j : Int) = (F.k 0 : Int)) (h : (!decide ((F.k i : Int) = (F.k 0 : Int))) = false) : ∀ j, j < i + 1 → (F.k j : Int) = (F.k 0 : Int) := by
  intro j hj
  by_cases e : j = i
  · subst e
    simpa using h
  · exact hall j (by omega)
def indexF : Eng.Spec where
  X := Fx
  args := fun F => .cons (fxE F) (.cons (.fn 23 (.cons (fxP F) .nil)) .nil)
  pre := fun F => 0 < F.n ∧ (F.n : Int) ≤ 9223372036854775806
  res := fun F => .int .i64 (badI F)
  inst := fun
    | .cons (.slice _ n e) _ => some (fxOf n e)
    | _ => none
theorem indexF_ok : indexF.Ok Try.prog 26 := by
  refine Eng.Spec.ok_of e26 q26 (fun _ => [(23, .p proper1)]) (fun _ _ => TabOk.p proper1_ok TabOk.nil) ?_
  rintro F ⟨hF, hn⟩
  replace hF : 0 < F.n := hF
  replace hn : (F.n : Int) ≤ 9223372036854775806 := hn
  refine ⟨trivial, ?_⟩
  refine ⟨⟨Nat, fun i => i ≤ F.n ∧ ∀ j, j < i → (F.k j : Int) = (F.k 0 : Int), fun i => [(8, .int .i64 (i : Int))], fun _ => [], fun i => F.n - i⟩, 0, ⟨Nat.zero_le _, fun j hj => absurd hj (Nat.not_lt_zero j)⟩, ?_, ?_⟩
  · repeat' (first | refine And.intro ?_ ?_ | exact trivial | exact rfl | exact fun (j : Nat) (hj : j < _) => Or.inl (sub_fx _ _ _ _ rfl hj) | exact fun (j : Nat) (hj : j < _) => Or.inl (sub_strN _ _ _ _))
  rintro (i : Nat) ⟨hi, hall⟩
  replace hi : i ≤ F.n := hi
  replace hall : ∀ j, j < i → (F.k j : Int) = (F.k 0 : Int) := hall
  refine And.intro (fun hb => ?_) (fun hb => ?_)
  · have hil : i < F.n := by have h1 : (i : Int) < (F.n : Int) := of_decide_eq_true hb; omega
    repeat' (first | refine And.intro ?_ ?_ | exact trivial | exact rfl | exact fun (j : Nat) (hj : j < _) => Or.inl (sub_fx _ _ _ _ rfl hj) | exact fun (j : Nat) (hj : j < _) => Or.inl (sub_strN _ _ _ _) | exact hF | omega | (dsimp only; omega))
    · refine fun (hz : (!decide _) = true) => ?_
      repeat' (first | refine And.intro ?_ ?_ | exact trivial | exact rfl | exact fun (j : Nat) (hj : j < _) => Or.inl (sub_fx _ _ _ _ rfl hj) | exact fun (j : Nat) (hj : j < _) => Or.inl (sub_strN _ _ _ _))
      exact bad_some hil hz hall
    · refine fun (hz : (!decide _) = false) => ?_
      repeat' (first | refine And.intro ?_ ?_ | exact trivial | exact rfl | exact fun (j : Nat) (hj : j < _) => Or.inl (sub_fx _ _ _ _ rfl hj) | exact fun (j : Nat) (hj : j < _) => Or.inl (sub_strN _ _ _ _) | omega | (dsimp only; omega))
      refine Exists.intro (i + 1) (And.intro ⟨hil, idx_next hall hz⟩ (And.intro ?_ ?_))
      · repeat' (first | refine And.intro ?_ ?_ | exact trivial | exact rfl | exact fun (j : Nat) (hj : j < _) => Or.inl (sub_fx _ _ _ _ rfl hj) | exact fun (j : Nat) (hj : j < _) => Or.inl (sub_strN _ _ _ _) | omega | (dsimp only; omega))
      · show F.n - (i + 1) < F.n - i
        omega
  · have hil : i = F.n := by have h1 : ¬ (i : Int) < (F.n : Int) := of_decide_eq_false hb; omega
    repeat' (first | refine And.intro ?_ ?_ | exact trivial | exact rfl | exact fun (j : Nat) (hj : j < _) => Or.inl (sub_fx _ _ _ _ rfl hj) | exact fun (j : Nat) (hj : j < _) => Or.inl (sub_strN _ _ _ _))
    exact bad_none (by rw [← hil]; exact hall)
/-- slices.ContainsFunc[[][]string,[]string] -/
def g22 : List Nat := [0, 1, 4]
def c22 : SCode :=
  .seq (.region g22 [⟨some 4, none, .move (.c (.bool false)), []⟩]) (.seq (.region g22 [⟨some 5, none, .move (.s 0), []⟩, ⟨some 6, none, .move (.s 1), []⟩, ⟨some 7, none, .call (.c (.fn 26)) [.s 5, .s 6], []⟩, ⟨some 8, none, .bin (.geq) (.s 7) (.c (.int .i64 0)), []⟩, ⟨some 4, none, .move (.s 8), []⟩]) .ret)
def r22 : List SRes := [.slot 4]
def k22 : List (Nat × Nat × SCode × Nat) := []
theorem e22 : cFunc Try.prog 22 g22 [] [] k22 = some (c22, r22, 9) := by kernel_rfl
theorem q22 : RgOk Try.prog k22 := RgOk.nil
def containsF : Eng.Spec where
  X := Fx
  args := fun F => .cons (fxE F) (.cons (.fn 23 (.cons (fxP F) .nil)) .nil)
  pre := fun F => 0 < F.n ∧ (F.n : Int) ≤ 9223372036854775806
  res := fun F => .bool (decide (0 ≤ badI F))
  inst := fun
    | .cons (.slice _ n e) _ => some (fxOf n e)
    | _ => none
theorem containsF_ok : containsF.Ok Try.prog 22 := by
  refine Eng.Spec.ok_of e22 q22 (fun _ => [(26, .p indexF)]) (fun _ _ => TabOk.p indexF_ok TabOk.nil) ?_
  rintro F ⟨hF, hn⟩
  replace hF : 0 < F.n := hF
  replace hn : (F.n : Int) ≤ 9223372036854775806 := hn
  refine ⟨trivial, ?_⟩
  repeat' (first | refine And.intro ?_ ?_ | exact trivial | exact rfl | exact hF | exact hn | exact fun (j : Nat) (hj : j < _) => Or.inl (sub_fx _ _ _ _ rfl hj) | exact fun (j : Nat) (hj : j < _) => Or.inl (sub_strN _ _ _ _))
/-- gazetteer/ask.proper -/
def g15 : List Nat := [0, 17, 1, 2]
def c15 : SCode :=
  .seq (.region g15 [⟨some 1, none, .box 22 (.s 0), []⟩, ⟨some 2, none, .move (.c (.bool false)), []⟩]) (.seq (.seq (.region g15 [⟨some 3, none, .load 1 false (.s 1), []⟩, ⟨some 4, none, .lenSl (.s 3), []⟩, ⟨some 5, none, .bin (.lss) (.s 4) (.c (.int .i64 1)), []⟩, ⟨some 6, none, .move (.s 5), []⟩, ⟨some 7, some (6, false), .load 1 false (.s 1), []⟩, ⟨some 8, some (6, false), .lenSl (.s 7), []⟩, ⟨some 9, some (6, false), .bin (.gtr) (.s 8) (.c (.int .i64 8)), []⟩, ⟨some 10, none, .pick (.s 6) (.c (.bool true)) (.s 9), []⟩, ⟨some 11, none, .move (.s 10), []⟩, ⟨some 12, some (11, false), .load 1 false (.s 1), []⟩, ⟨some 13, some (11, false), .idxSl 1 (.s 12) (.c (.int .i64 0)), []⟩, ⟨some 14, some (11, false), .load 1 false (.s 13), []⟩, ⟨some 15, some (11, false), .lenSl (.s 14), []⟩, ⟨some 16, some (11, false), .bin (.gtr) (.s 15) (.c (.int .i64 8)), []⟩, ⟨some 17, none, .pick (.s 11) (.c (.bool true)) (.s 16), []⟩]) (.cond (.s 17) (.seq (.region g15 [⟨some 2, none, .move (.c (.bool false)), []⟩]) .ret) .skip)) (.seq (.region g15 [⟨some 18, none, .load 1 false (.s 1), []⟩, ⟨some 19, none, .mkfn 23 [.s 1], []⟩, ⟨some 20, none, .call (.c (.fn 22)) [.s 18, .s 19], []⟩, ⟨some 21, none, .not (.s 20), []⟩, ⟨some 2, none, .move (.s 21), []⟩]) .ret))
def r15 : List SRes := [.slot 2]
def k15 : List (Nat × Nat × SCode × Nat) := []
theorem e15 : cFunc Try.prog 15 g15 [] [] k15 = some (c15, r15, 22) := by kernel_rfl
theorem q15 : RgOk Try.prog k15 := RgOk.nil
theorem badI_none {F : Fx} : badI F < 0 ↔ ∀ j, j < F.n → F.k j = F.k 0 := by
  constructor
  · intro h j hj
    refine Classical.byContradiction fun hne => ?_
    unfold badI at h
    split at h
    · omega
    · rename_i he
      unfold badAt at he
      rw [List.find?_eq_none] at he
      have := he j (List.mem_range.2 hj)
      simp at this
      omega
  · intro h
    rw [← bad_none fun j hj => by rw [h j hj]]
    decide
/-- Are facts proper? -/
def properB (F : Fx) : Bool := decide (1 ≤ F.n ∧ F.n ≤ 8 ∧ F.k 0 ≤ 8 ∧ ∀ j, j < F.n → F.k j = F.k 0)
theorem pr_g {n i : Nat} (h : pickB (decide ((n : Int) < 1)) (.c (.bool true)) (.s i) true (decide ((8 : Int) < (n : Int))) = false) : (0 : Int) ≤ 0 ∧ (0 : Int) < (n : Int) := by
  rw [pickB_or] at h
  simp only [Bool.or_eq_false_iff, decide_eq_false_iff_not] at h
  omega
theorem pr_f {n k i j : Nat} (h : pickB (pickB (decide ((n : Int) < 1)) (.c (.bool true)) (.s i) true (decide ((8 : Int) < (n : Int)))) (.c (.bool true)) (.s j) true (decide ((8 : Int) < (k : Int))) = false) : (1 ≤ n ∧ n ≤ 8) ∧ k ≤ 8 := by
  rw [pickB_or, pickB_or] at h
  simp only [Bool.or_eq_false_iff, decide_eq_false_iff_not] at h
  omega
theorem pr_t {F : Fx} {i j : Nat} (h : pickB (pickB (decide ((F.n : Int) < 1)) (.c (.bool true)) (.s i) true (decide ((8 : Int) < (F.n : Int)))) (.c (.bool true)) (.s j) true (decide ((8 : Int) < (F.k 0 : Int))) = true) : properB F = false := by
  rw [pickB_or, pickB_or] at h
  simp only [Bool.or_eq_true, decide_eq_true_eq] at h
  unfold properB
  refine decide_eq_false fun hp => ?_
  omega
theorem pr_all {F : Fx} (h : (1 ≤ F.n ∧ F.n ≤ 8) ∧ F.k 0 ≤ 8) : (!decide (0 ≤ badI F)) = properB F := by
  unfold properB
  by_cases hb : badI F < 0
  · rw [decide_eq_false (by omega), decide_eq_true ⟨h.1.1, h.1.2, h.2, badI_none.1 hb⟩]
    rfl
  · rw [decide_eq_true (by omega), decide_eq_false fun hp => hb (badI_none.2 hp.2.2.2)]
    rfl
def proper : Eng.Spec where
  X := Fx
  args := fun F => .cons (fxE F) .nil
  pre := fun F => (F.n : Int) ≤ 9223372036854775806
  res := fun F => .bool (properB F)
  inst := fun
    | .cons (.slice _ n e) _ => some (fxOf n e)
    | _ => none
theorem proper_ok : proper.Ok Try.prog 15 := by
  refine Eng.Spec.ok_of e15 q15 (fun _ => [(22, .p containsF)]) (fun _ _ => TabOk.p containsF_ok TabOk.nil) ?_
  intro F hn
  replace hn : (F.n : Int) ≤ 9223372036854775806 := hn
  refine ⟨trivial, ?_⟩
  repeat' (first | refine And.intro ?_ ?_ | exact trivial | exact rfl | exact hn | exact fun (j : Nat) (hj : j < _) => Or.inl (sub_fx _ _ _ _ rfl hj) | exact fun (j : Nat) (hj : j < _) => Or.inl (sub_strN _ _ _ _))
  · exact fun (h : pickB (decide ((F.n : Int) < 1)) _ _ _ (decide ((8 : Int) < (F.n : Int))) = false) => pr_g h
  · refine fun (h : pickB _ _ _ _ _ = true) => ?_
    have hb := pr_t h
    repeat' (first | refine And.intro ?_ ?_ | exact trivial | exact rfl)
    exact hb.symm
  · refine fun (h : pickB _ _ _ _ _ = false) => ?_
    have hb := pr_f h
    have h8 : (F.n : Int) ≤ 9223372036854775806 := by omega
    have h1 : 0 < F.n := hb.1.1
    repeat' (first | refine And.intro ?_ ?_ | exact trivial | exact rfl | exact h1 | exact h8 | exact fun (j : Nat) (hj : j < _) => Or.inl (sub_fx _ _ _ _ rfl hj) | exact fun (j : Nat) (hj : j < _) => Or.inl (sub_strN _ _ _ _))
    exact pr_all hb
end A2
