/- A part of the proof: see the last text. -/
import Derived.Test.YtcckdpimimkejaaG6
open Go Go.Eng Go.Proofs G1 G2 G3 G4 G5 G6
set_option maxRecDepth 100000
namespace G7
/-- The first place. -/
def firstI (f : Nat → Bool) : Nat → Int
  | 0 => -1
  | n + 1 => if 0 ≤ firstI f n then firstI f n else if f n = true then (n : Int) else -1
theorem first_none {f : Nat → Bool} : ∀ {n : Nat}, orB f n = false → firstI f n = -1 := by
  intro n
  induction n with
  | zero => intro _; rfl
  | succ n ih =>
    intro h
    simp only [orB, Bool.or_eq_false_iff] at h
    have h1 := ih h.1
    simp only [firstI]
    rw [h1, if_neg (by omega), if_neg (by rw [h.2]; decide)]
theorem first_some {f : Nat → Bool} {i : Nat} (h : orB f i = false) (hi : f i = true) : ∀ {n : Nat}, i < n → firstI f n = (i : Int) := by
  intro n
  induction n with
  | zero => intro h; omega
  | succ n ih =>
    intro hn
    simp only [firstI]
    by_cases e : i = n
    · subst e
      rw [first_none h, if_neg (by omega), if_pos hi]
    · have h1 := ih (by omega)
      rw [h1, if_pos (by omega)]
theorem first_or {f : Nat → Bool} {n : Nat} : decide (0 ≤ firstI f n) = orB f n := by
  cases h : orB f n with
  | false => rw [first_none h]; rfl
  | true =>
    rw [decide_eq_true_eq]
    induction n with
    | zero => cases h
    | succ n ih =>
      simp only [firstI]
      split
      · assumption
      · rename_i hn
        simp only [orB, Bool.or_eq_true] at h
        rcases h with h | h
        · exact absurd (ih h) hn
        · rw [if_pos h]; omega
theorem first_bd {f : Nat → Bool} : ∀ {n : Nat}, -1 ≤ firstI f n ∧ firstI f n ≤ n := by
  intro n
  induction n with
  | zero => simp [firstI]
  | succ n ih =>
    simp only [firstI]
    split
    · omega
    · split <;> omega
def offI (r : Pts) (i : Nat) : Bool := !onB (r.p i)
def idxOff : Eng.Spec where
  X := Pts
  args := fun r => .cons (rgE r) (.cons (.fn 34 .nil) .nil)
  pre := fun r => r.n ≤ 50
  res := fun r => .int .i64 (firstI (offI r) r.n)
  inst := fun
    | .cons a (.cons _ .nil) => ptsD a
    | _ => none
/-- slices.IndexFunc[gazetteer/polygon.ring,gazetteer/api.Point] -/
def g57 : List Nat := [7, 9, 1, 0, 16, 5, 8, 4]
def c57 : SCode :=
  .seq (.region g57 [⟨some 4, none, .move (.c (.int .i64 0)), []⟩]) (.seq (.seq (.region g57 [⟨some 6, none, .move (.s 0), []⟩, ⟨some 7, none, .lenSl (.s 6), []⟩, ⟨some 8, none, .move (.c (.int .i64 0)), []⟩]) (.block 0 (.loop 0 [9, 10, 5, 11, 12, 13, 14, 15, 16, 17, 4, 18, 8] (.seq (.region g57 [⟨some 9, none, .bin (.lss) (.s 8) (.s 7), []⟩]) (.seq (.cond (.s 9) .skip (.exit 0)) (.seq (.block 1 (.seq (.region g57 [⟨some 10, none, .move (.s 8), []⟩, ⟨some 5, none, .move (.s 10), []⟩]) (.seq (.region g57 [⟨some 11, none, .move (.s 1), []⟩, ⟨some 12, none, .move (.s 0), []⟩, ⟨some 13, none, .move (.s 5), []⟩, ⟨some 14, none, .idxSl 2 (.s 12) (.s 13), []⟩, ⟨some 15, none, .load 2 true (.s 14), []⟩, ⟨some 16, none, .call (.s 11) [.s 15], []⟩]) (.cond (.s 16) (.seq (.region g57 [⟨some 17, none, .move (.s 5), []⟩, ⟨some 4, none, .move (.s 17), []⟩]) .ret) .skip)))) (.region g57 [⟨some 18, none, .bin (.add) (.s 8) (.c (.int .i64 1)), []⟩, ⟨some 8, none, .move (.s 18), []⟩]))))))) (.seq (.region g57 [⟨some 4, none, .move (.c (.int .i64 (-1))), []⟩]) .ret))
def r57 : List SRes := [.slot 4]
def k57 : List (Nat × Nat × SCode × Nat) := []
theorem e57 : cFunc Try.prog 57 g57 [] [] k57 = some (c57, r57, 19) := by kernel_rfl
theorem q57 : RgOk Try.prog k57 := RgOk.nil
theorem idxOff_ok : idxOff.Ok Try.prog 57 := by
  refine Eng.Spec.ok_of e57 q57 (fun _ => [(34, .p offS)]) (fun _ _ => TabOk.p off_ok TabOk.nil) ?_
  rintro r hn
  replace hn : r.n ≤ 50 := hn
  refine ⟨trivial, ?_⟩
  repeat' (first | refine And.intro ?_ ?_ | exact trivial | exact rfl | exact fun (j : Nat) (hj : j < _) => Or.inl (sub_ptN _ _ _ _))
  refine ⟨⟨Nat, fun i => i ≤ r.n ∧ orB (offI r) i = false, fun i => [(8, .int .i64 (i : Int))], fun _ => [], fun i => r.n - i⟩, 0, ⟨Nat.zero_le _, rfl⟩, ?_, ?_⟩
  · repeat' (first | refine And.intro ?_ ?_ | exact trivial | exact rfl | exact fun (j : Nat) (hj : j < _) => Or.inl (sub_ptN _ _ _ _))
  rintro (i : Nat) ⟨(hi : i ≤ r.n), (hf : orB (offI r) i = false)⟩
  repeat' (first | refine And.intro ?_ ?_ | exact trivial | exact rfl | exact fun (j : Nat) (hj : j < _) => Or.inl (sub_ptN _ _ _ _))
  · refine fun (h : decide ((i : Int) < (r.n : Int)) = true) => ?_
    have hi1 : (i : Int) < (r.n : Int) := of_decide_eq_true h
    have hil : i < r.n := by omega
    have hi0 : (0 : Int) ≤ (i : Int) := by omega
    have b1 : -9223372036854775808 ≤ (i : Int) + 1 := by omega
    have b2 : (i : Int) + 1 ≤ 9223372036854775807 := by omega
    repeat' (first | with_reducible exact hi1 | with_reducible exact hi0 | refine And.intro ?_ ?_ | exact trivial | exact rfl | exact fun (j : Nat) (hj : j < _) => Or.inl (sub_ptN _ _ _ _))
    · refine fun (hc : (!onB (r.p i)) = true) => ?_
      have e : (i : Int) = firstI (offI r) r.n := (first_some hf hc hil).symm
      repeat' (first | exact e | refine And.intro ?_ ?_ | exact trivial | exact rfl | exact fun (j : Nat) (hj : j < _) => Or.inl (sub_ptN _ _ _ _))
    · refine fun (hc : (!onB (r.p i)) = false) => ?_
      have hf1 : orB (offI r) (i + 1) = false := by
        simp only [orB]
        rw [hf]
        exact hc
      repeat' (first | with_reducible exact b1 | with_reducible exact b2 | refine And.intro ?_ ?_ | exact trivial | exact rfl | exact fun (j : Nat) (hj : j < _) => Or.inl (sub_ptN _ _ _ _))
      refine Exists.intro (i + 1) ?_
      refine And.intro (And.intro hil hf1) ?_
      repeat' (first | refine And.intro ?_ ?_ | exact trivial | exact rfl | exact fun (j : Nat) (hj : j < _) => Or.inl (sub_ptN _ _ _ _))
      show r.n - (i + 1) < r.n - i
      omega
  · refine fun (h : decide ((i : Int) < (r.n : Int)) = false) => ?_
    have hi1 : ¬ (i : Int) < (r.n : Int) := of_decide_eq_false h
    have e : i = r.n := by omega
    have ef : -1 = firstI (offI r) r.n := by rw [← e, first_none hf]
    repeat' (first | exact ef | refine And.intro ?_ ?_ | exact trivial | exact rfl | exact fun (j : Nat) (hj : j < _) => Or.inl (sub_ptN _ _ _ _))
def hasOff : Eng.Spec where
  X := Pts
  args := fun r => .cons (rgE r) (.cons (.fn 34 .nil) .nil)
  pre := fun r => r.n ≤ 50
  res := fun r => .bool (orB (offI r) r.n)
  inst := fun
    | .cons a (.cons _ .nil) => ptsD a
    | _ => none
/-- slices.ContainsFunc[gazetteer/polygon.ring,gazetteer/api.Point] -/
def g33 : List Nat := [0, 1, 4]
def c33 : SCode :=
  .seq (.region g33 [⟨some 4, none, .move (.c (.bool false)), []⟩]) (.seq (.region g33 [⟨some 5, none, .move (.s 0), []⟩, ⟨some 6, none, .move (.s 1), []⟩, ⟨some 7, none, .call (.c (.fn 57)) [.s 5, .s 6], []⟩, ⟨some 8, none, .bin (.geq) (.s 7) (.c (.int .i64 0)), []⟩, ⟨some 4, none, .move (.s 8), []⟩]) .ret)
def r33 : List SRes := [.slot 4]
def k33 : List (Nat × Nat × SCode × Nat) := []
theorem e33 : cFunc Try.prog 33 g33 [] [] k33 = some (c33, r33, 9) := by kernel_rfl
theorem q33 : RgOk Try.prog k33 := RgOk.nil
theorem hasOff_ok : hasOff.Ok Try.prog 33 := by
  refine Eng.Spec.ok_of e33 q33 (fun _ => [(57, .p idxOff)]) (fun _ _ => TabOk.p idxOff_ok TabOk.nil) ?_
  rintro r hn
  replace hn : r.n ≤ 50 := hn
  have e := first_or (f := offI r) (n := r.n)
  refine ⟨trivial, ?_⟩
  repeat' (first | exact hn | exact e | refine And.intro ?_ ?_ | exact trivial | exact rfl | exact fun (j : Nat) (hj : j < _) => Or.inl (sub_ptN _ _ _ _))
/-! ### Valid -/
def valV (r : Pts) : Bool := (((decide (3 ≤ (r.n : Int)) && decide ((r.n : Int) ≤ 40)) && !orB (offI r) r.n) && decide (0 < twV r)) && simV r
def Valid : Eng.Spec where
  X := Pts
  args := fun r => .cons (rgE r) .nil
  pre := fun r => (r.n : Int) ≤ 9223372036854775806
  res := fun r => .bool (valV r)
  inst := fun
    | .cons a .nil => ptsD a
    | _ => none
/-- gazetteer/polygon.Valid -/
def g15 : List Nat := [0, 3, 2]
def c15 : SCode :=
  .seq (.region g15 [⟨some 2, none, .move (.c (.bool false)), []⟩]) (.seq (.region g15 [⟨some 4, none, .move (.s 0), []⟩, ⟨some 3, none, .move (.s 4), []⟩]) (.seq (.region g15 [⟨some 5, none, .move (.s 3), []⟩, ⟨some 6, none, .lenSl (.s 5), []⟩, ⟨some 7, none, .bin (.geq) (.s 6) (.c (.int .i64 3)), []⟩, ⟨some 8, none, .move (.s 7), []⟩, ⟨some 9, some (8, true), .move (.s 3), []⟩, ⟨some 10, some (8, true), .lenSl (.s 9), []⟩, ⟨some 11, some (8, true), .bin (.leq) (.s 10) (.c (.int .i64 40)), []⟩, ⟨some 12, none, .pick (.s 8) (.s 11) (.c (.bool false)), []⟩, ⟨some 13, none, .move (.s 12), []⟩, ⟨some 14, some (13, true), .move (.s 3), []⟩, ⟨some 15, some (13, true), .call (.c (.fn 33)) [.s 14, .c (.fn 34)], []⟩, ⟨some 16, some (13, true), .not (.s 15), []⟩, ⟨some 17, none, .pick (.s 13) (.s 16) (.c (.bool false)), []⟩, ⟨some 18, none, .move (.s 17), []⟩, ⟨some 19, some (18, true), .move (.s 3), []⟩, ⟨some 20, some (18, true), .call (.c (.fn 35)) [.s 19], []⟩, ⟨some 21, some (18, true), .bin (.gtr) (.s 20) (.c (.int .i64 0)), []⟩, ⟨some 22, none, .pick (.s 18) (.s 21) (.c (.bool false)), []⟩, ⟨some 23, none, .move (.s 22), []⟩, ⟨some 24, some (23, true), .move (.s 3), []⟩, ⟨some 25, some (23, true), .call (.c (.fn 36)) [.s 24], []⟩, ⟨some 26, none, .pick (.s 23) (.s 25) (.c (.bool false)), []⟩, ⟨some 2, none, .move (.s 26), []⟩]) .ret))
def r15 : List SRes := [.slot 2]
def k15 : List (Nat × Nat × SCode × Nat) := []
theorem e15 : cFunc Try.prog 15 g15 [] [] k15 = some (c15, r15, 27) := by kernel_rfl
theorem q15 : RgOk Try.prog k15 := RgOk.nil
theorem off_on {r : Pts} (h : orB (offI r) r.n = false) : OnR r := fun i hi => by
  have := orB_false.1 h i hi
  unfold offI at this
  simpa using this
theorem Valid_ok : Valid.Ok Try.prog 15 := by
  refine Eng.Spec.ok_of e15 q15 (fun _ => [(33, .p hasOff), (35, .p twice), (36, .p simple)]) (fun _ _ => TabOk.p hasOff_ok (TabOk.p twice_ok (TabOk.p simple_ok TabOk.nil))) ?_
  rintro r hn
  replace hn : (r.n : Int) ≤ 9223372036854775806 := hn
  refine ⟨trivial, ?_⟩
  repeat' (first | refine And.intro ?_ ?_ | exact trivial | exact rfl | exact fun (j : Nat) (hj : j < _) => Or.inl (sub_ptN _ _ _ _))
  · refine fun (h : pickB (decide (3 ≤ (r.n : Int))) _ _ (decide ((r.n : Int) ≤ 40)) _ = true) => ?_
    rw [pickB_and] at h
    simp only [Bool.and_eq_true, decide_eq_true_eq] at h
    have h50 : r.n ≤ 50 := by omega
    repeat' (first | exact h50 | refine And.intro ?_ ?_ | exact trivial | exact rfl | exact fun (j : Nat) (hj : j < _) => Or.inl (sub_ptN _ _ _ _))
  · refine fun (h : pickB (pickB (decide (3 ≤ (r.n : Int))) _ _ (decide ((r.n : Int) ≤ 40)) _) _ _ (!orB (offI r) r.n) _ = true) => ?_
    rw [pickB_and, pickB_and] at h
    simp only [Bool.and_eq_true, decide_eq_true_eq] at h
    have h50 : r.n ≤ 50 := by omega
    have hon : OnR r := off_on (not_t h.2)
    repeat' (first | exact h50 | exact hon | refine And.intro ?_ ?_ | exact trivial | exact rfl | exact fun (j : Nat) (hj : j < _) => Or.inl (sub_ptN _ _ _ _))
  · refine fun (h : pickB (pickB (pickB (decide (3 ≤ (r.n : Int))) _ _ (decide ((r.n : Int) ≤ 40)) _) _ _ (!orB (offI r) r.n) _) _ _ (decide (0 < twV r)) _ = true) => ?_
    rw [pickB_and, pickB_and, pickB_and] at h
    simp only [Bool.and_eq_true, decide_eq_true_eq] at h
    have h50 : r.n ≤ 50 := by omega
    have hon : OnR r := off_on (not_t h.1.2)
    repeat' (first | exact h50 | exact hon | refine And.intro ?_ ?_ | exact trivial | exact rfl | exact fun (j : Nat) (hj : j < _) => Or.inl (sub_ptN _ _ _ _))
theorem val_ok {r : Pts} (h : valV r = true) : (r.n ≤ 50 ∧ OnR r) ∧ (3 ≤ r.n ∧ r.n ≤ 40) ∧ 0 < twV r ∧ simV r = true := by
  unfold valV at h
  simp only [Bool.and_eq_true, decide_eq_true_eq] at h
  exact ⟨⟨by omega, off_on (not_t h.1.1.2)⟩, by omega, h.1.2, h.2⟩
/-! ### Twice -/
def twiV (r : Pts) : Int := if valV r = true then twV r else 0
def Twice : Eng.Spec where
  X := Pts
  args := fun r => .cons (rgE r) .nil
  pre := fun r => (r.n : Int) ≤ 9223372036854775806
  res := fun r => .int .i64 (twiV r)
  inst := fun
    | .cons a .nil => ptsD a
    | _ => none
/-- gazetteer/polygon.Twice -/
def g17 : List Nat := [5, 0, 2]
def c17 : SCode :=
  .seq (.region g17 [⟨some 2, none, .move (.c (.int .i64 0)), []⟩]) (.seq (.seq (.region g17 [⟨some 3, none, .move (.s 0), []⟩, ⟨some 4, none, .call (.c (.fn 15)) [.s 3], []⟩, ⟨some 5, none, .not (.s 4), []⟩]) (.cond (.s 5) (.seq (.region g17 [⟨some 2, none, .move (.c (.int .i64 0)), []⟩]) .ret) .skip)) (.seq (.region g17 [⟨some 6, none, .move (.s 0), []⟩, ⟨some 7, none, .call (.c (.fn 35)) [.s 6], []⟩, ⟨some 2, none, .move (.s 7), []⟩]) .ret))
def r17 : List SRes := [.slot 2]
def k17 : List (Nat × Nat × SCode × Nat) := []
theorem e17 : cFunc Try.prog 17 g17 [] [] k17 = some (c17, r17, 8) := by kernel_rfl
theorem q17 : RgOk Try.prog k17 := RgOk.nil
theorem Twice_ok : Twice.Ok Try.prog 17 := by
  refine Eng.Spec.ok_of e17 q17 (fun _ => [(15, .p Valid), (35, .p twice)]) (fun _ _ => TabOk.p Valid_ok (TabOk.p twice_ok TabOk.nil)) ?_
  rintro r hn
  replace hn : (r.n : Int) ≤ 9223372036854775806 := hn
  refine ⟨trivial, ?_⟩
  repeat' (first | exact hn | refine And.intro ?_ ?_ | exact trivial | exact rfl | exact fun (j : Nat) (hj : j < _) => Or.inl (sub_ptN _ _ _ _))
  · refine fun (h : (!valV r) = true) => ?_
    have e : 0 = twiV r := by unfold twiV; rw [not_t h]; rfl
    repeat' (first | exact e | refine And.intro ?_ ?_ | exact trivial | exact rfl | exact fun (j : Nat) (hj : j < _) => Or.inl (sub_ptN _ _ _ _))
  · refine fun (h : (!valV r) = false) => ?_
    have hv := val_ok (not_f h)
    have h50 := hv.1.1
    have hon := hv.1.2
    have e : twV r = twiV r := by unfold twiV; rw [if_pos (not_f h)]
    repeat' (first | exact h50 | exact hon | exact e | refine And.intro ?_ ?_ | exact trivial | exact rfl | exact fun (j : Nat) (hj : j < _) => Or.inl (sub_ptN _ _ _ _))
/-! ### Where -/
def dbP (p : Pt) : Pt := (2 * p.1, 2 * p.2)
def wheV (r : Pts) (p : Pt) : Int := if (valV r && onB p) = true then (if outV r (dbP p) = true then -1 else if insV r (dbP p) = true then 1 else 0) else -1
def Where : Eng.Spec where
  X := Pts × Pt
  args := fun x => .cons (rgE x.1) (.cons (ptE x.2) .nil)
  pre := fun x => (x.1.n : Int) ≤ 9223372036854775806
  res := fun x => .int .i64 (wheV x.1 x.2)
  inst := ptsPt
/-- gazetteer/polygon.Where -/
def g19 : List Nat := [1, 0, 3, 15, 5, 6, 28, 4]
def c19 : SCode :=
  .seq (.region g19 [⟨some 3, none, .box 24 (.s 1), []⟩, ⟨some 4, none, .move (.c (.int .i64 0)), []⟩]) (.seq (.drawn g19 (.pure 0 ⟨some 7, none, .move (.s 0), []⟩ (.pure 1 ⟨some 8, none, .fldA 0 (.s 3), []⟩ (.pure 2 ⟨some 9, none, .load 1 false (.s 8), []⟩ (.pure 3 ⟨some 10, none, .bin (.mul) (.c (.int .i64 2)) (.s 9), []⟩ (.pure 4 ⟨some 11, none, .fldA 1 (.s 3), []⟩ (.pure 5 ⟨some 12, none, .load 1 false (.s 11), []⟩ (.pure 6 ⟨some 13, none, .bin (.mul) (.c (.int .i64 2)) (.s 12), []⟩ (.pure 7 ⟨some 14, none, .build (.cons (.int .i64 0) (.cons (.int .i64 0) .nil)) [(0, 1, .s 10), (1, 1, .s 13)], []⟩ (.eff 8 ⟨some 6, none, .alloc 24 (.cons (.int .i64 0) (.cons (.int .i64 0) .nil)), []⟩ [⟨some 12, none, .load 1 false (.s 11), []⟩, ⟨some 9, none, .load 1 false (.s 8), []⟩] (.pure 9 ⟨some 5, none, .move (.s 7), []⟩ (.eff 10 ⟨none, none, .store 2 (.s 6) (.s 14), []⟩ [] .done .none)) .none)))))))))) (.seq (.block 0 (.seq (.region g19 [⟨some 16, none, .move (.s 0), []⟩, ⟨some 17, none, .call (.c (.fn 15)) [.s 16], []⟩, ⟨some 18, none, .not (.s 17), []⟩, ⟨some 19, none, .move (.s 18), []⟩, ⟨some 20, some (19, false), .load 2 true (.s 3), []⟩, ⟨some 21, some (19, false), .call (.c (.fn 34)) [.s 20], []⟩, ⟨some 22, none, .pick (.s 19) (.c (.bool true)) (.s 21), []⟩, ⟨some 23, none, .move (.s 22), []⟩, ⟨some 24, some (23, false), .move (.s 5), []⟩, ⟨some 25, some (23, false), .load 2 true (.s 6), []⟩, ⟨some 26, some (23, false), .call (.c (.fn 42)) [.s 24, .s 25], []⟩, ⟨some 27, none, .pick (.s 23) (.c (.bool true)) (.s 26), []⟩, ⟨some 15, none, .move (.s 27), []⟩]) (.cond (.s 15) (.seq (.region g19 [⟨some 4, none, .move (.c (.int .i64 (-1))), []⟩]) .ret) (.seq (.region g19 [⟨some 29, none, .move (.s 5), []⟩, ⟨some 30, none, .load 2 true (.s 6), []⟩, ⟨some 31, none, .call (.c (.fn 43)) [.s 29, .s 30], []⟩, ⟨some 28, none, .move (.s 31), []⟩]) (.cond (.s 28) (.seq (.region g19 [⟨some 4, none, .move (.c (.int .i64 1)), []⟩]) .ret) .skip))))) (.seq (.region g19 [⟨some 4, none, .move (.c (.int .i64 0)), []⟩]) .ret)))
def r19 : List SRes := [.slot 4]
def k19 : List (Nat × Nat × SCode × Nat) := []
theorem e19 : cFunc Try.prog 19 g19 [] [] k19 = some (c19, r19, 32) := by kernel_rfl
theorem q19 : RgOk Try.prog k19 := RgOk.nil
theorem wrap2 {x : Int} (h : 0 ≤ x ∧ x ≤ 32767) : IntKind.i64.wrap (2 * x) = 2 * x := InR.wrap ⟨by show -9223372036854775808 ≤ _; omega, by show _ ≤ 9223372036854775807; omega⟩
theorem wrapE {p : Pt} (h : onB p = true) : (IntKind.i64.wrap (2 * p.1), IntKind.i64.wrap (2 * p.2)) = dbP p := by
  have := onB_iff.1 h
  rw [wrap2 ⟨this.1, this.2.1⟩, wrap2 ⟨this.2.2.1, this.2.2.2⟩]
  rfl
theorem onH_db {p : Pt} (h : onB p = true) : OnH (dbP p) := by
  have := onB_iff.1 h
  unfold OnH dbP
  dsimp only
  omega
theorem wrapH {p : Pt} (h : onB p = true) : OnH (IntKind.i64.wrap (2 * p.1), IntKind.i64.wrap (2 * p.2)) := by
  rw [wrapE h]
  exact onH_db h
theorem Where_ok : Where.Ok Try.prog 19 := by
  refine Eng.Spec.ok_of e19 q19 (fun _ => [(2097153, .own), (15, .p Valid), (34, .p offS), (42, .p outside), (43, .p inside)]) (fun _ _ => TabOk.o (TabOk.p Valid_ok (TabOk.p off_ok (TabOk.p outside_ok (TabOk.p inside_ok TabOk.nil))))) ?_
  rintro ⟨r, p⟩ hn
  replace hn : (r.n : Int) ≤ 9223372036854775806 := hn
  refine ⟨trivial, ?_⟩
  repeat' (first | exact hn | refine And.intro ?_ ?_ | exact trivial | exact rfl | exact fun (j : Nat) (hj : j < _) => Or.inl (sub_ptN _ _ _ _))
  · refine fun (_ : guardP _ _ _ _) => ?_
    repeat' (first | refine And.intro ?_ ?_ | exact trivial | exact rfl | exact fun (j : Nat) (hj : j < _) => Or.inl (sub_ptN _ _ _ _))
  · refine fun (h : pickB (!valV r) _ _ _ (!onB p) = false) => ?_
    rw [pickB_or] at h
    simp only [Bool.or_eq_false_iff] at h
    have hv := (val_ok (not_f h.1)).1
    have h50 := hv.1
    have hon := hv.2
    have ho := wrapH (not_f h.2)
    repeat' (first | exact h50 | exact hon | exact ho | refine And.intro ?_ ?_ | exact trivial | exact rfl | exact fun (j : Nat) (hj : j < _) => Or.inl (sub_ptN _ _ _ _))
  · refine fun (h : pickB (pickB (!valV r) _ _ _ (!onB p)) _ _ _ (outV r (IntKind.i64.wrap (2 * p.1), IntKind.i64.wrap (2 * p.2))) = true) => ?_
    rw [pickB_or, pickB_or] at h
    have e : -1 = wheV r p := by
      unfold wheV
      split
      · rename_i hv
        simp only [Bool.and_eq_true] at hv
        rw [hv.1, hv.2, wrapE hv.2] at h
        have h' : outV r (dbP p) = true := h
        rw [if_pos h']
      · rfl
    repeat' (first | exact e | refine And.intro ?_ ?_ | exact trivial | exact rfl | exact fun (j : Nat) (hj : j < _) => Or.inl (sub_ptN _ _ _ _))
  · refine fun (h : pickB (pickB (!valV r) _ _ _ (!onB p)) _ _ _ (outV r (IntKind.i64.wrap (2 * p.1), IntKind.i64.wrap (2 * p.2))) = false) => ?_
    rw [pickB_or, pickB_or] at h
    simp only [Bool.or_eq_false_iff] at h
    have hv := (val_ok (not_f h.1.1)).1
    have hb := not_f h.1.2
    have h50 := hv.1
    have hon := hv.2
    have ho := wrapH hb
    have h2 := h.2
    rw [wrapE hb] at h2
    have e0 : wheV r p = if insV r (dbP p) = true then 1 else 0 := by
      unfold wheV
      rw [not_f h.1.1, hb, h2]
      rfl
    repeat' (first | exact h50 | exact hon | exact ho | refine And.intro ?_ ?_ | exact trivial | exact rfl | exact fun (j : Nat) (hj : j < _) => Or.inl (sub_ptN _ _ _ _))
    · refine fun (hi : insV r (IntKind.i64.wrap (2 * p.1), IntKind.i64.wrap (2 * p.2)) = true) => ?_
      rw [wrapE hb] at hi
      have e : 1 = wheV r p := by rw [e0, if_pos hi]
      repeat' (first | exact e | refine And.intro ?_ ?_ | exact trivial | exact rfl | exact fun (j : Nat) (hj : j < _) => Or.inl (sub_ptN _ _ _ _))
    · refine fun (hi : insV r (IntKind.i64.wrap (2 * p.1), IntKind.i64.wrap (2 * p.2)) = false) => ?_
      rw [wrapE hb] at hi
      have e : 0 = wheV r p := by rw [e0, hi]; rfl
      repeat' (first | exact e | refine And.intro ?_ ?_ | exact trivial | exact rfl | exact fun (j : Nat) (hj : j < _) => Or.inl (sub_ptN _ _ _ _))
end G7
