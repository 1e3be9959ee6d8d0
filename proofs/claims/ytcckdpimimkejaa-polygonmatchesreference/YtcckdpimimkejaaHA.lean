/- A part of the proof: see the last text. -/
import Derived.Test.YtcckdpimimkejaaG16
import Derived.Test.YtcckdpimimkejaaJA
import Derived.Test.YtcckdpimimkejaaG11
import Derived.Test.YtcckdpimimkejaaEngCut
import Derived.Test.YtcckdpimimkejaaG8
import Derived.Test.YtcckdpimimkejaaG14
section
open Go Go.Eng Go.Proofs G1 G2 G3 G4 G5 G6 G7
set_option maxRecDepth 100000
namespace H1
/-- gazetteer/gazetteerref07.On -/
def g44 : List Nat := [0, 1, 2]
def c44 : SCode :=
  .seq (.region g44 [⟨some 1, none, .box 24 (.s 0), []⟩, ⟨some 2, none, .move (.c (.bool false)), []⟩]) (.seq (.region g44 [⟨some 3, none, .fldA 0 (.s 1), []⟩, ⟨some 4, none, .load 1 false (.s 3), []⟩, ⟨some 5, none, .bin (.geq) (.s 4) (.c (.int .i64 0)), []⟩, ⟨some 6, none, .move (.s 5), []⟩, ⟨some 7, some (6, true), .fldA 0 (.s 1), []⟩, ⟨some 8, some (6, true), .load 1 false (.s 7), []⟩, ⟨some 9, some (6, true), .bin (.leq) (.s 8) (.c (.int .i64 32767)), []⟩, ⟨some 10, none, .pick (.s 6) (.s 9) (.c (.bool false)), []⟩, ⟨some 11, none, .move (.s 10), []⟩, ⟨some 12, some (11, true), .fldA 1 (.s 1), []⟩, ⟨some 13, some (11, true), .load 1 false (.s 12), []⟩, ⟨some 14, some (11, true), .bin (.geq) (.s 13) (.c (.int .i64 0)), []⟩, ⟨some 15, none, .pick (.s 11) (.s 14) (.c (.bool false)), []⟩, ⟨some 16, none, .move (.s 15), []⟩, ⟨some 17, some (16, true), .fldA 1 (.s 1), []⟩, ⟨some 18, some (16, true), .load 1 false (.s 17), []⟩, ⟨some 19, some (16, true), .bin (.leq) (.s 18) (.c (.int .i64 32767)), []⟩, ⟨some 20, none, .pick (.s 16) (.s 19) (.c (.bool false)), []⟩, ⟨some 2, none, .move (.s 20), []⟩]) .ret)
def r44 : List SRes := [.slot 2]
def k44 : List (Nat × Nat × SCode × Nat) := []
theorem e44 : cFunc Try.prog 44 g44 [] [] k44 = some (c44, r44, 21) := by kernel_rfl
theorem q44 : RgOk Try.prog k44 := RgOk.nil
theorem On_ok : On.Ok Try.prog 44 := by
  refine Eng.Spec.ok_of e44 q44 (fun _ => []) (fun _ _ => TabOk.nil) ?_
  rintro ⟨x, y⟩ _
  have e : pickB (pickB (pickB (decide (0 ≤ x)) (.s 9) (.c (.bool false)) (decide (x ≤ 32767)) false) (.s 14) (.c (.bool false)) (decide (0 ≤ y)) false) (.s 19) (.c (.bool false)) (decide (y ≤ 32767)) false = onB (x, y) := by
    rw [pickB_and, pickB_and, pickB_and, Bool.eq_iff_iff, onB_iff]
    simp only [Bool.and_eq_true, decide_eq_true_eq]
    omega
  refine ⟨trivial, ?_⟩
  exact e
def signS : Eng.Spec where
  X := Int
  args := fun x => .cons (.int .i64 x) .nil
  pre := fun _ => True
  res := fun x => .int .i64 (sgn x)
  inst := fun
    | .cons (.int _ x) .nil => some x
    | _ => none
/-- gazetteer/gazetteerref07.sign -/
def g61 : List Nat := [4, 0, 6, 2]
def c61 : SCode :=
  .seq (.region g61 [⟨some 2, none, .move (.c (.int .i64 0)), []⟩]) (.seq (.seq (.region g61 [⟨some 3, none, .move (.s 0), []⟩, ⟨some 4, none, .bin (.gtr) (.s 3) (.c (.int .i64 0)), []⟩]) (.cond (.s 4) (.seq (.region g61 [⟨some 2, none, .move (.c (.int .i64 1)), []⟩]) .ret) .skip)) (.seq (.seq (.region g61 [⟨some 5, none, .move (.s 0), []⟩, ⟨some 6, none, .bin (.lss) (.s 5) (.c (.int .i64 0)), []⟩]) (.cond (.s 6) (.seq (.region g61 [⟨some 2, none, .move (.c (.int .i64 (-1))), []⟩]) .ret) .skip)) (.seq (.region g61 [⟨some 2, none, .move (.c (.int .i64 0)), []⟩]) .ret)))
def r61 : List SRes := [.slot 2]
def k61 : List (Nat × Nat × SCode × Nat) := []
theorem e61 : cFunc Try.prog 61 g61 [] [] k61 = some (c61, r61, 7) := by kernel_rfl
theorem q61 : RgOk Try.prog k61 := RgOk.nil
theorem sign_ok : signS.Ok Try.prog 61 := by
  refine Eng.Spec.ok_of e61 q61 (fun _ => []) (fun _ _ => TabOk.nil) ?_
  rintro (x : Int) _
  refine ⟨trivial, ?_⟩
  repeat' (first | refine And.intro ?_ ?_ | exact trivial | exact rfl)
  · refine fun (h : decide (0 < x) = true) => ?_
    have e : 1 = sgn x := by unfold sgn; rw [if_pos (of_decide_eq_true h)]
    repeat' (first | exact e | refine And.intro ?_ ?_ | exact trivial | exact rfl)
  refine fun (h : decide (0 < x) = false) => ?_
  repeat' (first | refine And.intro ?_ ?_ | exact trivial | exact rfl)
  · refine fun (h2 : decide (x < 0) = true) => ?_
    have e : -1 = sgn x := by unfold sgn; rw [if_neg (of_decide_eq_false h), if_pos (of_decide_eq_true h2)]
    repeat' (first | exact e | refine And.intro ?_ ?_ | exact trivial | exact rfl)
  refine fun (h2 : decide (x < 0) = false) => ?_
  have e : 0 = sgn x := by unfold sgn; rw [if_neg (of_decide_eq_false h), if_neg (of_decide_eq_false h2)]
  repeat' (first | exact e | refine And.intro ?_ ?_ | exact trivial | exact rfl)
def Area : Eng.Spec where
  X := Pt × Pt × Pt
  args := fun x => .cons (ptE x.1) (.cons (ptE x.2.1) (.cons (ptE x.2.2) .nil))
  pre := fun x => OnH x.1 ∧ OnH x.2.1 ∧ OnH x.2.2
  res := fun x => .int .i64 (ar x.1 x.2.1 x.2.2)
  inst := three
/-- gazetteer/gazetteerref07.Area -/
def g62 : List Nat := [0, 1, 2, 4, 5, 3, 6]
def c62 : SCode :=
  .seq (.region g62 [⟨some 3, none, .box 24 (.s 0), []⟩, ⟨some 4, none, .box 24 (.s 1), []⟩, ⟨some 5, none, .box 24 (.s 2), []⟩, ⟨some 6, none, .move (.c (.int .i64 0)), []⟩]) (.seq (.region g62 [⟨some 7, none, .fldA 0 (.s 4), []⟩, ⟨some 8, none, .load 1 false (.s 7), []⟩, ⟨some 9, none, .fldA 0 (.s 3), []⟩, ⟨some 10, none, .load 1 false (.s 9), []⟩, ⟨some 11, none, .bin (.sub) (.s 8) (.s 10), []⟩, ⟨some 12, none, .fldA 1 (.s 5), []⟩, ⟨some 13, none, .load 1 false (.s 12), []⟩, ⟨some 14, none, .fldA 1 (.s 3), []⟩, ⟨some 15, none, .load 1 false (.s 14), []⟩, ⟨some 16, none, .bin (.sub) (.s 13) (.s 15), []⟩, ⟨some 17, none, .bin (.mul) (.s 11) (.s 16), []⟩, ⟨some 18, none, .fldA 1 (.s 4), []⟩, ⟨some 19, none, .load 1 false (.s 18), []⟩, ⟨some 20, none, .fldA 1 (.s 3), []⟩, ⟨some 21, none, .load 1 false (.s 20), []⟩, ⟨some 22, none, .bin (.sub) (.s 19) (.s 21), []⟩, ⟨some 23, none, .fldA 0 (.s 5), []⟩, ⟨some 24, none, .load 1 false (.s 23), []⟩, ⟨some 25, none, .fldA 0 (.s 3), []⟩, ⟨some 26, none, .load 1 false (.s 25), []⟩, ⟨some 27, none, .bin (.sub) (.s 24) (.s 26), []⟩, ⟨some 28, none, .bin (.mul) (.s 22) (.s 27), []⟩, ⟨some 29, none, .bin (.sub) (.s 17) (.s 28), []⟩, ⟨some 6, none, .move (.s 29), []⟩]) .ret)
def r62 : List SRes := [.slot 6]
def k62 : List (Nat × Nat × SCode × Nat) := []
theorem e62 : cFunc Try.prog 62 g62 [] [] k62 = some (c62, r62, 30) := by kernel_rfl
theorem q62 : RgOk Try.prog k62 := RgOk.nil
theorem Area_ok : Area.Ok Try.prog 62 := by
  refine Eng.Spec.ok_of e62 q62 (fun _ => []) (fun _ _ => TabOk.nil) ?_
  intro ((a, b, c) : Pt × Pt × Pt) ⟨h1, h2, h3⟩
  replace h1 : OnH a := h1
  replace h2 : OnH b := h2
  replace h3 : OnH c := h3
  unfold OnH at h1 h2 h3
  have k1 := mul_bd (a := b.1 - a.1) (b := c.2 - a.2) (B := 65534) (by omega) (by omega) (by omega) (by omega)
  have k2 := mul_bd (a := b.2 - a.2) (b := c.1 - a.1) (B := 65534) (by omega) (by omega) (by omega) (by omega)
  refine ⟨trivial, ?_⟩
  repeat' (first | refine And.intro ?_ ?_ | exact trivial | exact rfl | (first | show -9223372036854775808 ≤ b.1 - a.1 | show b.1 - a.1 ≤ 9223372036854775807 | show -9223372036854775808 ≤ c.2 - a.2 | show c.2 - a.2 ≤ 9223372036854775807 | show -9223372036854775808 ≤ b.2 - a.2 | show b.2 - a.2 ≤ 9223372036854775807 | show -9223372036854775808 ≤ c.1 - a.1 | show c.1 - a.1 ≤ 9223372036854775807 | show -9223372036854775808 ≤ (b.1 - a.1) * (c.2 - a.2) | show (b.1 - a.1) * (c.2 - a.2) ≤ 9223372036854775807 | show -9223372036854775808 ≤ (b.2 - a.2) * (c.1 - a.1) | show (b.2 - a.2) * (c.1 - a.1) ≤ 9223372036854775807 | show -9223372036854775808 ≤ (b.1 - a.1) * (c.2 - a.2) - (b.2 - a.2) * (c.1 - a.1) | show (b.1 - a.1) * (c.2 - a.2) - (b.2 - a.2) * (c.1 - a.1) ≤ 9223372036854775807); omega)
def dblS : Eng.Spec where
  X := Pt
  args := fun x => .cons (ptE x) .nil
  pre := fun x => onB x = true
  res := fun x => ptE (dbP x)
  inst := fun
    | .cons a .nil => ptD a
    | _ => none
/-- gazetteer/gazetteerref08.double -/
def g46 : List Nat := [0, 1, 2]
def c46 : SCode :=
  .seq (.region g46 [⟨some 1, none, .box 24 (.s 0), []⟩, ⟨some 2, none, .alloc 24 (.cons (.int .i64 0) (.cons (.int .i64 0) .nil)), []⟩]) (.seq (.region g46 [⟨some 3, none, .fldA 0 (.s 1), []⟩, ⟨some 4, none, .load 1 false (.s 3), []⟩, ⟨some 5, none, .bin (.mul) (.c (.int .i64 2)) (.s 4), []⟩, ⟨some 6, none, .fldA 1 (.s 1), []⟩, ⟨some 7, none, .load 1 false (.s 6), []⟩, ⟨some 8, none, .bin (.mul) (.c (.int .i64 2)) (.s 7), []⟩, ⟨some 9, none, .build (.cons (.int .i64 0) (.cons (.int .i64 0) .nil)) [(0, 1, .s 5), (1, 1, .s 8)], []⟩, ⟨none, none, .store 2 (.s 2) (.s 9), []⟩]) .ret)
def r46 : List SRes := [.cell 2 2 true]
def k46 : List (Nat × Nat × SCode × Nat) := []
theorem e46 : cFunc Try.prog 46 g46 [] [] k46 = some (c46, r46, 10) := by kernel_rfl
theorem q46 : RgOk Try.prog k46 := RgOk.nil
theorem dbl_ok : dblS.Ok Try.prog 46 := by
  refine Eng.Spec.ok_of e46 q46 (fun _ => []) (fun _ _ => TabOk.nil) ?_
  rintro ⟨x, y⟩ h
  have k := onB_iff.1 h
  dsimp only at k
  have b1 : -9223372036854775808 ≤ 2 * x := by omega
  have b2 : 2 * x ≤ 9223372036854775807 := by omega
  have b3 : -9223372036854775808 ≤ 2 * y := by omega
  have b4 : 2 * y ≤ 9223372036854775807 := by omega
  refine ⟨trivial, ?_⟩
  repeat' (first | refine And.intro ?_ ?_ | exact trivial | exact rfl | exact b1 | exact b2 | exact b3 | exact b4)
/-- gazetteer/gazetteerref07.Turn -/
def g39 : List Nat := [0, 1, 2, 19, 3, 4, 5, 6]
def c39 : SCode :=
  .seq (.region g39 [⟨some 3, none, .box 24 (.s 0), []⟩, ⟨some 4, none, .box 24 (.s 1), []⟩, ⟨some 5, none, .box 24 (.s 2), []⟩, ⟨some 6, none, .move (.c (.int .i64 0)), []⟩]) (.seq (.seq (.region g39 [⟨some 7, none, .load 2 true (.s 3), []⟩, ⟨some 8, none, .call (.c (.fn 44)) [.s 7], []⟩, ⟨some 9, none, .not (.s 8), []⟩, ⟨some 10, none, .move (.s 9), []⟩, ⟨some 11, some (10, false), .load 2 true (.s 4), []⟩, ⟨some 12, some (10, false), .call (.c (.fn 44)) [.s 11], []⟩, ⟨some 13, some (10, false), .not (.s 12), []⟩, ⟨some 14, none, .pick (.s 10) (.c (.bool true)) (.s 13), []⟩, ⟨some 15, none, .move (.s 14), []⟩, ⟨some 16, some (15, false), .load 2 true (.s 5), []⟩, ⟨some 17, some (15, false), .call (.c (.fn 44)) [.s 16], []⟩, ⟨some 18, some (15, false), .not (.s 17), []⟩, ⟨some 19, none, .pick (.s 15) (.c (.bool true)) (.s 18), []⟩]) (.cond (.s 19) (.seq (.region g39 [⟨some 6, none, .move (.c (.int .i64 0)), []⟩]) .ret) .skip)) (.seq (.region g39 [⟨some 20, none, .load 2 true (.s 3), []⟩, ⟨some 21, none, .load 2 true (.s 4), []⟩, ⟨some 22, none, .load 2 true (.s 5), []⟩, ⟨some 23, none, .call (.c (.fn 62)) [.s 20, .s 21, .s 22], []⟩, ⟨some 24, none, .call (.c (.fn 61)) [.s 23], []⟩, ⟨some 6, none, .move (.s 24), []⟩]) .ret))
def r39 : List SRes := [.slot 6]
def k39 : List (Nat × Nat × SCode × Nat) := []
theorem e39 : cFunc Try.prog 39 g39 [] [] k39 = some (c39, r39, 25) := by kernel_rfl
theorem q39 : RgOk Try.prog k39 := RgOk.nil
theorem on_H {p : Pt} (h : onB p = true) : OnH p := by
  have := onB_iff.1 h
  unfold OnH
  omega
theorem Turn_ok : Turn.Ok Try.prog 39 := by
  refine Eng.Spec.ok_of e39 q39 (fun _ => [(44, .p On), (61, .p signS), (62, .p Area)]) (fun _ _ => TabOk.p On_ok (TabOk.p sign_ok (TabOk.p Area_ok TabOk.nil))) ?_
  intro ((a, b, c) : Pt × Pt × Pt) _
  refine ⟨trivial, ?_⟩
  repeat' (first | refine And.intro ?_ ?_ | exact trivial | exact rfl | (refine fun (_ : guardP _ _ _ _) => ?_))
  · refine fun (h : pickB (pickB (!onB a) _ _ _ (!onB b)) _ _ _ (!onB c) = true) => ?_
    rw [pickB_or, pickB_or] at h
    have e : 0 = turnV a b c := by
      unfold turnV
      rw [if_neg]
      rintro ⟨h1, h2, h3⟩
      rw [h1, h2, h3] at h
      cases h
    repeat' (first | exact e | refine And.intro ?_ ?_ | exact trivial | exact rfl)
  refine fun (h : pickB (pickB (!onB a) _ _ _ (!onB b)) _ _ _ (!onB c) = false) => ?_
  rw [pickB_or, pickB_or] at h
  simp only [Bool.or_eq_false_iff, Bool.not_eq_false'] at h
  have h1 := on_H h.1.1
  have h2 := on_H h.1.2
  have h3 := on_H h.2
  have e : sgn (ar a b c) = turnV a b c := by
    unfold turnV
    rw [if_pos ⟨h.1.1, h.1.2, h.2⟩]
  repeat' (first | exact h1 | exact h2 | exact h3 | exact e | refine And.intro ?_ ?_ | exact trivial | exact rfl)
end H1
end
section
open Go Go.Eng Go.Proofs G1 G2 G3 G4 G5 G6 G7 H1
set_option maxRecDepth 100000
namespace H2
/-- gazetteer/gazetteerref07.Dist -/
def g76 : List Nat := [0, 1, 12, 2, 3, 4]
def c76 : SCode :=
  .seq (.region g76 [⟨some 2, none, .box 24 (.s 0), []⟩, ⟨some 3, none, .box 24 (.s 1), []⟩, ⟨some 4, none, .move (.c (.int .i64 0)), []⟩]) (.seq (.seq (.region g76 [⟨some 5, none, .load 2 true (.s 2), []⟩, ⟨some 6, none, .call (.c (.fn 44)) [.s 5], []⟩, ⟨some 7, none, .not (.s 6), []⟩, ⟨some 8, none, .move (.s 7), []⟩, ⟨some 9, some (8, false), .load 2 true (.s 3), []⟩, ⟨some 10, some (8, false), .call (.c (.fn 44)) [.s 9], []⟩, ⟨some 11, some (8, false), .not (.s 10), []⟩, ⟨some 12, none, .pick (.s 8) (.c (.bool true)) (.s 11), []⟩]) (.cond (.s 12) (.seq (.region g76 [⟨some 4, none, .move (.c (.int .i64 0)), []⟩]) .ret) .skip)) (.seq (.region g76 [⟨some 13, none, .fldA 0 (.s 2), []⟩, ⟨some 14, none, .load 1 false (.s 13), []⟩, ⟨some 15, none, .fldA 0 (.s 3), []⟩, ⟨some 16, none, .load 1 false (.s 15), []⟩, ⟨some 17, none, .bin (.sub) (.s 14) (.s 16), []⟩, ⟨some 18, none, .fldA 0 (.s 2), []⟩, ⟨some 19, none, .load 1 false (.s 18), []⟩, ⟨some 20, none, .fldA 0 (.s 3), []⟩, ⟨some 21, none, .load 1 false (.s 20), []⟩, ⟨some 22, none, .bin (.sub) (.s 19) (.s 21), []⟩, ⟨some 23, none, .bin (.mul) (.s 17) (.s 22), []⟩, ⟨some 24, none, .fldA 1 (.s 2), []⟩, ⟨some 25, none, .load 1 false (.s 24), []⟩, ⟨some 26, none, .fldA 1 (.s 3), []⟩, ⟨some 27, none, .load 1 false (.s 26), []⟩, ⟨some 28, none, .bin (.sub) (.s 25) (.s 27), []⟩, ⟨some 29, none, .fldA 1 (.s 2), []⟩, ⟨some 30, none, .load 1 false (.s 29), []⟩, ⟨some 31, none, .fldA 1 (.s 3), []⟩, ⟨some 32, none, .load 1 false (.s 31), []⟩, ⟨some 33, none, .bin (.sub) (.s 30) (.s 32), []⟩, ⟨some 34, none, .bin (.mul) (.s 28) (.s 33), []⟩, ⟨some 35, none, .bin (.add) (.s 23) (.s 34), []⟩, ⟨some 4, none, .move (.s 35), []⟩]) .ret))
def r76 : List SRes := [.slot 4]
def k76 : List (Nat × Nat × SCode × Nat) := []
theorem e76 : cFunc Try.prog 76 g76 [] [] k76 = some (c76, r76, 36) := by kernel_rfl
theorem q76 : RgOk Try.prog k76 := RgOk.nil
theorem Dist_ok : Dist.Ok Try.prog 76 := by
  refine Eng.Spec.ok_of e76 q76 (fun _ => [(44, .p On)]) (fun _ _ => TabOk.p On_ok TabOk.nil) ?_
  intro ((a, b) : Pt × Pt) _
  refine ⟨trivial, ?_⟩
  repeat' (first | refine And.intro ?_ ?_ | exact trivial | exact rfl | (refine fun (_ : guardP _ _ _ _) => ?_))
  · refine fun (h : pickB (!onB a) _ _ _ (!onB b) = true) => ?_
    rw [pickB_or] at h
    have e : 0 = distV a b := by
      unfold distV
      rw [if_neg]
      rintro ⟨h1, h2⟩
      rw [h1, h2] at h
      cases h
    repeat' (first | exact e | refine And.intro ?_ ?_ | exact trivial | exact rfl)
  refine fun (h : pickB (!onB a) _ _ _ (!onB b) = false) => ?_
  rw [pickB_or] at h
  simp only [Bool.or_eq_false_iff, Bool.not_eq_false'] at h
  have h1 := onB_iff.1 h.1
  have h2 := onB_iff.1 h.2
  have e : (a.1 - b.1) * (a.1 - b.1) + (a.2 - b.2) * (a.2 - b.2) = distV a b := by
    unfold distV
    rw [if_pos h]
    unfold sqd dot vec
    grind
  have k1 := mul_bd (a := a.1 - b.1) (b := a.1 - b.1) (B := 32767) (by omega) (by omega) (by omega) (by omega)
  have k2 := mul_bd (a := a.2 - b.2) (b := a.2 - b.2) (B := 32767) (by omega) (by omega) (by omega) (by omega)
  repeat' (first | exact e | refine And.intro ?_ ?_ | exact trivial | exact rfl | (first | show -9223372036854775808 ≤ a.1 - b.1 | show a.1 - b.1 ≤ 9223372036854775807 | show -9223372036854775808 ≤ a.2 - b.2 | show a.2 - b.2 ≤ 9223372036854775807 | show -9223372036854775808 ≤ (a.1 - b.1) * (a.1 - b.1) | show (a.1 - b.1) * (a.1 - b.1) ≤ 9223372036854775807 | show -9223372036854775808 ≤ (a.2 - b.2) * (a.2 - b.2) | show (a.2 - b.2) * (a.2 - b.2) ≤ 9223372036854775807 | show -9223372036854775808 ≤ (a.1 - b.1) * (a.1 - b.1) + (a.2 - b.2) * (a.2 - b.2) | show (a.1 - b.1) * (a.1 - b.1) + (a.2 - b.2) * (a.2 - b.2) ≤ 9223372036854775807); omega)
theorem pos_both {x y : Int} (hx : 0 < x) (hy : 0 < y) : 0 < x * y := Int.mul_pos hx hy
/-- On a side: on its line, and in its box. -/
theorem onS_box {p a b : Pt} : onS p a b = true ↔ ar a b p = 0 ∧ ((min a.1 b.1 ≤ p.1 ∧ p.1 ≤ max a.1 b.1) ∧ min a.2 b.2 ≤ p.2 ∧ p.2 ≤ max a.2 b.2) := by
  have la : ar a b a = 0 := by unfold ar crs vec; grind
  have lb : ar a b b = 0 := by unfold ar crs vec; grind
  have hd : dot (vec p a) (vec p b) = (a.1 - p.1) * (b.1 - p.1) + (a.2 - p.2) * (b.2 - p.2) := rfl
  have hl : ar a b p = (a.1 - p.1) * (b.2 - p.2) - (a.2 - p.2) * (b.1 - p.1) := by unfold ar crs vec; grind
  unfold onS
  rw [Bool.or_eq_true, Bool.or_eq_true, eqP_iff, eqP_iff, Bool.and_eq_true, decide_eq_true_eq, decide_eq_true_eq, J1.sgn_zero]
  constructor
  · rintro ((rfl | rfl) | ⟨h0, h1⟩)
    · exact ⟨la, by omega⟩
    · exact ⟨lb, by omega⟩
    · refine ⟨h0, ?_⟩
      rw [hl] at h0
      rw [hd] at h1
      have go : ∀ x y u v : Int, x * v - u * y = 0 → x * y + u * v < 0 → ¬(0 < x ∧ 0 < y) ∧ ¬(x < 0 ∧ y < 0) := fun x y u v e l => by
        refine ⟨fun ⟨hx, hy⟩ => ?_, fun ⟨hx, hy⟩ => ?_⟩
        · have k := Int.mul_pos hx hy
          have k2 : 0 < x * y * (u * v) → False := fun k3 => by
            have := J1.pos_fac k k3
            omega
          have k4 : x * y * (u * v) = x * v * (x * v) := by grind
          have := J1.sq0 (x * v)
          by_cases z : x * v = 0
          · have : u * y = 0 := by omega
            have v0 : v = 0 := by rcases Int.mul_eq_zero.1 z with h | h <;> omega
            rw [v0, Int.mul_zero] at l
            omega
          · refine k2 ?_
            rw [k4]
            rcases Int.lt_or_gt_of_ne z with h | h
            · have := Int.mul_pos (show 0 < -(x * v) by omega) (show 0 < -(x * v) by omega)
              rwa [Int.neg_mul_neg] at this
            · exact Int.mul_pos h h
        · have k := Int.mul_pos (show 0 < -x by omega) (show 0 < -y by omega)
          rw [Int.neg_mul_neg] at k
          have k2 : 0 < x * y * (u * v) → False := fun k3 => by
            have := J1.pos_fac k k3
            omega
          have k4 : x * y * (u * v) = x * v * (x * v) := by grind
          by_cases z : x * v = 0
          · have v0 : v = 0 := by rcases Int.mul_eq_zero.1 z with h | h <;> omega
            rw [v0, Int.mul_zero] at l
            omega
          · refine k2 ?_
            rw [k4]
            rcases Int.lt_or_gt_of_ne z with h | h
            · have := Int.mul_pos (show 0 < -(x * v) by omega) (show 0 < -(x * v) by omega)
              rwa [Int.neg_mul_neg] at this
            · exact Int.mul_pos h h
      have g1 := go _ _ _ _ h0 h1
      have g2 := go (a.2 - p.2) (b.2 - p.2) (a.1 - p.1) (b.1 - p.1) (by omega) (by omega)
      omega
  · rintro ⟨h0, ⟨h1, h2⟩, h3, h4⟩
    by_cases ea : p = a
    · exact Or.inl (Or.inl ea)
    by_cases eb : p = b
    · exact Or.inl (Or.inr eb)
    refine Or.inr ⟨h0, ?_⟩
    have ea' : ¬(p.1 = a.1 ∧ p.2 = a.2) := fun e => ea (Prod.ext e.1 e.2)
    have eb' : ¬(p.1 = b.1 ∧ p.2 = b.2) := fun e => eb (Prod.ext e.1 e.2)
    rw [hl] at h0
    rw [hd]
    have np : ∀ x y : Int, ¬(0 < x ∧ 0 < y) → ¬(x < 0 ∧ y < 0) → x * y ≤ 0 := fun x y k1 k2 => by
      refine Int.not_lt.1 fun k => ?_
      have := J1.same_mul k
      unfold J1.same at this
      omega
    have p1 := np (a.1 - p.1) (b.1 - p.1) (by omega) (by omega)
    have p2 := np (a.2 - p.2) (b.2 - p.2) (by omega) (by omega)
    refine Int.not_le.1 fun k => ?_
    have z1 := Int.mul_eq_zero.1 (show (a.1 - p.1) * (b.1 - p.1) = 0 by omega)
    have z2 := Int.mul_eq_zero.1 (show (a.2 - p.2) * (b.2 - p.2) = 0 by omega)
    rcases z1 with z1 | z1 <;> rcases z2 with z2 | z2
    · omega
    · rw [z1, z2] at h0
      have := Int.mul_eq_zero.1 (show (a.2 - p.2) * (b.1 - p.1) = 0 by omega)
      omega
    · rw [z1, z2] at h0
      have := Int.mul_eq_zero.1 (show (a.1 - p.1) * (b.2 - p.2) = 0 by omega)
      omega
    · omega
theorem gd3 {p a b : Pt} {i j : Nat} (g : pickB (pickB (!onB p) (.c (.bool true)) (.s i) true (!onB a)) (.c (.bool true)) (.s j) true (!onB b) = false) : OnH a ∧ OnH b ∧ OnH p := by
  rw [pickB_or, pickB_or] at g
  simp only [Bool.or_eq_false_iff, Bool.not_eq_false'] at g
  exact ⟨on_H g.1.2, on_H g.2, on_H g.1.1⟩
/-- gazetteer/gazetteerref07.Between -/
def g63 : List Nat := [0, 1, 2, 26, 3, 4, 5, 6]
def c63 : SCode :=
  .seq (.region g63 [⟨some 3, none, .box 24 (.s 0), []⟩, ⟨some 4, none, .box 24 (.s 1), []⟩, ⟨some 5, none, .box 24 (.s 2), []⟩, ⟨some 6, none, .move (.c (.bool false)), []⟩]) (.seq (.seq (.region g63 [⟨some 7, none, .load 2 true (.s 3), []⟩, ⟨some 8, none, .call (.c (.fn 44)) [.s 7], []⟩, ⟨some 9, none, .not (.s 8), []⟩, ⟨some 10, none, .move (.s 9), []⟩, ⟨some 11, some (10, false), .load 2 true (.s 4), []⟩, ⟨some 12, some (10, false), .call (.c (.fn 44)) [.s 11], []⟩, ⟨some 13, some (10, false), .not (.s 12), []⟩, ⟨some 14, none, .pick (.s 10) (.c (.bool true)) (.s 13), []⟩, ⟨some 15, none, .move (.s 14), []⟩, ⟨some 16, some (15, false), .load 2 true (.s 5), []⟩, ⟨some 17, some (15, false), .call (.c (.fn 44)) [.s 16], []⟩, ⟨some 18, some (15, false), .not (.s 17), []⟩, ⟨some 19, none, .pick (.s 15) (.c (.bool true)) (.s 18), []⟩, ⟨some 20, none, .move (.s 19), []⟩, ⟨some 21, some (20, false), .load 2 true (.s 4), []⟩, ⟨some 22, some (20, false), .load 2 true (.s 5), []⟩, ⟨some 23, some (20, false), .load 2 true (.s 3), []⟩, ⟨some 24, some (20, false), .call (.c (.fn 62)) [.s 21, .s 22, .s 23], []⟩, ⟨some 25, some (20, false), .bin (.neq) (.s 24) (.c (.int .i64 0)), []⟩, ⟨some 26, none, .pick (.s 20) (.c (.bool true)) (.s 25), []⟩]) (.cond (.s 26) (.seq (.region g63 [⟨some 6, none, .move (.c (.bool false)), []⟩]) .ret) .skip)) (.seq (.region g63 [⟨some 27, none, .fldA 0 (.s 3), []⟩, ⟨some 28, none, .load 1 false (.s 27), []⟩, ⟨some 29, none, .fldA 0 (.s 4), []⟩, ⟨some 30, none, .load 1 false (.s 29), []⟩, ⟨some 31, none, .fldA 0 (.s 5), []⟩, ⟨some 32, none, .load 1 false (.s 31), []⟩, ⟨some 33, none, .mm false (.s 30) (.s 32), []⟩, ⟨some 34, none, .bin (.geq) (.s 28) (.s 33), []⟩, ⟨some 35, none, .move (.s 34), []⟩, ⟨some 36, some (35, true), .fldA 0 (.s 3), []⟩, ⟨some 37, some (35, true), .load 1 false (.s 36), []⟩, ⟨some 38, some (35, true), .fldA 0 (.s 4), []⟩, ⟨some 39, some (35, true), .load 1 false (.s 38), []⟩, ⟨some 40, some (35, true), .fldA 0 (.s 5), []⟩, ⟨some 41, some (35, true), .load 1 false (.s 40), []⟩, ⟨some 42, some (35, true), .mm true (.s 39) (.s 41), []⟩, ⟨some 43, some (35, true), .bin (.leq) (.s 37) (.s 42), []⟩, ⟨some 44, none, .pick (.s 35) (.s 43) (.c (.bool false)), []⟩, ⟨some 45, none, .move (.s 44), []⟩, ⟨some 46, some (45, true), .fldA 1 (.s 3), []⟩, ⟨some 47, some (45, true), .load 1 false (.s 46), []⟩, ⟨some 48, some (45, true), .fldA 1 (.s 4), []⟩, ⟨some 49, some (45, true), .load 1 false (.s 48), []⟩, ⟨some 50, some (45, true), .fldA 1 (.s 5), []⟩, ⟨some 51, some (45, true), .load 1 false (.s 50), []⟩, ⟨some 52, some (45, true), .mm false (.s 49) (.s 51), []⟩, ⟨some 53, some (45, true), .bin (.geq) (.s 47) (.s 52), []⟩, ⟨some 54, none, .pick (.s 45) (.s 53) (.c (.bool false)), []⟩, ⟨some 55, none, .move (.s 54), []⟩, ⟨some 56, some (55, true), .fldA 1 (.s 3), []⟩, ⟨some 57, some (55, true), .load 1 false (.s 56), []⟩, ⟨some 58, some (55, true), .fldA 1 (.s 4), []⟩, ⟨some 59, some (55, true), .load 1 false (.s 58), []⟩, ⟨some 60, some (55, true), .fldA 1 (.s 5), []⟩, ⟨some 61, some (55, true), .load 1 false (.s 60), []⟩, ⟨some 62, some (55, true), .mm true (.s 59) (.s 61), []⟩, ⟨some 63, some (55, true), .bin (.leq) (.s 57) (.s 62), []⟩, ⟨some 64, none, .pick (.s 55) (.s 63) (.c (.bool false)), []⟩, ⟨some 6, none, .move (.s 64), []⟩]) .ret))
def r63 : List SRes := [.slot 6]
def k63 : List (Nat × Nat × SCode × Nat) := []
theorem e63 : cFunc Try.prog 63 g63 [] [] k63 = some (c63, r63, 65) := by kernel_rfl
theorem q63 : RgOk Try.prog k63 := RgOk.nil
set_option maxHeartbeats 1000000 in
theorem Between_ok : Between.Ok Try.prog 63 := by
  refine Eng.Spec.ok_of e63 q63 (fun _ => [(44, .p On), (62, .p Area)]) (fun _ _ => TabOk.p On_ok (TabOk.p Area_ok TabOk.nil)) ?_
  intro ((p, a, b) : Pt × Pt × Pt) _
  refine ⟨trivial, ?_⟩
  repeat' (first | refine fun (g : guardP _ _ _ _) => And.intro (gd3 g) ?_ | refine And.intro ?_ ?_ | exact trivial | exact rfl | (refine fun (_ : guardP _ _ _ _) => ?_))
  · refine fun (h : pickB (pickB (pickB (!onB p) _ _ _ (!onB a)) _ _ _ (!onB b)) _ _ _ (!decide (ar a b p = 0)) = true) => ?_
    rw [pickB_or, pickB_or, pickB_or] at h
    have e : false = betV p a b := by
      unfold betV
      cases hb : onS p a b with
      | false => rw [Bool.and_false]
      | true =>
        rw [decide_eq_true (onS_box.1 hb).1] at h
        cases k1 : onB p <;> cases k2 : onB a <;> cases k3 : onB b <;> first | rfl | (rw [k1, k2, k3] at h; cases h)
    repeat' (first | exact e | refine And.intro ?_ ?_ | exact trivial | exact rfl)
  refine fun (h : pickB (pickB (pickB (!onB p) _ _ _ (!onB a)) _ _ _ (!onB b)) _ _ _ (!decide (ar a b p = 0)) = false) => ?_
  rw [pickB_or, pickB_or, pickB_or] at h
  simp only [Bool.or_eq_false_iff, Bool.not_eq_false', decide_eq_true_eq] at h
  have e : pickB (pickB (pickB (decide (min a.1 b.1 ≤ p.1)) (.s 43) (.c (.bool false)) (decide (p.1 ≤ max a.1 b.1)) false) (.s 53) (.c (.bool false)) (decide (min a.2 b.2 ≤ p.2)) false) (.s 63) (.c (.bool false)) (decide (p.2 ≤ max a.2 b.2)) false = betV p a b := by
    unfold betV
    rw [h.1.1.1, h.1.1.2, h.1.2, pickB_and, pickB_and, pickB_and, Bool.eq_iff_iff]
    simp only [Bool.and_eq_true, decide_eq_true_eq, true_and, onS_box, h.2]
    omega
  repeat' (first | exact e | refine And.intro ?_ ?_ | exact trivial | exact rfl | (refine fun (_ : guardP _ _ _ _) => ?_))
end H2
end
section
open Go Go.Eng Go.Proofs G1 G2 G3 G4 G5 G6 G7 H1 H2
set_option maxRecDepth 100000
namespace H3
theorem turn_bd (a b c d e f : Pt) : -9223372036854775808 ≤ turnV a b c * turnV d e f ∧ turnV a b c * turnV d e f ≤ 9223372036854775807 := by
  have k : ∀ a b c, -1 ≤ turnV a b c ∧ turnV a b c ≤ 1 := fun a b c => by
    unfold turnV sgn
    repeat' split
    all_goals omega
  have h := mul_bd (k a b c).1 (k a b c).2 (k d e f).1 (k d e f).2
  omega
/-- gazetteer/gazetteerref07.Cross -/
def g40 : List Nat := [0, 1, 2, 3, 26, 48, 4, 6, 7, 5, 70, 8]
def c40 : SCode :=
  .seq (.region g40 [⟨some 4, none, .box 24 (.s 0), []⟩, ⟨some 5, none, .box 24 (.s 1), []⟩, ⟨some 6, none, .box 24 (.s 2), []⟩, ⟨some 7, none, .box 24 (.s 3), []⟩, ⟨some 8, none, .move (.c (.int .i64 0)), []⟩]) (.seq (.seq (.region g40 [⟨some 9, none, .load 2 true (.s 4), []⟩, ⟨some 10, none, .call (.c (.fn 44)) [.s 9], []⟩, ⟨some 11, none, .not (.s 10), []⟩, ⟨some 12, none, .move (.s 11), []⟩, ⟨some 13, some (12, false), .load 2 true (.s 5), []⟩, ⟨some 14, some (12, false), .call (.c (.fn 44)) [.s 13], []⟩, ⟨some 15, some (12, false), .not (.s 14), []⟩, ⟨some 16, none, .pick (.s 12) (.c (.bool true)) (.s 15), []⟩, ⟨some 17, none, .move (.s 16), []⟩, ⟨some 18, some (17, false), .load 2 true (.s 6), []⟩, ⟨some 19, some (17, false), .call (.c (.fn 44)) [.s 18], []⟩, ⟨some 20, some (17, false), .not (.s 19), []⟩, ⟨some 21, none, .pick (.s 17) (.c (.bool true)) (.s 20), []⟩, ⟨some 22, none, .move (.s 21), []⟩, ⟨some 23, some (22, false), .load 2 true (.s 7), []⟩, ⟨some 24, some (22, false), .call (.c (.fn 44)) [.s 23], []⟩, ⟨some 25, some (22, false), .not (.s 24), []⟩, ⟨some 26, none, .pick (.s 22) (.c (.bool true)) (.s 25), []⟩]) (.cond (.s 26) (.seq (.region g40 [⟨some 8, none, .move (.c (.int .i64 0)), []⟩]) .ret) .skip)) (.seq (.seq (.region g40 [⟨some 27, none, .load 2 true (.s 4), []⟩, ⟨some 28, none, .load 2 true (.s 6), []⟩, ⟨some 29, none, .load 2 true (.s 7), []⟩, ⟨some 30, none, .call (.c (.fn 63)) [.s 27, .s 28, .s 29], []⟩, ⟨some 31, none, .move (.s 30), []⟩, ⟨some 32, some (31, false), .load 2 true (.s 5), []⟩, ⟨some 33, some (31, false), .load 2 true (.s 6), []⟩, ⟨some 34, some (31, false), .load 2 true (.s 7), []⟩, ⟨some 35, some (31, false), .call (.c (.fn 63)) [.s 32, .s 33, .s 34], []⟩, ⟨some 36, none, .pick (.s 31) (.c (.bool true)) (.s 35), []⟩, ⟨some 37, none, .move (.s 36), []⟩, ⟨some 38, some (37, false), .load 2 true (.s 6), []⟩, ⟨some 39, some (37, false), .load 2 true (.s 4), []⟩, ⟨some 40, some (37, false), .load 2 true (.s 5), []⟩, ⟨some 41, some (37, false), .call (.c (.fn 63)) [.s 38, .s 39, .s 40], []⟩, ⟨some 42, none, .pick (.s 37) (.c (.bool true)) (.s 41), []⟩, ⟨some 43, none, .move (.s 42), []⟩, ⟨some 44, some (43, false), .load 2 true (.s 7), []⟩, ⟨some 45, some (43, false), .load 2 true (.s 4), []⟩, ⟨some 46, some (43, false), .load 2 true (.s 5), []⟩, ⟨some 47, some (43, false), .call (.c (.fn 63)) [.s 44, .s 45, .s 46], []⟩, ⟨some 48, none, .pick (.s 43) (.c (.bool true)) (.s 47), []⟩]) (.cond (.s 48) (.seq (.region g40 [⟨some 8, none, .move (.c (.int .i64 1)), []⟩]) .ret) .skip)) (.seq (.seq (.drawn g40 (.pure 0 ⟨some 49, none, .load 2 true (.s 4), []⟩ (.pure 1 ⟨some 50, none, .load 2 true (.s 5), []⟩ (.pure 2 ⟨some 51, none, .load 2 true (.s 6), []⟩ (.pure 3 ⟨some 52, none, .call (.c (.fn 39)) [.s 49, .s 50, .s 51], []⟩ (.pure 4 ⟨some 53, none, .load 2 true (.s 4), []⟩ (.pure 5 ⟨some 54, none, .load 2 true (.s 5), []⟩ (.pure 6 ⟨some 55, none, .load 2 true (.s 7), []⟩ (.pure 7 ⟨some 56, none, .call (.c (.fn 39)) [.s 53, .s 54, .s 55], []⟩ (.pure 8 ⟨some 57, none, .bin (.mul) (.s 52) (.s 56), []⟩ (.pure 9 ⟨some 58, none, .bin (.lss) (.s 57) (.c (.int .i64 0)), []⟩ (.pure 10 ⟨some 59, none, .move (.s 58), []⟩ (.pure 11 ⟨some 60, some (59, true), .load 2 true (.s 6), []⟩ (.pure 12 ⟨some 61, some (59, true), .load 2 true (.s 7), []⟩ (.pure 13 ⟨some 62, some (59, true), .load 2 true (.s 4), []⟩ (.pure 14 ⟨some 63, some (59, true), .call (.c (.fn 39)) [.s 60, .s 61, .s 62], []⟩ (.pure 15 ⟨some 64, some (59, true), .load 2 true (.s 6), []⟩ (.pure 16 ⟨some 65, some (59, true), .load 2 true (.s 7), []⟩ (.pure 17 ⟨some 66, some (59, true), .load 2 true (.s 5), []⟩ (.pure 18 ⟨some 67, some (59, true), .call (.c (.fn 39)) [.s 64, .s 65, .s 66], []⟩ (.pure 19 ⟨some 68, some (59, true), .bin (.mul) (.s 63) (.s 67), []⟩ (.pure 20 ⟨some 69, some (59, true), .bin (.lss) (.s 68) (.c (.int .i64 0)), []⟩ (.pure 21 ⟨some 70, none, .pick (.s 59) (.s 69) (.c (.bool false)), []⟩ .done))))))))))))))))))))))) (.cond (.s 70) (.seq (.region g40 [⟨some 8, none, .move (.c (.int .i64 2)), []⟩]) .ret) .skip)) (.seq (.region g40 [⟨some 8, none, .move (.c (.int .i64 0)), []⟩]) .ret))))
def r40 : List SRes := [.slot 8]
def k40 : List (Nat × Nat × SCode × Nat) := []
theorem e40 : cFunc Try.prog 40 g40 [] [] k40 = some (c40, r40, 71) := by kernel_rfl
theorem q40 : RgOk Try.prog k40 := RgOk.nil
set_option maxHeartbeats 1000000 in
theorem Cross_ok : Cross.Ok Try.prog 40 := by
  refine Eng.Spec.ok_of e40 q40 (fun _ => [(39, .p Turn), (44, .p On), (63, .p Between)]) (fun _ _ => TabOk.p H1.Turn_ok (TabOk.p H1.On_ok (TabOk.p H2.Between_ok TabOk.nil))) ?_
  intro ((a, b, c, d) : Pt × Pt × Pt × Pt) ⟨ha, hb, hc, hd⟩
  replace ha : onB a = true := ha
  replace hb : onB b = true := hb
  replace hc : onB c = true := hc
  replace hd : onB d = true := hd
  have t1 := turn_bd a b c a b d
  have t2 := turn_bd c d a c d b
  have t11 := t1.1
  have t12 := t1.2
  have t21 := t2.1
  have t22 := t2.2
  refine ⟨trivial, ?_⟩
  repeat' (first | refine And.intro ?_ ?_ | exact trivial | exact rfl | (refine fun (_ : guardP _ _ _ _) => ?_))
  · refine fun (h : pickB (pickB (pickB (!onB a) _ _ _ (!onB b)) _ _ _ (!onB c)) _ _ _ (!onB d) = true) => ?_
    rw [pickB_or, pickB_or, pickB_or, ha, hb, hc, hd] at h
    cases h
  refine fun (_ : pickB (pickB (pickB (!onB a) _ _ _ (!onB b)) _ _ _ (!onB c)) _ _ _ (!onB d) = false) => ?_
  repeat' (first | refine And.intro ?_ ?_ | exact trivial | exact rfl | (refine fun (_ : guardP _ _ _ _) => ?_))
  · refine fun (h : pickB (pickB (pickB (betV a c d) _ _ _ (betV b c d)) _ _ _ (betV c a b)) _ _ _ (betV d a b) = true) => ?_
    rw [pickB_or, pickB_or, pickB_or] at h
    have e : 1 = crV a b c d := (if_pos h).symm
    repeat' (first | exact e | refine And.intro ?_ ?_ | exact trivial | exact rfl)
  refine fun (h : pickB (pickB (pickB (betV a c d) _ _ _ (betV b c d)) _ _ _ (betV c a b)) _ _ _ (betV d a b) = false) => ?_
  rw [pickB_or, pickB_or, pickB_or] at h
  have ht : ¬tch a b c d = true := fun k => by
    unfold tch at k
    rw [h] at k
    cases k
  have e1 : turnV a b c = sgn (ar a b c) := if_pos ⟨ha, hb, hc⟩
  have e2 : turnV a b d = sgn (ar a b d) := if_pos ⟨ha, hb, hd⟩
  have e3 : turnV c d a = sgn (ar c d a) := if_pos ⟨hc, hd, ha⟩
  have e4 : turnV c d b = sgn (ar c d b) := if_pos ⟨hc, hd, hb⟩
  have ep : (decide (turnV a b c * turnV a b d < 0) && decide (turnV c d a * turnV c d b < 0)) = (prt a b c d && prt c d a b) := by rw [e1, e2, e3, e4]; rfl
  repeat' (first | exact t11 | exact t12 | exact t21 | exact t22 | refine And.intro ?_ ?_ | exact trivial | exact rfl | (refine fun (_ : guardP _ _ _ _) => ?_))
  · refine fun (h : pickB (decide (turnV a b c * turnV a b d < 0)) _ _ (decide (turnV c d a * turnV c d b < 0)) _ = true) => ?_
    rw [pickB_and, ep] at h
    have e : 2 = crV a b c d := by unfold crV; rw [if_neg ht, if_pos h]
    repeat' (first | exact e | refine And.intro ?_ ?_ | exact trivial | exact rfl)
  refine fun (h : pickB (decide (turnV a b c * turnV a b d < 0)) _ _ (decide (turnV c d a * turnV c d b < 0)) _ = false) => ?_
  rw [pickB_and, ep] at h
  have e : 0 = crV a b c d := by
    unfold crV
    rw [if_neg ht, if_neg (by rw [h]; exact fun k => by cases k)]
  repeat' (first | exact e | refine And.intro ?_ ?_ | exact trivial | exact rfl)
/-! ### Rings -/
def nextS : Eng.Spec where
  X := Pts × Nat
  args := fun x => .cons (rgE x.1) (.cons (.int .i64 (x.2 : Int)) .nil)
  pre := fun x => x.1.n ≤ 50 ∧ x.2 < x.1.n
  res := fun x => ptE (nxt x.1 x.2)
  inst := fun
    | .cons a (.cons (.int _ i) .nil) => match ptsD a with
      | some r => some (r, i.toNat)
      | _ => none
    | _ => none
/-- gazetteer/gazetteerref08.next -/
def g41 : List Nat := [1, 0, 4]
def c41 : SCode :=
  .seq (.region g41 [⟨some 4, none, .alloc 24 (.cons (.int .i64 0) (.cons (.int .i64 0) .nil)), []⟩]) (.seq (.region g41 [⟨some 5, none, .move (.s 0), []⟩, ⟨some 6, none, .move (.s 1), []⟩, ⟨some 7, none, .bin (.add) (.s 6) (.c (.int .i64 1)), []⟩, ⟨some 8, none, .move (.s 0), []⟩, ⟨some 9, none, .lenSl (.s 8), []⟩, ⟨some 10, none, .bin (.rem) (.s 7) (.s 9), []⟩, ⟨some 11, none, .idxSl 2 (.s 5) (.s 10), []⟩, ⟨some 12, none, .load 2 true (.s 11), []⟩, ⟨none, none, .store 2 (.s 4) (.s 12), []⟩]) .ret)
def r41 : List SRes := [.cell 4 2 true]
def k41 : List (Nat × Nat × SCode × Nat) := []
theorem e41 : cFunc Try.prog 41 g41 [] [] k41 = some (c41, r41, 13) := by kernel_rfl
theorem q41 : RgOk Try.prog k41 := RgOk.nil
theorem next_ok : nextS.Ok Try.prog 41 := by
  refine Eng.Spec.ok_of e41 q41 (fun _ => []) (fun _ _ => TabOk.nil) ?_
  intro ((r, i) : Pts × Nat) ⟨hn, hi⟩
  replace hn : r.n ≤ 50 := hn
  replace hi : i < r.n := hi
  have b1 : -9223372036854775808 ≤ (i : Int) + 1 := by omega
  have b2 : (i : Int) + 1 ≤ 9223372036854775807 := by omega
  have hnz : (r.n : Int) ≠ 0 := by omega
  have hm := tmod_nx (i := i) (n := r.n) (by omega)
  have hq : r.p (((i : Int) + 1).tmod (r.n : Int)).toNat = nxt r i := by rw [hm]; rfl
  have hm1 : 0 ≤ ((i : Int) + 1).tmod (r.n : Int) := by rw [hm]; omega
  have hm2 : ((i : Int) + 1).tmod (r.n : Int) < (r.n : Int) := by rw [hm]; have := Nat.mod_lt (i + 1) (show 0 < r.n by omega); omega
  have q1 : (r.p (((i : Int) + 1).tmod (r.n : Int)).toNat).1 = (nxt r i).1 := by rw [hq]
  have q2 : (r.p (((i : Int) + 1).tmod (r.n : Int)).toNat).2 = (nxt r i).2 := by rw [hq]
  refine ⟨trivial, ?_⟩
  repeat' (first | with_reducible exact b1 | with_reducible exact b2 | with_reducible exact hnz | with_reducible exact hm1 | with_reducible exact hm2 | with_reducible exact q1 | with_reducible exact q2 | refine And.intro ?_ ?_ | exact trivial | exact rfl)
end H3
end
section
open Go Go.Eng Go.Proofs G1 G2 G3 G4 G5 G6 G7 G16 H1 H2 H3
set_option maxRecDepth 100000
namespace H4
def allS : Eng.Spec where
  X := Pts
  args := fun r => .cons (rgE r) .nil
  pre := fun r => (r.n : Int) ≤ 9223372036854775806
  res := fun r => .bool (!orB (offI r) r.n)
  inst := fun
    | .cons a .nil => ptsD a
    | _ => none
/-- gazetteer/gazetteerref07.All -/
def g37 : List Nat := [7, 0, 15, 3, 2]
def c37 : SCode :=
  .seq (.region g37 [⟨some 2, none, .move (.c (.bool false)), []⟩]) (.seq (.seq (.region g37 [⟨some 3, none, .move (.c (.int .i64 0)), []⟩]) (.block 0 (.loop 0 [4, 5, 6, 7, 10, 11, 12, 13, 14, 15, 2, 8, 9, 3] (.seq (.seq (.region g37 [⟨some 4, none, .move (.s 3), []⟩, ⟨some 5, none, .move (.s 0), []⟩, ⟨some 6, none, .lenSl (.s 5), []⟩, ⟨some 7, none, .bin (.lss) (.s 4) (.s 6), []⟩]) (.cond (.s 7) .skip (.exit 0))) (.seq (.block 1 (.seq (.region g37 [⟨some 10, none, .move (.s 0), []⟩, ⟨some 11, none, .move (.s 3), []⟩, ⟨some 12, none, .idxSl 2 (.s 10) (.s 11), []⟩, ⟨some 13, none, .load 2 true (.s 12), []⟩, ⟨some 14, none, .call (.c (.fn 44)) [.s 13], []⟩, ⟨some 15, none, .not (.s 14), []⟩]) (.cond (.s 15) (.seq (.region g37 [⟨some 2, none, .move (.c (.bool false)), []⟩]) .ret) .skip))) (.region g37 [⟨some 8, none, .move (.s 3), []⟩, ⟨some 9, none, .bin (.add) (.s 8) (.c (.int .i64 1)), []⟩, ⟨some 3, none, .move (.s 9), []⟩])))))) (.seq (.region g37 [⟨some 2, none, .move (.c (.bool true)), []⟩]) .ret))
def r37 : List SRes := [.slot 2]
def k37 : List (Nat × Nat × SCode × Nat) := []
theorem e37 : cFunc Try.prog 37 g37 [] [] k37 = some (c37, r37, 16) := by kernel_rfl
theorem q37 : RgOk Try.prog k37 := RgOk.nil
theorem all_ok : allS.Ok Try.prog 37 := by
  refine Eng.Spec.ok_of e37 q37 (fun _ => [(44, .p On)]) (fun _ _ => TabOk.p H1.On_ok TabOk.nil) ?_
  intro (r : Pts) hn
  replace hn : (r.n : Int) ≤ 9223372036854775806 := hn
  refine ⟨trivial, ?_⟩
  repeat' (first | refine And.intro ?_ ?_ | exact trivial | exact rfl | exact fun (j : Nat) (hj : j < _) => Or.inl (sub_ptN _ _ _ _))
  refine ⟨⟨Nat, fun i => i ≤ r.n ∧ orB (offI r) i = false, fun i => [(3, .int .i64 (i : Int))], fun _ => [], fun i => r.n - i⟩, 0, ⟨Nat.zero_le _, rfl⟩, ?_, ?_⟩
  · repeat' (first | refine And.intro ?_ ?_ | exact trivial | exact rfl | exact fun (j : Nat) (hj : j < _) => Or.inl (sub_ptN _ _ _ _))
  rintro (i : Nat) ⟨(hi : i ≤ r.n), (hf : orB (offI r) i = false)⟩
  repeat' (first | refine And.intro ?_ ?_ | exact trivial | exact rfl | exact fun (j : Nat) (hj : j < _) => Or.inl (sub_ptN _ _ _ _))
  · refine fun (h : decide ((i : Int) < (r.n : Int)) = true) => ?_
    have hi1 : (i : Int) < (r.n : Int) := of_decide_eq_true h
    have hil : i < r.n := by omega
    have hi0 : (0 : Int) ≤ (i : Int) := by omega
    have b1 : -9223372036854775808 ≤ (i : Int) + 1 := by omega
    have b2 : (i : Int) + 1 ≤ 9223372036854775807 := by omega
    repeat' (first | with_reducible exact hi1 | with_reducible exact hi0 | with_reducible exact b1 | with_reducible exact b2 | refine And.intro ?_ ?_ | exact trivial | exact rfl | exact fun (j : Nat) (hj : j < _) => Or.inl (sub_ptN _ _ _ _))
    · refine fun (hc : (!onB (r.p i)) = true) => ?_
      have e : false = !orB (offI r) r.n := by
        rw [orB_true.2 ⟨i, hil, hc⟩]
        rfl
      repeat' (first | exact e | refine And.intro ?_ ?_ | exact trivial | exact rfl | exact fun (j : Nat) (hj : j < _) => Or.inl (sub_ptN _ _ _ _))
    · refine fun (hc : (!onB (r.p i)) = false) => ?_
      have e : orB (offI r) (i + 1) = false := by
        simp only [orB]
        rw [hf]
        exact hc
      repeat' (first | with_reducible exact b1 | with_reducible exact b2 | refine And.intro ?_ ?_ | exact trivial | exact rfl | exact fun (j : Nat) (hj : j < _) => Or.inl (sub_ptN _ _ _ _))
      refine Exists.intro (i + 1) (And.intro (And.intro hil e) ?_)
      repeat' (first | refine And.intro ?_ ?_ | exact trivial | exact rfl | exact fun (j : Nat) (hj : j < _) => Or.inl (sub_ptN _ _ _ _))
      show r.n - (i + 1) < r.n - i
      omega
  · refine fun (h : decide ((i : Int) < (r.n : Int)) = false) => ?_
    have hi1 : ¬ (i : Int) < (r.n : Int) := of_decide_eq_false h
    have e : i = r.n := by omega
    subst e
    have e2 : true = !orB (offI r) r.n := by rw [hf]; rfl
    repeat' (first | exact e2 | refine And.intro ?_ ?_ | exact trivial | exact rfl | exact fun (j : Nat) (hj : j < _) => Or.inl (sub_ptN _ _ _ _))
/-- gazetteer/gazetteerref08.sum -/
def g38 : List Nat := [10, 0, 6, 5, 4, 3, 2]
def c38 : SCode :=
  .seq (.region g38 [⟨some 2, none, .move (.c (.int .i64 0)), []⟩]) (.seq (.region g38 [⟨some 3, none, .move (.c (.int .i64 0)), []⟩]) (.seq (.seq (.region g38 [⟨some 4, none, .move (.c (.int .i64 0)), []⟩]) (.block 0 (.loop 0 [7, 8, 9, 10, 13, 14, 15, 16, 5, 17, 18, 19, 6, 20, 21, 22, 23, 24, 25, 26, 27, 28, 29, 30, 31, 32, 3, 11, 12, 4] (.seq (.seq (.region g38 [⟨some 7, none, .move (.s 4), []⟩, ⟨some 8, none, .move (.s 0), []⟩, ⟨some 9, none, .lenSl (.s 8), []⟩, ⟨some 10, none, .bin (.lss) (.s 7) (.s 9), []⟩]) (.cond (.s 10) .skip (.exit 0))) (.seq (.block 1 (.seq (.region g38 [⟨some 13, none, .move (.s 0), []⟩, ⟨some 14, none, .move (.s 4), []⟩, ⟨some 15, none, .idxSl 2 (.s 13) (.s 14), []⟩, ⟨some 16, none, .load 2 true (.s 15), []⟩, ⟨some 5, none, .alloc 24 (.cons (.int .i64 0) (.cons (.int .i64 0) .nil)), []⟩, ⟨none, none, .store 2 (.s 5) (.s 16), []⟩]) (.seq (.region g38 [⟨some 17, none, .move (.s 0), []⟩, ⟨some 18, none, .move (.s 4), []⟩, ⟨some 19, none, .call (.c (.fn 41)) [.s 17, .s 18], []⟩, ⟨some 6, none, .alloc 24 (.cons (.int .i64 0) (.cons (.int .i64 0) .nil)), []⟩, ⟨none, none, .store 2 (.s 6) (.s 19), []⟩]) (.region g38 [⟨some 20, none, .move (.s 3), []⟩, ⟨some 21, none, .fldA 0 (.s 5), []⟩, ⟨some 22, none, .load 1 false (.s 21), []⟩, ⟨some 23, none, .fldA 1 (.s 6), []⟩, ⟨some 24, none, .load 1 false (.s 23), []⟩, ⟨some 25, none, .bin (.mul) (.s 22) (.s 24), []⟩, ⟨some 26, none, .fldA 0 (.s 6), []⟩, ⟨some 27, none, .load 1 false (.s 26), []⟩, ⟨some 28, none, .fldA 1 (.s 5), []⟩, ⟨some 29, none, .load 1 false (.s 28), []⟩, ⟨some 30, none, .bin (.mul) (.s 27) (.s 29), []⟩, ⟨some 31, none, .bin (.sub) (.s 25) (.s 30), []⟩, ⟨some 32, none, .bin (.add) (.s 20) (.s 31), []⟩, ⟨some 3, none, .move (.s 32), []⟩])))) (.region g38 [⟨some 11, none, .move (.s 4), []⟩, ⟨some 12, none, .bin (.add) (.s 11) (.c (.int .i64 1)), []⟩, ⟨some 4, none, .move (.s 12), []⟩])))))) (.seq (.region g38 [⟨some 33, none, .move (.s 3), []⟩, ⟨some 2, none, .move (.s 33), []⟩]) .ret)))
def r38 : List SRes := [.slot 2]
def k38 : List (Nat × Nat × SCode × Nat) := []
theorem e38 : cFunc Try.prog 38 g38 [] [] k38 = some (c38, r38, 34) := by kernel_rfl
theorem q38 : RgOk Try.prog k38 := RgOk.nil
theorem sum_ok : twice.Ok Try.prog 38 := by
  refine Eng.Spec.ok_of e38 q38 (fun _ => [(41, .p nextS)]) (fun _ _ => TabOk.p next_ok TabOk.nil) ?_
  rintro r ⟨hn, hr⟩
  replace hn : r.n ≤ 50 := hn
  replace hr : OnR r := hr
  refine ⟨trivial, ?_⟩
  repeat' (first | refine And.intro ?_ ?_ | exact trivial | exact rfl | exact fun (j : Nat) (hj : j < _) => Or.inl (sub_ptN _ _ _ _))
  refine ⟨⟨Nat, fun i => i ≤ r.n, fun i => [(3, .int .i64 (sumI (fun i => tw2 (r.p i) (nxt r i)) i)), (4, .int .i64 (i : Int))], fun _ => [], fun i => r.n - i⟩, 0, Nat.zero_le _, ?_, ?_⟩
  · repeat' (first | refine And.intro ?_ ?_ | exact trivial | exact rfl | exact fun (j : Nat) (hj : j < _) => Or.inl (sub_ptN _ _ _ _))
  rintro (i : Nat) (hi : i ≤ r.n)
  repeat' (first | refine And.intro ?_ ?_ | exact trivial | exact rfl | exact fun (j : Nat) (hj : j < _) => Or.inl (sub_ptN _ _ _ _))
  · refine fun (h : decide ((i : Int) < (r.n : Int)) = true) => ?_
    have hi1 : (i : Int) < (r.n : Int) := of_decide_eq_true h
    have hil : i < r.n := by omega
    have hi0 : (0 : Int) ≤ (i : Int) := by omega
    have b1 : -9223372036854775808 ≤ (i : Int) + 1 := by omega
    have b2 : (i : Int) + 1 ≤ 9223372036854775807 := by omega
    have hk := tw2_bd (hr i hil) (nxt_on hr hil)
    have hs := sum_bd (f := fun i => tw2 (r.p i) (nxt r i)) (B := 1073741824) (n := i) fun j hj => by
      have := tw2_bd (hr j (by omega)) (nxt_on hr (by omega : j < r.n))
      unfold tw2
      omega
    have hs2 : -53687091200 ≤ sumI (fun i => tw2 (r.p i) (nxt r i)) i ∧ sumI (fun i => tw2 (r.p i) (nxt r i)) i ≤ 53687091200 := by
      have := Int.mul_le_mul_of_nonneg_right (show (i : Int) ≤ 50 by omega) (show (0 : Int) ≤ 1073741824 by omega)
      omega
    have w1 : -9223372036854775808 ≤ (r.p i).1 * (nxt r i).2 := by omega
    have w2 : (r.p i).1 * (nxt r i).2 ≤ 9223372036854775807 := by omega
    have w3 : -9223372036854775808 ≤ (nxt r i).1 * (r.p i).2 := by omega
    have w4 : (nxt r i).1 * (r.p i).2 ≤ 9223372036854775807 := by omega
    have w5 : -9223372036854775808 ≤ (r.p i).1 * (nxt r i).2 - (nxt r i).1 * (r.p i).2 := by omega
    have w6 : (r.p i).1 * (nxt r i).2 - (nxt r i).1 * (r.p i).2 ≤ 9223372036854775807 := by omega
    have w7 : -9223372036854775808 ≤ sumI (fun i => tw2 (r.p i) (nxt r i)) i + ((r.p i).1 * (nxt r i).2 - (nxt r i).1 * (r.p i).2) := by omega
    have w8 : sumI (fun i => tw2 (r.p i) (nxt r i)) i + ((r.p i).1 * (nxt r i).2 - (nxt r i).1 * (r.p i).2) ≤ 9223372036854775807 := by omega
    have e : sumI (fun i => tw2 (r.p i) (nxt r i)) i + ((r.p i).1 * (nxt r i).2 - (nxt r i).1 * (r.p i).2) = sumI (fun i => tw2 (r.p i) (nxt r i)) (i + 1) := rfl
    repeat' (first | with_reducible exact hi1 | with_reducible exact hi0 | with_reducible exact b1 | with_reducible exact b2 | refine And.intro ?_ ?_ | exact trivial | exact rfl | exact fun (j : Nat) (hj : j < _) => Or.inl (sub_ptN _ _ _ _))
    · exact hn
    · exact hil
    · exact w1
    · exact w2
    · exact w3
    · exact w4
    · exact w5
    · exact w6
    · exact w7
    · exact w8
    refine Exists.intro (i + 1) (And.intro hil ?_)
    repeat' (first | exact e | refine And.intro ?_ ?_ | exact trivial | exact rfl | exact fun (j : Nat) (hj : j < _) => Or.inl (sub_ptN _ _ _ _))
    show r.n - (i + 1) < r.n - i
    omega
  · refine fun (h : decide ((i : Int) < (r.n : Int)) = false) => ?_
    have hi1 : ¬ (i : Int) < (r.n : Int) := of_decide_eq_false h
    have e : i = r.n := by omega
    subst e
    repeat' (first | refine And.intro ?_ ?_ | exact trivial | exact rfl | exact fun (j : Nat) (hj : j < _) => Or.inl (sub_ptN _ _ _ _))
end H4
end
section
open Go Go.Eng Go.Proofs G1 G2 G3 G4 G5 G6 G7 G16 H1 H2 H3 H4
set_option maxRecDepth 100000
namespace H5
theorem cr_bd (a b c d : Pt) : 0 ≤ crV a b c d := by
  unfold crV
  repeat' split
  all_goals omega
/-- The reference's question at two sides. -/
def rb (r : Pts) (i k : Nat) : Bool := !decide ((k + 1) % r.n = i) && !decide (crV (r.p i) (nxt r i) (r.p k) (nxt r k) = 0)
theorem rb_all {r : Pts} {i : Nat} (h3 : 3 ≤ r.n) (hi : i < r.n) : orB (fun j => rb r i (i + 2 + j)) (r.n - (i + 2)) = orB (fun j => bad1 r i (i + 2 + j)) (badK r i) := by
  have e : ∀ k, (decide (0 < crV (r.p i) (nxt r i) (r.p k) (nxt r k))) = !decide (crV (r.p i) (nxt r i) (r.p k) (nxt r k) = 0) := fun k => by
    have := cr_bd (r.p i) (nxt r i) (r.p k) (nxt r k)
    rw [Bool.eq_iff_iff]
    simp only [decide_eq_true_eq, Bool.not_eq_true', decide_eq_false_iff_not]
    omega
  rw [Bool.eq_iff_iff, orB_true, orB_true]
  constructor
  · rintro ⟨j, hj, h⟩
    unfold rb at h
    rw [Bool.and_eq_true, Bool.not_eq_true', decide_eq_false_iff_not] at h
    refine ⟨j, ?_, ?_⟩
    · unfold badK
      by_cases z : i + 2 + j + 1 = r.n
      · have : (i + 2 + j + 1) % r.n = 0 := by rw [z, Nat.mod_self]
        omega
      · omega
    · unfold bad1
      rw [e]
      exact h.2
  · rintro ⟨j, hj, h⟩
    unfold badK at hj
    refine ⟨j, by omega, ?_⟩
    unfold bad1 at h
    rw [e] at h
    unfold rb
    rw [h, Bool.and_true, Bool.not_eq_true', decide_eq_false_iff_not]
    by_cases z : i + 2 + j + 1 = r.n
    · have : (i + 2 + j + 1) % r.n = 0 := by rw [z, Nat.mod_self]
      omega
    · rw [Nat.mod_eq_of_lt (by omega)]
      omega
/-! ### Answers that do not unfold -/
@[irreducible] def allB (r : Pts) : Bool := !orB (offI r) r.n
@[irreducible] def sumB (r : Pts) : Int := twV r
theorem allB_eq : allB = fun r => !orB (offI r) r.n := by funext r; unfold allB; rfl
theorem sumB_eq : sumB = twV := by funext r; unfold sumB; rfl
def allX : Eng.Spec where
  X := Pts
  args := fun r => .cons (rgE r) .nil
  pre := fun r => (r.n : Int) ≤ 9223372036854775806
  res := fun r => .bool (allB r)
  inst := fun
    | .cons a .nil => ptsD a
    | _ => none
def sumX : Eng.Spec where
  X := Pts
  args := fun r => .cons (rgE r) .nil
  pre := fun r => r.n ≤ 50 ∧ OnR r
  res := fun r => .int .i64 (sumB r)
  inst := fun
    | .cons a .nil => ptsD a
    | _ => none
theorem allX_ok : allX.Ok Try.prog 37 := by unfold allX; rw [allB_eq]; exact ⟨all_ok.call, all_ok.does⟩
theorem sumX_ok : sumX.Ok Try.prog 38 := by unfold sumX; rw [sumB_eq]; exact ⟨sum_ok.call, sum_ok.does⟩
theorem gdv {r : Pts} {i j : Nat} (g : pickB (pickB (decide ((r.n : Int) < 3)) (.c (.bool true)) (.s i) true (decide (40 < (r.n : Int)))) (.c (.bool true)) (.s j) true (!allB r) = false) : r.n ≤ 50 ∧ OnR r := by
  rw [pickB_or, pickB_or, allB_eq] at g
  simp only [Bool.or_eq_false_iff, Bool.not_not, decide_eq_false_iff_not] at g
  exact ⟨by omega, off_on g.2⟩
def g16 : List Nat := [23, 26, 48, 53, 3, 0, 79, 5, 4, 2]
def tn : SCode := (.seq (.drawn g16 (.pure 0 ⟨some 29, none, .move (.s 0), []⟩ (.pure 1 ⟨some 30, none, .move (.s 4), []⟩ (.pure 2 ⟨some 31, none, .idxSl 2 (.s 29) (.s 30), []⟩ (.pure 3 ⟨some 32, none, .load 2 true (.s 31), []⟩ (.pure 4 ⟨some 33, none, .move (.s 0), []⟩ (.pure 5 ⟨some 34, none, .move (.s 4), []⟩ (.pure 6 ⟨some 35, none, .bin (.add) (.s 34) (.c (.int .i64 1)), []⟩ (.pure 7 ⟨some 36, none, .move (.s 3), []⟩ (.pure 8 ⟨some 37, none, .bin (.rem) (.s 35) (.s 36), []⟩ (.pure 9 ⟨some 38, none, .idxSl 2 (.s 33) (.s 37), []⟩ (.pure 10 ⟨some 39, none, .load 2 true (.s 38), []⟩ (.pure 11 ⟨some 40, none, .move (.s 0), []⟩ (.pure 12 ⟨some 41, none, .move (.s 4), []⟩ (.pure 13 ⟨some 42, none, .bin (.add) (.s 41) (.c (.int .i64 2)), []⟩ (.pure 14 ⟨some 43, none, .move (.s 3), []⟩ (.pure 15 ⟨some 44, none, .bin (.rem) (.s 42) (.s 43), []⟩ (.pure 16 ⟨some 45, none, .idxSl 2 (.s 40) (.s 44), []⟩ (.pure 17 ⟨some 46, none, .load 2 true (.s 45), []⟩ (.pure 18 ⟨some 47, none, .call (.c (.fn 39)) [.s 32, .s 39, .s 46], []⟩ (.pure 19 ⟨some 48, none, .bin (.eql) (.s 47) (.c (.int .i64 0)), []⟩ .done))))))))))))))))))))) (.cond (.s 48) (.seq (.region g16 [⟨some 2, none, .move (.c (.bool false)), []⟩]) .ret) .skip))
def r49 : SCode := (.region g16 [⟨some 49, none, .move (.s 4), []⟩, ⟨some 50, none, .bin (.add) (.s 49) (.c (.int .i64 2)), []⟩, ⟨some 5, none, .move (.s 50), []⟩])
def hdI : SCode := (.seq (.region g16 [⟨some 51, none, .move (.s 5), []⟩, ⟨some 52, none, .move (.s 3), []⟩, ⟨some 53, none, .bin (.lss) (.s 51) (.s 52), []⟩]) (.cond (.s 53) .skip (.exit 2)))
def cr : SCode := (.seq (.drawn g16 (.pure 0 ⟨some 56, none, .move (.s 5), []⟩ (.pure 1 ⟨some 57, none, .bin (.add) (.s 56) (.c (.int .i64 1)), []⟩ (.pure 2 ⟨some 58, none, .move (.s 3), []⟩ (.pure 3 ⟨some 59, none, .bin (.rem) (.s 57) (.s 58), []⟩ (.pure 4 ⟨some 60, none, .move (.s 4), []⟩ (.pure 5 ⟨some 61, none, .bin (.neq) (.s 59) (.s 60), []⟩ (.pure 6 ⟨some 62, none, .move (.s 61), []⟩ (.pure 7 ⟨some 63, some (62, true), .move (.s 0), []⟩ (.pure 8 ⟨some 64, some (62, true), .move (.s 4), []⟩ (.pure 9 ⟨some 65, some (62, true), .idxSl 2 (.s 63) (.s 64), []⟩ (.pure 10 ⟨some 66, some (62, true), .load 2 true (.s 65), []⟩ (.pure 11 ⟨some 67, some (62, true), .move (.s 0), []⟩ (.pure 12 ⟨some 68, some (62, true), .move (.s 4), []⟩ (.pure 13 ⟨some 69, some (62, true), .call (.c (.fn 41)) [.s 67, .s 68], []⟩ (.pure 14 ⟨some 70, some (62, true), .move (.s 0), []⟩ (.pure 15 ⟨some 71, some (62, true), .move (.s 5), []⟩ (.pure 16 ⟨some 72, some (62, true), .idxSl 2 (.s 70) (.s 71), []⟩ (.pure 17 ⟨some 73, some (62, true), .load 2 true (.s 72), []⟩ (.pure 18 ⟨some 74, some (62, true), .move (.s 0), []⟩ (.pure 19 ⟨some 75, some (62, true), .move (.s 5), []⟩ (.pure 20 ⟨some 76, some (62, true), .call (.c (.fn 41)) [.s 74, .s 75], []⟩ (.pure 21 ⟨some 77, some (62, true), .call (.c (.fn 40)) [.s 66, .s 69, .s 73, .s 76], []⟩ (.pure 22 ⟨some 78, some (62, true), .bin (.neq) (.s 77) (.c (.int .i64 0)), []⟩ (.pure 23 ⟨some 79, none, .pick (.s 62) (.s 78) (.c (.bool false)), []⟩ .done))))))))))))))))))))))))) (.cond (.s 79) (.seq (.region g16 [⟨some 2, none, .move (.c (.bool false)), []⟩]) .ret) .skip))
def rI : SCode := (.region g16 [⟨some 54, none, .move (.s 5), []⟩, ⟨some 55, none, .bin (.add) (.s 54) (.c (.int .i64 1)), []⟩, ⟨some 5, none, .move (.s 55), []⟩])
def asgI : List Nat := [51, 52, 53, 56, 57, 58, 59, 60, 61, 62, 63, 64, 65, 66, 67, 68, 69, 70, 71, 72, 73, 74, 75, 76, 77, 78, 79, 2, 54, 55, 5]
def ii : SCode := (.seq hdI (.seq (.block 3 cr) rI))
def bb : SCode := (.seq tn (.seq r49 (.block 2 (.loop 1 asgI ii))))
def hdO : SCode := (.seq (.region g16 [⟨some 24, none, .move (.s 4), []⟩, ⟨some 25, none, .move (.s 3), []⟩, ⟨some 26, none, .bin (.lss) (.s 24) (.s 25), []⟩]) (.cond (.s 26) .skip (.exit 0)))
def rO : SCode := (.region g16 [⟨some 27, none, .move (.s 4), []⟩, ⟨some 28, none, .bin (.add) (.s 27) (.c (.int .i64 1)), []⟩, ⟨some 4, none, .move (.s 28), []⟩])
def asgO : List Nat := [24, 25, 26, 29, 30, 31, 32, 33, 34, 35, 36, 37, 38, 39, 40, 41, 42, 43, 44, 45, 46, 47, 48, 49, 50, 51, 52, 53, 56, 57, 58, 59, 60, 61, 62, 63, 64, 65, 66, 67, 68, 69, 70, 71, 72, 73, 74, 75, 76, 77, 78, 79, 2, 54, 55, 5, 27, 28, 4]
def aa : SCode := (.seq hdO (.seq (.block 1 bb) rO))
def gd : SCode := (.seq (.region g16 [⟨some 8, none, .move (.s 3), []⟩, ⟨some 9, none, .bin (.lss) (.s 8) (.c (.int .i64 3)), []⟩, ⟨some 10, none, .move (.s 9), []⟩, ⟨some 11, some (10, false), .move (.s 3), []⟩, ⟨some 12, some (10, false), .bin (.gtr) (.s 11) (.c (.int .i64 40)), []⟩, ⟨some 13, none, .pick (.s 10) (.c (.bool true)) (.s 12), []⟩, ⟨some 14, none, .move (.s 13), []⟩, ⟨some 15, some (14, false), .move (.s 0), []⟩, ⟨some 16, some (14, false), .call (.c (.fn 37)) [.s 15], []⟩, ⟨some 17, some (14, false), .not (.s 16), []⟩, ⟨some 18, none, .pick (.s 14) (.c (.bool true)) (.s 17), []⟩, ⟨some 19, none, .move (.s 18), []⟩, ⟨some 20, some (19, false), .move (.s 0), []⟩, ⟨some 21, some (19, false), .call (.c (.fn 38)) [.s 20], []⟩, ⟨some 22, some (19, false), .bin (.leq) (.s 21) (.c (.int .i64 0)), []⟩, ⟨some 23, none, .pick (.s 19) (.c (.bool true)) (.s 22), []⟩]) (.cond (.s 23) (.seq (.region g16 [⟨some 2, none, .move (.c (.bool false)), []⟩]) .ret) .skip))
def rB : SCode := (.region g16 [⟨some 6, none, .move (.s 0), []⟩, ⟨some 7, none, .lenSl (.s 6), []⟩, ⟨some 3, none, .move (.s 7), []⟩])
/-- gazetteer/gazetteerref08.Valid -/
def c16 : SCode :=
  .seq (.region g16 [⟨some 2, none, .move (.c (.bool false)), []⟩]) (.seq rB (.seq gd (.seq (.seq (.region g16 [⟨some 4, none, .move (.c (.int .i64 0)), []⟩]) (.block 0 (.loop 0 asgO aa))) (.seq (.region g16 [⟨some 2, none, .move (.c (.bool true)), []⟩]) .ret))))
def r16 : List SRes := [.slot 2]
def k16 : List (Nat × Nat × SCode × Nat) := []
theorem e16 : cFunc Try.prog 16 g16 [] [] k16 = some (c16, r16, 80) := by kernel_rfl
theorem q16 : RgOk Try.prog k16 := RgOk.nil
def T16 : Tb := ⟨[(37, .p allX), (38, .p sumX), (39, .p Turn), (40, .p Cross), (41, .p nextS)], [], [], 0, 0⟩
section
variable {r : Pts} {i j k : Nat} {x c d c' d' : Bool} {K : SExit → St → Prop}
def s0 (r : Pts) (x : Bool) (i : Nat) : St := ⟨[(23, .bool x), (3, .int .i64 (r.n : Int)), (0, .slice 2 r.n fun i => ptL (r.p i)), (4, .int .i64 (i : Int))], [], 0⟩
def s1 (r : Pts) (x c : Bool) (i : Nat) : St := ⟨[(23, .bool x), (26, .bool c), (3, .int .i64 (r.n : Int)), (0, .slice 2 r.n fun i => ptL (r.p i)), (4, .int .i64 (i : Int))], [], 0⟩
def s2 (r : Pts) (x c d : Bool) (i : Nat) : St := ⟨[(23, .bool x), (26, .bool c), (48, .bool d), (3, .int .i64 (r.n : Int)), (0, .slice 2 r.n fun i => ptL (r.p i)), (4, .int .i64 (i : Int))], [], 0⟩
def s3 (r : Pts) (x c d : Bool) (i : Nat) (k : Int) : St := ⟨[(23, .bool x), (26, .bool c), (48, .bool d), (3, .int .i64 (r.n : Int)), (0, .slice 2 r.n fun i => ptL (r.p i)), (5, .int .i64 k), (4, .int .i64 (i : Int))], [], 0⟩
def s3' (r : Pts) (x c d : Bool) (i : Nat) (k : Int) : St := ⟨[(23, .bool x), (26, .bool c), (48, .bool d), (3, .int .i64 (r.n : Int)), (0, .slice 2 r.n fun i => ptL (r.p i)), (4, .int .i64 (i : Int)), (5, .int .i64 k)], [], 0⟩
def s4 (r : Pts) (x c d c' : Bool) (i : Nat) (k : Int) : St := ⟨[(23, .bool x), (26, .bool c), (48, .bool d), (53, .bool c'), (3, .int .i64 (r.n : Int)), (0, .slice 2 r.n fun i => ptL (r.p i)), (5, .int .i64 k), (4, .int .i64 (i : Int))], [], 0⟩
def s5 (r : Pts) (x c d c' d' : Bool) (i : Nat) (k : Int) : St := ⟨[(23, .bool x), (26, .bool c), (48, .bool d), (53, .bool c'), (3, .int .i64 (r.n : Int)), (0, .slice 2 r.n fun i => ptL (r.p i)), (79, .bool d'), (5, .int .i64 k), (4, .int .i64 (i : Int))], [], 0⟩
theorem p_hdO (h1 : (i : Int) < (r.n : Int) → K .normal (s1 r x (decide ((i : Int) < (r.n : Int))) i)) (h2 : ¬(i : Int) < (r.n : Int) → K (.exit 0) (s1 r x (decide ((i : Int) < (r.n : Int))) i)) : evC hdO T16 (s0 r x i) K := by
  refine And.intro (fun h => h1 (of_decide_eq_true h)) (fun h => h2 (of_decide_eq_false h))
theorem p_tn (h3 : 3 ≤ r.n) (h50 : r.n ≤ 50) (hi : i < r.n) (h1 : bad0 r i = true → ∀ fr, look fr 2 = .bool false → K .ret ⟨fr, [], 0⟩) (h2 : bad0 r i = false → ∀ d, K .normal (s2 r x c d i)) : evC tn T16 (s1 r x c i) K := by
  have hi1 : (i : Int) < (r.n : Int) := by omega
  have hi0 : (0 : Int) ≤ (i : Int) := by omega
  have b1 : -9223372036854775808 ≤ (i : Int) + 1 := by omega
  have b2 : (i : Int) + 1 ≤ 9223372036854775807 := by omega
  have b3 : -9223372036854775808 ≤ (i : Int) + 2 := by omega
  have b4 : (i : Int) + 2 ≤ 9223372036854775807 := by omega
  have hnz : (r.n : Int) ≠ 0 := by omega
  have hm := tmod_nx (i := i) (n := r.n) (by omega)
  have hq : r.p (((i : Int) + 1).tmod (r.n : Int)).toNat = nxt r i := by rw [hm]; rfl
  have hm1 : 0 ≤ ((i : Int) + 1).tmod (r.n : Int) := by rw [hm]; omega
  have hm2 : ((i : Int) + 1).tmod (r.n : Int) < (r.n : Int) := by rw [hm]; have := Nat.mod_lt (i + 1) (show 0 < r.n by omega); omega
  have hmm := tmod_nx2 (i := i) (n := r.n) (by omega)
  have hqq : r.p (((i : Int) + 2).tmod (r.n : Int)).toNat = r.p ((i + 2) % r.n) := by rw [hmm]; rfl
  have hm3 : 0 ≤ ((i : Int) + 2).tmod (r.n : Int) := by rw [hmm]; omega
  have hm4 : ((i : Int) + 2).tmod (r.n : Int) < (r.n : Int) := by rw [hmm]; have := Nat.mod_lt (i + 2) (show 0 < r.n by omega); omega
  have e0 : bad0 r i = decide (turnV (r.p i) (r.p (((i : Int) + 1).tmod (r.n : Int)).toNat) (r.p (((i : Int) + 2).tmod (r.n : Int)).toNat) = 0) := by rw [hq, hqq]; rfl
  repeat' (first | with_reducible exact hi1 | with_reducible exact hi0 | with_reducible exact b1 | with_reducible exact b2 | with_reducible exact b3 | with_reducible exact b4 | with_reducible exact hnz | with_reducible exact hm1 | with_reducible exact hm2 | with_reducible exact hm3 | with_reducible exact hm4 | refine And.intro ?_ ?_ | exact trivial | exact rfl | exact fun (j : Nat) (hj : j < _) => Or.inl (sub_ptN _ _ _ _))
  · refine fun (hc : decide (turnV (r.p i) (r.p (((i : Int) + 1).tmod (r.n : Int)).toNat) (r.p (((i : Int) + 2).tmod (r.n : Int)).toNat) = 0) = true) => ?_
    exact h1 (e0.trans hc) _ rfl
  · refine fun (hc : decide (turnV (r.p i) (r.p (((i : Int) + 1).tmod (r.n : Int)).toNat) (r.p (((i : Int) + 2).tmod (r.n : Int)).toNat) = 0) = false) => ?_
    exact h2 (e0.trans hc) _
theorem p_r49 (hi : i < 50) (h : K .normal (s3 r x c d i ((i : Int) + 2))) : evC r49 T16 (s2 r x c d i) K := by
  have b3 : -9223372036854775808 ≤ (i : Int) + 2 := by omega
  have b4 : (i : Int) + 2 ≤ 9223372036854775807 := by omega
  exact And.intro (And.intro b3 b4) h
theorem p_hdI (h1 : (k : Int) < (r.n : Int) → K .normal (s4 r x c d (decide ((k : Int) < (r.n : Int))) i (k : Int))) (h2 : ¬(k : Int) < (r.n : Int) → K (.exit 2) (s4 r x c d (decide ((k : Int) < (r.n : Int))) i (k : Int))) : evC hdI T16 (s3' r x c d i (k : Int)) K := by
  refine And.intro (fun h => h1 (of_decide_eq_true h)) (fun h => h2 (of_decide_eq_false h))
theorem p_cr (h3 : 3 ≤ r.n) (h50 : r.n ≤ 50) (hr : OnR r) (hi : i < r.n) (hk : k < r.n) (h1 : rb r i k = true → ∀ fr, look fr 2 = .bool false → K .ret ⟨fr, [], 0⟩) (h2 : rb r i k = false → ∀ d', K .normal (s5 r x c d c' d' i (k : Int))) : evC cr T16 (s4 r x c d c' i (k : Int)) K := by
  have hi0 : (0 : Int) ≤ (i : Int) := by omega
  have hi1 : (i : Int) < (r.n : Int) := by omega
  have hk0 : (0 : Int) ≤ (k : Int) := by omega
  have hk1 : (k : Int) < (r.n : Int) := by omega
  have d1 : -9223372036854775808 ≤ (k : Int) + 1 := by omega
  have d2 : (k : Int) + 1 ≤ 9223372036854775807 := by omega
  have hnz : (r.n : Int) ≠ 0 := by omega
  have km : ((k : Int) + 1).tmod (r.n : Int) = (((k + 1) % r.n : Nat) : Int) := tmod_nx (by omega)
  have q1 := hr i hi
  have q2 : onB (nxt r i) = true := nxt_on hr hi
  have q3 := hr k hk
  have q4 : onB (nxt r k) = true := nxt_on hr hk
  have e1 : rb r i k = pickB (!decide (((k : Int) + 1).tmod (r.n : Int) = (i : Int))) (.s 78) (.c (.bool false)) (!decide (crV (r.p i) (nxt r i) (r.p k) (nxt r k) = 0)) false := by
    rw [pickB_and, km]
    unfold rb
    congr 1
    rw [Bool.eq_iff_iff]
    simp only [Bool.not_eq_true', decide_eq_false_iff_not]
    omega
  repeat' (first | with_reducible exact hi0 | with_reducible exact hi1 | with_reducible exact hk0 | with_reducible exact hk1 | with_reducible exact d1 | with_reducible exact d2 | with_reducible exact hnz | refine And.intro ?_ ?_ | exact trivial | exact rfl | exact fun (j : Nat) (hj : j < _) => Or.inl (sub_ptN _ _ _ _) | (refine fun (_ : guardP _ _ _ _) => ?_))
  · exact h50
  · exact hi
  · exact h50
  · exact hk
  · exact q1
  · exact q2
  · exact q3
  · exact q4
  · refine fun (hc : pickB (!decide (((k : Int) + 1).tmod (r.n : Int) = (i : Int))) (.s 78) (.c (.bool false)) (!decide (crV (r.p i) (nxt r i) (r.p k) (nxt r k) = 0)) false = true) => ?_
    exact h1 (e1.trans hc) _ rfl
  · refine fun (hc : pickB (!decide (((k : Int) + 1).tmod (r.n : Int) = (i : Int))) (.s 78) (.c (.bool false)) (!decide (crV (r.p i) (nxt r i) (r.p k) (nxt r k) = 0)) false = false) => ?_
    exact h2 (e1.trans hc) _
theorem p_rI (hk : k < 50) (h : K .normal (s5 r x c d c' d' i ((k : Int) + 1))) : evC rI T16 (s5 r x c d c' d' i (k : Int)) K := by
  have b3 : -9223372036854775808 ≤ (k : Int) + 1 := by omega
  have b4 : (k : Int) + 1 ≤ 9223372036854775807 := by omega
  exact And.intro (And.intro b3 b4) h
theorem p_rO (hi : i < 50) (h : K .normal ⟨[(23, .bool x), (26, .bool c), (48, .bool d), (53, .bool c'), (3, .int .i64 (r.n : Int)), (0, .slice 2 r.n fun i => ptL (r.p i)), (5, .int .i64 (k : Int)), (4, .int .i64 ((i : Int) + 1))], [], 0⟩) : evC rO T16 (s4 r x c d c' i (k : Int)) K := by
  have b3 : -9223372036854775808 ≤ (i : Int) + 1 := by omega
  have b4 : (i : Int) + 1 ≤ 9223372036854775807 := by omega
  exact And.intro (And.intro b3 b4) h
/-- At the head of the inner loop. -/
theorem p_headI {F : St → Prop} (h : F (s3' r x c d i ((i : Int) + 2 + (k : Int)))) : headK 0 asgI (s3 r x c d i ((i : Int) + 2)) [(5, .int .i64 ((i : Int) + 2 + (k : Int)))] [] (fun h => stF h F) := h
theorem p_subI (h : (i : Int) + 2 = (i : Int) + 2 + ((0 : Nat) : Int)) : headK 0 asgI (s3 r x c d i ((i : Int) + 2)) [(5, .int .i64 ((i : Int) + 2 + ((0 : Nat) : Int)))] [] (fun h => subSt [] 0 (s3 r x c d i ((i : Int) + 2)) h) := by
  repeat' (first | exact h | refine And.intro ?_ ?_ | exact trivial | exact rfl | exact fun (j : Nat) (hj : j < _) => Or.inl (sub_ptN _ _ _ _))
theorem p_subI' {l : Int} (h : l = (i : Int) + 2 + (k : Int)) : headK 0 asgI (s3 r x c d i ((i : Int) + 2)) [(5, .int .i64 ((i : Int) + 2 + (k : Int)))] [] (fun h => subSt [] 0 (s5 r x c d c' d' i l) h) := by
  repeat' (first | exact h | refine And.intro ?_ ?_ | exact trivial | exact rfl | exact fun (j : Nat) (hj : j < _) => Or.inl (sub_ptN _ _ _ _))
theorem p_headO {F : St → Prop} (h : F (s0 r x i)) : headK 0 asgO ⟨[(23, .bool x), (3, .int .i64 (r.n : Int)), (0, .slice 2 r.n fun i => ptL (r.p i)), (4, .int .i64 0), (2, .bool false)], [], 0⟩ [(4, .int .i64 (i : Int))] [] (fun h => stF h F) := h
theorem p_subO : headK 0 asgO ⟨[(23, .bool x), (3, .int .i64 (r.n : Int)), (0, .slice 2 r.n fun i => ptL (r.p i)), (4, .int .i64 0), (2, .bool false)], [], 0⟩ [(4, .int .i64 ((0 : Nat) : Int))] [] (fun h => subSt [] 0 ⟨[(23, .bool x), (3, .int .i64 (r.n : Int)), (0, .slice 2 r.n fun i => ptL (r.p i)), (4, .int .i64 0), (2, .bool false)], [], 0⟩ h) := by
  repeat' (first | refine And.intro ?_ ?_ | exact trivial | exact rfl | exact fun (j : Nat) (hj : j < _) => Or.inl (sub_ptN _ _ _ _))
theorem p_subO' {l : Int} : headK 0 asgO ⟨[(23, .bool x), (3, .int .i64 (r.n : Int)), (0, .slice 2 r.n fun i => ptL (r.p i)), (4, .int .i64 0), (2, .bool false)], [], 0⟩ [(4, .int .i64 ((i + 1 : Nat) : Int))] [] (fun h => subSt [] 0 ⟨[(23, .bool x), (26, .bool c), (48, .bool d), (53, .bool c'), (3, .int .i64 (r.n : Int)), (0, .slice 2 r.n fun i => ptL (r.p i)), (5, .int .i64 l), (4, .int .i64 ((i : Int) + 1))], [], 0⟩ h) := by
  repeat' (first | refine And.intro ?_ ?_ | exact trivial | exact rfl | exact fun (j : Nat) (hj : j < _) => Or.inl (sub_ptN _ _ _ _))
theorem p_bb (h3 : 3 ≤ r.n) (h50 : r.n ≤ 50) (hr : OnR r) (hi : i < r.n) (h1 : bad r i = true → ∀ fr, look fr 2 = .bool false → K .ret ⟨fr, [], 0⟩) (h2 : bad r i = false → ∀ d c' k, K .normal (s4 r x c d c' i ((k : Nat) : Int))) : evC bb T16 (s1 r x c i) K := by
  refine seq_i (p_tn h3 h50 hi (fun hb fr hl => seqK_r (h1 (by unfold bad; rw [hb]; rfl) fr hl)) fun hb d => seqK_n ?_)
  refine seq_i (p_r49 (by omega) (seqK_n (block_i ?_)))
  refine loop_i ⟨Nat, fun j => j ≤ r.n - (i + 2) ∧ orB (fun j => rb r i (i + 2 + j)) j = false, fun j => [(5, .int .i64 ((i : Int) + 2 + (j : Int)))], fun _ => [], fun j => r.n - j⟩ 0 ⟨Nat.zero_le _, rfl⟩ (p_subI (by omega)) ?_
  rintro (j : Nat) ⟨(hj : j ≤ r.n - (i + 2)), (hfj : orB (fun j => rb r i (i + 2 + j)) j = false)⟩
  refine p_headI ?_
  have ek : (i : Int) + 2 + (j : Int) = ((i + 2 + j : Nat) : Int) := by omega
  rw [ek]
  refine seq_i (p_hdI (fun hk => seqK_n (seq_i (block_i (p_cr h3 h50 hr hi (by omega) (fun hb fr hl => blockK_r (seqK_r (loopK_r (blockK_r (h1 ?_ fr hl))))) fun hb d' => blockK_n (seqK_n (p_rI (by omega) (loopK_n (j + 1) ⟨?_, ?_⟩ (p_subI' ?_) ?_)))))))  fun hk => seqK_e (loopK_e (blockK_e (h2 ?_ _ _ _))))
  · unfold bad
    rw [← rb_all h3 hi, orB_true.2 ⟨j, by omega, hb⟩, Bool.or_true]
  · omega
  · simp only [orB]
    rw [hfj, hb]
    rfl
  · omega
  · show r.n - (j + 1) < r.n - j
    omega
  · have ej : j = r.n - (i + 2) := by omega
    unfold bad
    rw [hb, ← rb_all h3 hi, ← ej, hfj]
    rfl
theorem p_aa (h3 : 3 ≤ r.n) (h50 : r.n ≤ 50) (hr : OnR r) (h1 : i < r.n → bad r i = true → ∀ fr, look fr 2 = .bool false → K .ret ⟨fr, [], 0⟩) (h0 : ¬ i < r.n → K (.exit 0) (s1 r x (decide ((i : Int) < (r.n : Int))) i))
    (h2 : i < r.n → bad r i = false → ∀ c d c' k, K .normal ⟨[(23, .bool x), (26, .bool c), (48, .bool d), (53, .bool c'), (3, .int .i64 (r.n : Int)), (0, .slice 2 r.n fun i => ptL (r.p i)), (5, .int .i64 ((k : Nat) : Int)), (4, .int .i64 ((i : Int) + 1))], [], 0⟩) : evC aa T16 (s0 r x i) K :=
  seq_i (p_hdO (fun hi => seqK_n (seq_i (block_i (p_bb h3 h50 hr (by omega) (fun hb fr hl => blockK_r (seqK_r (h1 (by omega) hb fr hl))) fun hb d c' k => blockK_n (seqK_n (p_rO (by omega) (h2 (by omega) hb _ _ _ _))))))) fun hi => seqK_e (h0 (by omega)))
theorem p_fin (h : ∀ fr, look fr 2 = .bool true → K .ret ⟨fr, [], 0⟩) : evC (.seq (.region g16 [⟨some 2, none, .move (.c (.bool true)), []⟩]) .ret) T16 (s1 r x c i) K := h _ rfl
theorem p_r4 (h : K .normal ⟨[(23, .bool x), (3, .int .i64 (r.n : Int)), (0, .slice 2 r.n fun i => ptL (r.p i)), (4, .int .i64 0), (2, .bool false)], [], 0⟩) : evC (.region g16 [⟨some 4, none, .move (.c (.int .i64 0)), []⟩]) T16 ⟨[(23, .bool x), (3, .int .i64 (r.n : Int)), (0, .slice 2 r.n fun i => ptL (r.p i)), (2, .bool false)], [], 0⟩ K := h
/-- The guard. -/
theorem p_gd {z : SCode} (hn : (r.n : Int) ≤ 9223372036854775806)
    (h1 : (((decide ((r.n : Int) < 3) || decide (40 < (r.n : Int))) || !allB r) || decide (sumB r ≤ 0)) = true → ∀ fr, look fr 2 = .bool false → K .ret ⟨fr, [], 0⟩)
    (h2 : (((decide ((r.n : Int) < 3) || decide (40 < (r.n : Int))) || !allB r) || decide (sumB r ≤ 0)) = false → ∀ x, evC z T16 ⟨[(23, .bool x), (3, .int .i64 (r.n : Int)), (0, .slice 2 r.n fun i => ptL (r.p i)), (2, .bool false)], [], 0⟩ K) :
    evC (.seq (.region g16 [⟨some 2, none, .move (.c (.bool false)), []⟩]) (.seq rB (.seq gd z))) T16 ⟨[(0, .slice 2 r.n fun i => ptL (r.p i))], [], 0⟩ K := by
  repeat' (first | exact fun (g : guardP _ _ _ _) => And.intro (gdv g) trivial | refine fun (g : guardP _ _ _ _) => And.intro (gdv g) ?_ | refine And.intro ?_ ?_ | exact trivial | exact rfl | exact fun (j : Nat) (hj : j < _) => Or.inl (sub_ptN _ _ _ _) | (refine fun (_ : guardP _ _ _ _) => ?_) | exact hn)
  · refine fun (h : pickB (pickB (pickB (decide ((r.n : Int) < 3)) _ _ _ (decide (40 < (r.n : Int)))) _ _ _ (!allB r)) _ _ _ (decide (sumB r ≤ 0)) = true) => ?_
    rw [pickB_or, pickB_or, pickB_or] at h
    exact h1 h _ rfl
  · refine fun (h : pickB (pickB (pickB (decide ((r.n : Int) < 3)) _ _ _ (decide (40 < (r.n : Int)))) _ _ _ (!allB r)) _ _ _ (decide (sumB r ≤ 0)) = false) => ?_
    rw [pickB_or, pickB_or, pickB_or] at h
    exact h2 h _
/-- What is handed back. -/
theorem p_top (h : ∀ K : SExit → St → Prop, (∀ fr, look fr 2 = .bool (valV r) → K .ret ⟨fr, [], 0⟩) → evC c16 T16 ⟨[(0, .slice 2 r.n fun i => ptL (r.p i))], [], 0⟩ K) : evFn [(37, .p allX), (38, .p sumX), (39, .p Turn), (40, .p Cross), (41, .p nextS)] c16 r16 Valid.fresh (Valid.args r) (Valid.res r) :=
  h _ fun fr hl => by
    show sub .free [] 200 (unlab none (look fr 2)) (.bool (valV r))
    rw [hl]
    exact rfl
theorem p_val (hn : (r.n : Int) ≤ 9223372036854775806) (h : ∀ fr, look fr 2 = .bool (valV r) → K .ret ⟨fr, [], 0⟩) : evC c16 T16 ⟨[(0, .slice 2 r.n fun i => ptL (r.p i))], [], 0⟩ K := by
  refine p_gd hn (fun g fr hl => h fr ?_) fun g x => ?_
  · rw [allB_eq, sumB_eq] at g
    simp only [Bool.or_eq_true, decide_eq_true_eq, Bool.not_not] at g
    rw [hl]
    congr 1
    refine (Bool.eq_false_iff.2 fun k => ?_).symm
    obtain ⟨⟨_, k1⟩, ⟨k2, k3⟩, k4, _⟩ := val_ok k
    rcases g with ((g | g) | g) | g
    · omega
    · omega
    · obtain ⟨j, hj, hb⟩ := orB_true.1 g
      have := k1 j hj
      unfold offI at hb
      rw [this] at hb
      cases hb
    · omega
  rw [allB_eq, sumB_eq] at g
  simp only [Bool.or_eq_false_iff, Bool.not_not, decide_eq_false_iff_not] at g
  have h3 : 3 ≤ r.n := by omega
  have h50 : r.n ≤ 50 := by omega
  have hr : OnR r := off_on g.1.2
  have ev : valV r = simV r := by
    unfold valV
    rw [g.1.2, decide_eq_true (show 3 ≤ (r.n : Int) by omega), decide_eq_true (show (r.n : Int) ≤ 40 by omega), decide_eq_true (show 0 < twV r by omega)]
    rfl
  refine seq_i (seq_i (p_r4 (seqK_n (block_i ?_))))
  refine loop_i ⟨Nat, fun i => i ≤ r.n ∧ orB (bad r) i = false, fun i => [(4, .int .i64 (i : Int))], fun _ => [], fun i => r.n - i⟩ 0 ⟨Nat.zero_le _, rfl⟩ p_subO ?_
  rintro (i : Nat) ⟨(hi : i ≤ r.n), (hf : orB (bad r) i = false)⟩
  refine p_headO ?_
  refine p_aa h3 h50 hr (fun hl hb fr hlk => loopK_r (blockK_r (seqK_r (h fr ?_)))) (fun hl => loopK_e (blockK_e (seqK_n (p_fin fun fr hlk => h fr ?_)))) fun hl hb c d c' k => loopK_n (i + 1) ⟨hl, ?_⟩ p_subO' ?_
  · rw [hlk, ev]
    unfold simV
    rw [orB_true.2 ⟨i, hl, hb⟩]
    rfl
  · rw [hlk, ev]
    unfold simV
    rw [show r.n = i by omega, hf]
    rfl
  · simp only [orB]
    rw [hf, hb]
    rfl
  · show r.n - (i + 1) < r.n - i
    omega
end
theorem Valid_ok : Valid.Ok Try.prog 16 := by
  refine Eng.Spec.ok_of e16 q16 (fun _ => [(37, .p allX), (38, .p sumX), (39, .p Turn), (40, .p Cross), (41, .p nextS)]) (fun _ _ => TabOk.p allX_ok (TabOk.p sumX_ok (TabOk.p H1.Turn_ok (TabOk.p H3.Cross_ok (TabOk.p next_ok TabOk.nil))))) ?_
  rintro r hn
  exact ⟨trivial, p_top fun K h => p_val hn h⟩
end H5
end
section
open Go Go.Eng Go.Proofs G1 G2 G3 G4 G5 G6 G7 G8 G16 H1 H2 H3 H4
set_option maxRecDepth 100000
namespace H6
/-- gazetteer/gazetteerref08.Twice -/
def g18 : List Nat := [5, 0, 2]
def c18 : SCode :=
  .seq (.region g18 [⟨some 2, none, .move (.c (.int .i64 0)), []⟩]) (.seq (.seq (.region g18 [⟨some 3, none, .move (.s 0), []⟩, ⟨some 4, none, .call (.c (.fn 16)) [.s 3], []⟩, ⟨some 5, none, .not (.s 4), []⟩]) (.cond (.s 5) (.seq (.region g18 [⟨some 2, none, .move (.c (.int .i64 0)), []⟩]) .ret) .skip)) (.seq (.region g18 [⟨some 6, none, .move (.s 0), []⟩, ⟨some 7, none, .call (.c (.fn 38)) [.s 6], []⟩, ⟨some 2, none, .move (.s 7), []⟩]) .ret))
def r18 : List SRes := [.slot 2]
def k18 : List (Nat × Nat × SCode × Nat) := []
theorem e18 : cFunc Try.prog 18 g18 [] [] k18 = some (c18, r18, 8) := by kernel_rfl
theorem q18 : RgOk Try.prog k18 := RgOk.nil
theorem Twice_ok : Twice.Ok Try.prog 18 := by
  refine Eng.Spec.ok_of e18 q18 (fun _ => [(16, .p Valid), (38, .p H5.sumX)]) (fun _ _ => TabOk.p H5.Valid_ok (TabOk.p H5.sumX_ok TabOk.nil)) ?_
  rintro r hn
  replace hn : (r.n : Int) ≤ 9223372036854775806 := hn
  refine ⟨trivial, ?_⟩
  repeat' (first | exact hn | refine And.intro ?_ ?_ | exact trivial | exact rfl | exact fun (j : Nat) (hj : j < _) => Or.inl (sub_ptN _ _ _ _))
  · refine fun (h : (!valV r) = true) => ?_
    have e : 0 = twiV r := by unfold twiV; rw [not_t h]; rfl
    repeat' (first | exact e | refine And.intro ?_ ?_ | exact trivial | exact rfl | exact fun (j : Nat) (hj : j < _) => Or.inl (sub_ptN _ _ _ _))
  · refine fun (h : (!valV r) = false) => ?_
    have hv := val_ok (not_f h)
    have h50 := hv.1.1
    have hon := hv.1.2
    have e : H5.sumB r = twiV r := by rw [H5.sumB_eq]; unfold twiV; rw [if_pos (not_f h)]
    repeat' (first | exact h50 | exact hon | exact e | refine And.intro ?_ ?_ | exact trivial | exact rfl | exact fun (j : Nat) (hj : j < _) => Or.inl (sub_ptN _ _ _ _))
/-- gazetteer/gazetteerref08.Box -/
def g14 : List Nat := [10, 22, 0, 7, 5, 6, 2, 3, 4]
def c14 : SCode :=
  .seq (.region g14 [⟨some 2, none, .alloc 24 (.cons (.int .i64 0) (.cons (.int .i64 0) .nil)), []⟩, ⟨some 3, none, .alloc 24 (.cons (.int .i64 0) (.cons (.int .i64 0) .nil)), []⟩, ⟨some 4, none, .move (.c (.int .i64 0)), []⟩]) (.seq (.seq (.region g14 [⟨some 8, none, .move (.s 0), []⟩, ⟨some 9, none, .call (.c (.fn 16)) [.s 8], []⟩, ⟨some 10, none, .not (.s 9), []⟩]) (.cond (.s 10) (.seq (.region g14 [⟨some 11, none, .build (.cons (.int .i64 0) (.cons (.int .i64 0) .nil)) [], []⟩, ⟨some 12, none, .build (.cons (.int .i64 0) (.cons (.int .i64 0) .nil)) [], []⟩, ⟨none, none, .store 2 (.s 2) (.s 11), []⟩, ⟨none, none, .store 2 (.s 3) (.s 12), []⟩, ⟨some 4, none, .move (.c (.int .i64 1)), []⟩]) .ret) .skip)) (.seq (.region g14 [⟨some 13, none, .move (.s 0), []⟩, ⟨some 14, none, .idxSl 2 (.s 13) (.c (.int .i64 0)), []⟩, ⟨some 15, none, .load 2 true (.s 14), []⟩, ⟨some 5, none, .alloc 24 (.cons (.int .i64 0) (.cons (.int .i64 0) .nil)), []⟩, ⟨none, none, .store 2 (.s 5) (.s 15), []⟩]) (.seq (.region g14 [⟨some 16, none, .move (.s 0), []⟩, ⟨some 17, none, .idxSl 2 (.s 16) (.c (.int .i64 0)), []⟩, ⟨some 18, none, .load 2 true (.s 17), []⟩, ⟨some 6, none, .alloc 24 (.cons (.int .i64 0) (.cons (.int .i64 0) .nil)), []⟩, ⟨none, none, .store 2 (.s 6) (.s 18), []⟩]) (.seq (.seq (.region g14 [⟨some 7, none, .move (.c (.int .i64 0)), []⟩]) (.block 0 (.loop 0 [19, 20, 21, 22, 25, 26, 27, 28, 29, 30, 31, 32, 33, 34, 35, 36, 37, 38, 39, 40, 41, 42, 43, 44, 45, 46, 47, 48, 49, 50, 51, 52, 53, 54, 55, 56, 57, 58, 23, 24, 7] (.seq (.seq (.region g14 [⟨some 19, none, .move (.s 7), []⟩, ⟨some 20, none, .move (.s 0), []⟩, ⟨some 21, none, .lenSl (.s 20), []⟩, ⟨some 22, none, .bin (.lss) (.s 19) (.s 21), []⟩]) (.cond (.s 22) .skip (.exit 0))) (.seq (.block 1 (.seq (.drawn g14 (.pure 0 ⟨some 25, none, .fldA 0 (.s 5), []⟩ (.pure 1 ⟨some 26, none, .load 1 false (.s 25), []⟩ (.pure 2 ⟨some 27, none, .move (.s 0), []⟩ (.pure 3 ⟨some 28, none, .move (.s 7), []⟩ (.pure 4 ⟨some 29, none, .idxSl 2 (.s 27) (.s 28), []⟩ (.pure 5 ⟨some 30, none, .fldA 0 (.s 29), []⟩ (.pure 6 ⟨some 31, none, .load 1 false (.s 30), []⟩ (.pure 7 ⟨some 32, none, .mm false (.s 26) (.s 31), []⟩ (.pure 8 ⟨some 33, none, .fldA 1 (.s 5), []⟩ (.pure 9 ⟨some 34, none, .load 1 false (.s 33), []⟩ (.pure 10 ⟨some 35, none, .move (.s 0), []⟩ (.pure 11 ⟨some 36, none, .move (.s 7), []⟩ (.pure 12 ⟨some 37, none, .idxSl 2 (.s 35) (.s 36), []⟩ (.pure 13 ⟨some 38, none, .fldA 1 (.s 37), []⟩ (.pure 14 ⟨some 39, none, .load 1 false (.s 38), []⟩ (.pure 15 ⟨some 40, none, .mm false (.s 34) (.s 39), []⟩ (.pure 16 ⟨some 41, none, .build (.cons (.int .i64 0) (.cons (.int .i64 0) .nil)) [(0, 1, .s 32), (1, 1, .s 40)], []⟩ (.eff 17 ⟨none, none, .store 2 (.s 5) (.s 41), []⟩ [] .done .none))))))))))))))))))) (.drawn g14 (.pure 0 ⟨some 42, none, .fldA 0 (.s 6), []⟩ (.pure 1 ⟨some 43, none, .load 1 false (.s 42), []⟩ (.pure 2 ⟨some 44, none, .move (.s 0), []⟩ (.pure 3 ⟨some 45, none, .move (.s 7), []⟩ (.pure 4 ⟨some 46, none, .idxSl 2 (.s 44) (.s 45), []⟩ (.pure 5 ⟨some 47, none, .fldA 0 (.s 46), []⟩ (.pure 6 ⟨some 48, none, .load 1 false (.s 47), []⟩ (.pure 7 ⟨some 49, none, .mm true (.s 43) (.s 48), []⟩ (.pure 8 ⟨some 50, none, .fldA 1 (.s 6), []⟩ (.pure 9 ⟨some 51, none, .load 1 false (.s 50), []⟩ (.pure 10 ⟨some 52, none, .move (.s 0), []⟩ (.pure 11 ⟨some 53, none, .move (.s 7), []⟩ (.pure 12 ⟨some 54, none, .idxSl 2 (.s 52) (.s 53), []⟩ (.pure 13 ⟨some 55, none, .fldA 1 (.s 54), []⟩ (.pure 14 ⟨some 56, none, .load 1 false (.s 55), []⟩ (.pure 15 ⟨some 57, none, .mm true (.s 51) (.s 56), []⟩ (.pure 16 ⟨some 58, none, .build (.cons (.int .i64 0) (.cons (.int .i64 0) .nil)) [(0, 1, .s 49), (1, 1, .s 57)], []⟩ (.eff 17 ⟨none, none, .store 2 (.s 6) (.s 58), []⟩ [] .done .none))))))))))))))))))))) (.region g14 [⟨some 23, none, .move (.s 7), []⟩, ⟨some 24, none, .bin (.add) (.s 23) (.c (.int .i64 1)), []⟩, ⟨some 7, none, .move (.s 24), []⟩])))))) (.seq (.drawn g14 (.pure 0 ⟨some 59, none, .load 2 true (.s 5), []⟩ (.pure 1 ⟨some 60, none, .load 2 true (.s 6), []⟩ (.eff 2 ⟨none, none, .store 2 (.s 2) (.s 59), []⟩ [⟨some 60, none, .load 2 true (.s 6), []⟩] (.eff 3 ⟨none, none, .store 2 (.s 3) (.s 60), []⟩ [] (.pure 4 ⟨some 4, none, .move (.c (.int .i64 0)), []⟩ .done) .none) .none)))) .ret)))))
def r14 : List SRes := [.cell 2 2 true, .cell 3 2 true, .slot 4]
def k14 : List (Nat × Nat × SCode × Nat) := []
theorem e14 : cFunc Try.prog 14 g14 [] [] k14 = some (c14, r14, 61) := by kernel_rfl
theorem q14 : RgOk Try.prog k14 := RgOk.nil
set_option maxHeartbeats 4000000 in
theorem Box_ok : Box.Ok Try.prog 14 := by
  refine Eng.Spec.ok_of e14 q14 (fun _ => [(16, .p Valid)]) (fun _ _ => TabOk.p H5.Valid_ok TabOk.nil) ?_
  rintro r hn
  replace hn : (r.n : Int) ≤ 9223372036854775806 := hn
  refine ⟨trivial, ?_⟩
  repeat' (first | exact hn | refine And.intro ?_ ?_ | exact trivial | exact rfl | exact fun (j : Nat) (hj : j < _) => Or.inl (sub_ptN _ _ _ _))
  · refine fun (h : (!valV r) = true) => ?_
    have e : boxV r = ((0, 0), (0, 0), 1) := by unfold boxV; rw [not_t h]; rfl
    have e1 : 0 = (boxV r).1.1 := by rw [e]
    have e2 : 0 = (boxV r).1.2 := by rw [e]
    have e3 : 0 = (boxV r).2.1.1 := by rw [e]
    have e4 : 0 = (boxV r).2.1.2 := by rw [e]
    have e5 : 1 = (boxV r).2.2 := by rw [e]
    repeat' (first | exact e1 | exact e2 | exact e3 | exact e4 | exact e5 | refine And.intro ?_ ?_ | exact trivial | exact rfl | exact fun (j : Nat) (hj : j < _) => Or.inl (sub_ptN _ _ _ _))
  · refine fun (h : (!valV r) = false) => ?_
    have hv := val_ok (not_f h)
    have h50 := hv.1.1
    have h0 : (0 : Int) ≤ 0 := Int.le_refl 0
    have h0n : (0 : Int) < (r.n : Int) := by have := hv.2.1.1; omega
    have e : boxV r = (loI r r.n, hiI r r.n, 0) := by unfold boxV; rw [if_pos (not_f h)]
    repeat' (first | with_reducible exact h0 | with_reducible exact h0n | refine And.intro ?_ ?_ | exact trivial | exact rfl | exact fun (j : Nat) (hj : j < _) => Or.inl (sub_ptN _ _ _ _))
    refine ⟨⟨Nat, fun i => i ≤ r.n, fun i => [(7, .int .i64 (i : Int))], fun i => [(2, .cells 24 (ptL (loI r i))), (3, .cells 24 (ptL (hiI r i)))], fun i => r.n - i⟩, 0, Nat.zero_le _, ?_, ?_⟩
    · repeat' (first | refine And.intro ?_ ?_ | exact trivial | exact rfl | exact fun (j : Nat) (hj : j < _) => Or.inl (sub_ptN _ _ _ _))
    rintro (i : Nat) (hi : i ≤ r.n)
    repeat' (first | refine And.intro ?_ ?_ | exact trivial | exact rfl | exact fun (j : Nat) (hj : j < _) => Or.inl (sub_ptN _ _ _ _))
    · refine fun (h : decide ((i : Int) < (r.n : Int)) = true) => ?_
      have hi1 : (i : Int) < (r.n : Int) := of_decide_eq_true h
      have hil : i < r.n := by omega
      have hi0 : (0 : Int) ≤ (i : Int) := by omega
      have b1 : -9223372036854775808 ≤ (i : Int) + 1 := by omega
      have b2 : (i : Int) + 1 ≤ 9223372036854775807 := by omega
      repeat' (first | with_reducible exact hi1 | with_reducible exact hi0 | with_reducible exact b1 | with_reducible exact b2 | refine And.intro ?_ ?_ | exact trivial | exact rfl | exact fun (j : Nat) (hj : j < _) => Or.inl (sub_ptN _ _ _ _))
      refine Exists.intro (i + 1) ?_
      refine And.intro (show i + 1 ≤ r.n from hil) ?_
      repeat' (first | refine And.intro ?_ ?_ | exact trivial | exact rfl | exact fun (j : Nat) (hj : j < _) => Or.inl (sub_ptN _ _ _ _))
      show r.n - (i + 1) < r.n - i
      omega
    · refine fun (h : decide ((i : Int) < (r.n : Int)) = false) => ?_
      have hi1 : ¬ (i : Int) < (r.n : Int) := of_decide_eq_false h
      have ei : i = r.n := by omega
      have e1 : (loI r i).1 = (boxV r).1.1 := by rw [e, ei]
      have e2 : (loI r i).2 = (boxV r).1.2 := by rw [e, ei]
      have e3 : (hiI r i).1 = (boxV r).2.1.1 := by rw [e, ei]
      have e4 : (hiI r i).2 = (boxV r).2.1.2 := by rw [e, ei]
      have e5 : 0 = (boxV r).2.2 := by rw [e]
      repeat' (first | exact e1 | exact e2 | exact e3 | exact e4 | exact e5 | refine And.intro ?_ ?_ | exact trivial | exact rfl | exact fun (j : Nat) (hj : j < _) => Or.inl (sub_ptN _ _ _ _))
/-- gazetteer/gazetteerref08.crossed -/
def g50 : List Nat := [10, 16, 0, 1, 34, 6, 5, 4]
def c50 : SCode :=
  .seq (.region g50 [⟨some 4, none, .move (.c (.bool false)), []⟩]) (.seq (.seq (.region g50 [⟨some 5, none, .move (.c (.int .i64 0)), []⟩]) (.block 0 (.loop 0 [7, 8, 9, 10, 13, 14, 15, 16, 19, 20, 21, 22, 23, 24, 25, 26, 27, 28, 29, 30, 31, 32, 33, 34, 4, 17, 18, 6, 11, 12, 5] (.seq (.seq (.region g50 [⟨some 7, none, .move (.s 5), []⟩, ⟨some 8, none, .move (.s 0), []⟩, ⟨some 9, none, .lenSl (.s 8), []⟩, ⟨some 10, none, .bin (.lss) (.s 7) (.s 9), []⟩]) (.cond (.s 10) .skip (.exit 0))) (.seq (.block 1 (.seq (.region g50 [⟨some 6, none, .move (.c (.int .i64 0)), []⟩]) (.block 2 (.loop 1 [13, 14, 15, 16, 19, 20, 21, 22, 23, 24, 25, 26, 27, 28, 29, 30, 31, 32, 33, 34, 4, 17, 18, 6] (.seq (.seq (.region g50 [⟨some 13, none, .move (.s 6), []⟩, ⟨some 14, none, .move (.s 1), []⟩, ⟨some 15, none, .lenSl (.s 14), []⟩, ⟨some 16, none, .bin (.lss) (.s 13) (.s 15), []⟩]) (.cond (.s 16) .skip (.exit 2))) (.seq (.block 3 (.seq (.drawn g50 (.pure 0 ⟨some 19, none, .move (.s 0), []⟩ (.pure 1 ⟨some 20, none, .move (.s 5), []⟩ (.pure 2 ⟨some 21, none, .idxSl 2 (.s 19) (.s 20), []⟩ (.pure 3 ⟨some 22, none, .load 2 true (.s 21), []⟩ (.pure 4 ⟨some 23, none, .move (.s 0), []⟩ (.pure 5 ⟨some 24, none, .move (.s 5), []⟩ (.pure 6 ⟨some 25, none, .call (.c (.fn 41)) [.s 23, .s 24], []⟩ (.pure 7 ⟨some 26, none, .move (.s 1), []⟩ (.pure 8 ⟨some 27, none, .move (.s 6), []⟩ (.pure 9 ⟨some 28, none, .idxSl 2 (.s 26) (.s 27), []⟩ (.pure 10 ⟨some 29, none, .load 2 true (.s 28), []⟩ (.pure 11 ⟨some 30, none, .move (.s 1), []⟩ (.pure 12 ⟨some 31, none, .move (.s 6), []⟩ (.pure 13 ⟨some 32, none, .call (.c (.fn 41)) [.s 30, .s 31], []⟩ (.pure 14 ⟨some 33, none, .call (.c (.fn 40)) [.s 22, .s 25, .s 29, .s 32], []⟩ (.pure 15 ⟨some 34, none, .bin (.eql) (.s 33) (.c (.int .i64 2)), []⟩ .done))))))))))))))))) (.cond (.s 34) (.seq (.region g50 [⟨some 4, none, .move (.c (.bool true)), []⟩]) .ret) .skip))) (.region g50 [⟨some 17, none, .move (.s 6), []⟩, ⟨some 18, none, .bin (.add) (.s 17) (.c (.int .i64 1)), []⟩, ⟨some 6, none, .move (.s 18), []⟩]))))))) (.region g50 [⟨some 11, none, .move (.s 5), []⟩, ⟨some 12, none, .bin (.add) (.s 11) (.c (.int .i64 1)), []⟩, ⟨some 5, none, .move (.s 12), []⟩])))))) (.seq (.region g50 [⟨some 4, none, .move (.c (.bool false)), []⟩]) .ret))
def r50 : List SRes := [.slot 4]
def k50 : List (Nat × Nat × SCode × Nat) := []
theorem e50 : cFunc Try.prog 50 g50 [] [] k50 = some (c50, r50, 35) := by kernel_rfl
theorem q50 : RgOk Try.prog k50 := RgOk.nil
set_option maxHeartbeats 4000000 in
theorem crossed_ok : crosses.Ok Try.prog 50 := by
  refine Eng.Spec.ok_of e50 q50 (fun _ => [(40, .p Cross), (41, .p nextS)]) (fun _ _ => TabOk.p H3.Cross_ok (TabOk.p next_ok TabOk.nil)) ?_
  rintro ⟨r, s⟩ ⟨⟨hn, hr⟩, hm, hs⟩
  replace hn : r.n ≤ 50 := hn
  replace hr : OnR r := hr
  replace hm : s.n ≤ 50 := hm
  replace hs : OnR s := hs
  refine ⟨trivial, ?_⟩
  repeat' (first | refine And.intro ?_ ?_ | exact trivial | exact rfl | exact fun (j : Nat) (hj : j < _) => Or.inl (sub_ptN _ _ _ _))
  refine ⟨⟨Nat, fun i => i ≤ r.n ∧ orB (crR r s) i = false, fun i => [(5, .int .i64 (i : Int))], fun i => [], fun i => r.n - i⟩, 0, ⟨Nat.zero_le _, rfl⟩, ?_, ?_⟩
  · repeat' (first | refine And.intro ?_ ?_ | exact trivial | exact rfl | exact fun (j : Nat) (hj : j < _) => Or.inl (sub_ptN _ _ _ _))
  rintro (i : Nat) ⟨(hi : i ≤ r.n), (hf : orB (crR r s) i = false)⟩
  repeat' (first | refine And.intro ?_ ?_ | exact trivial | exact rfl | exact fun (j : Nat) (hj : j < _) => Or.inl (sub_ptN _ _ _ _))
  · refine fun (h : decide ((i : Int) < (r.n : Int)) = true) => ?_
    have hi1 : (i : Int) < (r.n : Int) := of_decide_eq_true h
    have hil : i < r.n := by omega
    have hi0 : (0 : Int) ≤ (i : Int) := by omega
    have b1 : -9223372036854775808 ≤ (i : Int) + 1 := by omega
    have b2 : (i : Int) + 1 ≤ 9223372036854775807 := by omega
    repeat' (first | refine And.intro ?_ ?_ | exact trivial | exact rfl | exact fun (j : Nat) (hj : j < _) => Or.inl (sub_ptN _ _ _ _))
    refine ⟨⟨Nat, fun k => k ≤ s.n ∧ orB (crI r s i) k = false, fun k => [(6, .int .i64 (k : Int))], fun k => [], fun k => s.n - k⟩, 0, ⟨Nat.zero_le _, rfl⟩, ?_, ?_⟩
    · repeat' (first | refine And.intro ?_ ?_ | exact trivial | exact rfl | exact fun (j : Nat) (hj : j < _) => Or.inl (sub_ptN _ _ _ _))
    rintro (k : Nat) ⟨(hk : k ≤ s.n), (hfk : orB (crI r s i) k = false)⟩
    repeat' (first | refine And.intro ?_ ?_ | exact trivial | exact rfl | exact fun (j : Nat) (hj : j < _) => Or.inl (sub_ptN _ _ _ _))
    · refine fun (h : decide ((k : Int) < (s.n : Int)) = true) => ?_
      have ki1 : (k : Int) < (s.n : Int) := of_decide_eq_true h
      have kil : k < s.n := by omega
      have ki0 : (0 : Int) ≤ (k : Int) := by omega
      have c1 : -9223372036854775808 ≤ (k : Int) + 1 := by omega
      have c2 : (k : Int) + 1 ≤ 9223372036854775807 := by omega
      have h1 := hr i hil
      have h2 : onB (nxt r i) = true := nxt_on hr hil
      have h3 := hs k kil
      have h4 : onB (nxt s k) = true := nxt_on hs kil
      repeat' (first | with_reducible exact ki1 | with_reducible exact ki0 | with_reducible exact hi1 | with_reducible exact hi0 | with_reducible exact c1 | with_reducible exact c2 | refine And.intro ?_ ?_ | exact trivial | exact rfl | exact fun (j : Nat) (hj : j < _) => Or.inl (sub_ptN _ _ _ _))
      · exact hn
      · exact hil
      · exact hm
      · exact kil
      · exact h1
      · exact h2
      · exact h3
      · exact h4
      · refine fun (hc : crI r s i k = true) => ?_
        have q : orB (crI r s i) s.n = true := orB_true.2 ⟨k, kil, hc⟩
        have et : true = crossB r s := (orB_true.2 ⟨i, hil, q⟩).symm
        repeat' (first | exact et | refine And.intro ?_ ?_ | exact trivial | exact rfl | exact fun (j : Nat) (hj : j < _) => Or.inl (sub_ptN _ _ _ _))
      · refine fun (hc : crI r s i k = false) => ?_
        have hf1 : orB (crI r s i) (k + 1) = false := by simp only [orB]; rw [hfk, hc]; rfl
        repeat' (first | with_reducible exact c1 | with_reducible exact c2 | refine And.intro ?_ ?_ | exact trivial | exact rfl | exact fun (j : Nat) (hj : j < _) => Or.inl (sub_ptN _ _ _ _))
        refine Exists.intro (k + 1) ?_
        refine And.intro (And.intro kil hf1) ?_
        repeat' (first | refine And.intro ?_ ?_ | exact trivial | exact rfl | exact fun (j : Nat) (hj : j < _) => Or.inl (sub_ptN _ _ _ _))
        show s.n - (k + 1) < s.n - k
        omega
    · refine fun (h : decide ((k : Int) < (s.n : Int)) = false) => ?_
      have ki1 : ¬ (k : Int) < (s.n : Int) := of_decide_eq_false h
      have hf1 : orB (crR r s) (i + 1) = false := by
        simp only [orB]
        rw [hf]
        unfold crR
        rw [show s.n = k by omega, hfk]
        rfl
      repeat' (first | with_reducible exact b1 | with_reducible exact b2 | refine And.intro ?_ ?_ | exact trivial | exact rfl | exact fun (j : Nat) (hj : j < _) => Or.inl (sub_ptN _ _ _ _))
      refine Exists.intro (i + 1) ?_
      refine And.intro (And.intro hil hf1) ?_
      repeat' (first | refine And.intro ?_ ?_ | exact trivial | exact rfl | exact fun (j : Nat) (hj : j < _) => Or.inl (sub_ptN _ _ _ _))
      show r.n - (i + 1) < r.n - i
      omega
  · refine fun (h : decide ((i : Int) < (r.n : Int)) = false) => ?_
    have hi1 : ¬ (i : Int) < (r.n : Int) := of_decide_eq_false h
    have ef : false = crossB r s := by
      unfold crossB
      rw [show r.n = i by omega, hf]
    repeat' (first | exact ef | refine And.intro ?_ ?_ | exact trivial | exact rfl | exact fun (j : Nat) (hj : j < _) => Or.inl (sub_ptN _ _ _ _))
end H6
end
