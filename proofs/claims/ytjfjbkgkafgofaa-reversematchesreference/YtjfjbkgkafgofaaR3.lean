/- A part of the proof: see the last text. -/
import Derived.Test.YtjfjbkgkafgofaaR2
open Go Go.Eng Go.Proofs R2
set_option maxRecDepth 100000
namespace R3
abbrev Fnd := List UInt8 × Int
def fnL (q : Fnd) : SV := .cons (.str q.1) (.cons (.int .i64 q.2) .nil)
def fnE (q : Fnd) : SV := .agg (fnL q)
def fnD : SV → Option Fnd
  | .agg (.cons (.str a) (.cons (.int _ b) .nil)) => some (a, b)
  | _ => none
/-- gazetteer/gazetteerref39.Before -/
def g20 : List Nat := [0, 1, 2, 3, 4]
def c20 : SCode :=
  .seq (.region g20 [⟨some 2, none, .box 50 (.s 0), []⟩, ⟨some 3, none, .box 50 (.s 1), []⟩, ⟨some 4, none, .move (.c (.bool false)), []⟩]) (.seq (.region g20 [⟨some 5, none, .fldA 1 (.s 2), []⟩, ⟨some 6, none, .load 1 false (.s 5), []⟩, ⟨some 7, none, .fldA 1 (.s 3), []⟩, ⟨some 8, none, .load 1 false (.s 7), []⟩, ⟨some 9, none, .bin (.lss) (.s 6) (.s 8), []⟩, ⟨some 10, none, .move (.s 9), []⟩, ⟨some 11, some (10, false), .fldA 1 (.s 2), []⟩, ⟨some 12, some (10, false), .load 1 false (.s 11), []⟩, ⟨some 13, some (10, false), .fldA 1 (.s 3), []⟩, ⟨some 14, some (10, false), .load 1 false (.s 13), []⟩, ⟨some 15, some (10, false), .bin (.eql) (.s 12) (.s 14), []⟩, ⟨some 16, some (10, false), .move (.s 15), []⟩, ⟨some 17, some (16, true), .fldA 0 (.s 2), []⟩, ⟨some 18, some (16, true), .load 1 false (.s 17), []⟩, ⟨some 19, some (16, true), .fldA 0 (.s 3), []⟩, ⟨some 20, some (16, true), .load 1 false (.s 19), []⟩, ⟨some 21, some (16, true), .bin (.lss) (.s 18) (.s 20), []⟩, ⟨some 22, some (10, false), .pick (.s 16) (.s 21) (.c (.bool false)), []⟩, ⟨some 23, none, .pick (.s 10) (.c (.bool true)) (.s 22), []⟩, ⟨some 4, none, .move (.s 23), []⟩]) .ret)
def r20 : List SRes := [.slot 4]
def k20 : List (Nat × Nat × SCode × Nat) := []
theorem e20 : cFunc Try.prog 20 g20 [] [] k20 = some (c20, r20, 24) := by kernel_rfl
theorem q20 : RgOk Try.prog k20 := RgOk.nil
def befB (p q : Fnd) : Bool := decide (p.2 < q.2) || (decide (p.2 = q.2) && Op.bytesLess p.1 q.1)
def Before : Eng.Spec where
  X := Fnd × Fnd
  args := fun x => .cons (fnE x.1) (.cons (fnE x.2) .nil)
  pre := fun _ => True
  res := fun x => .bool (befB x.1 x.2)
  inst := fun
    | .cons a (.cons b .nil) => match fnD a, fnD b with
      | some p, some q => some (p, q)
      | _, _ => none
    | _ => none
theorem Before_ok : Before.Ok Try.prog 20 := by
  refine Eng.Spec.ok_of e20 q20 (fun _ => []) (fun _ _ => TabOk.nil) ?_
  intro (x : Fnd × Fnd) _
  refine ⟨trivial, ?_⟩
  show _ = _
  refine (pickB_or _ _ _ _).trans (congrArg _ (pickB_and _ _ _ _))
/-- gazetteer/gazetteerref39.Ring -/
def g22 : List Nat := [0, 1, 2, 3, 22, 26, 5, 6, 4]
def c22 : SCode :=
  .seq (.region g22 [⟨some 2, none, .box 38 (.s 0), []⟩, ⟨some 3, none, .box 38 (.s 1), []⟩, ⟨some 4, none, .move (.c (.int .i64 0)), []⟩]) (.seq (.region g22 [⟨some 7, none, .fldA 0 (.s 2), []⟩, ⟨some 8, none, .load 1 false (.s 7), []⟩, ⟨some 9, none, .bin (.quo) (.s 8) (.c (.int .i64 1024)), []⟩, ⟨some 10, none, .fldA 0 (.s 3), []⟩, ⟨some 11, none, .load 1 false (.s 10), []⟩, ⟨some 12, none, .bin (.quo) (.s 11) (.c (.int .i64 1024)), []⟩, ⟨some 13, none, .bin (.sub) (.s 9) (.s 12), []⟩, ⟨some 5, none, .move (.s 13), []⟩]) (.seq (.region g22 [⟨some 14, none, .fldA 1 (.s 2), []⟩, ⟨some 15, none, .load 1 false (.s 14), []⟩, ⟨some 16, none, .bin (.quo) (.s 15) (.c (.int .i64 1024)), []⟩, ⟨some 17, none, .fldA 1 (.s 3), []⟩, ⟨some 18, none, .load 1 false (.s 17), []⟩, ⟨some 19, none, .bin (.quo) (.s 18) (.c (.int .i64 1024)), []⟩, ⟨some 20, none, .bin (.sub) (.s 16) (.s 19), []⟩, ⟨some 6, none, .move (.s 20), []⟩]) (.seq (.seq (.region g22 [⟨some 21, none, .move (.s 5), []⟩, ⟨some 22, none, .bin (.lss) (.s 21) (.c (.int .i64 0)), []⟩]) (.cond (.s 22) (.region g22 [⟨some 23, none, .move (.s 5), []⟩, ⟨some 24, none, .bin (.sub) (.c (.int .i64 0)) (.s 23), []⟩, ⟨some 5, none, .move (.s 24), []⟩]) .skip)) (.seq (.seq (.region g22 [⟨some 25, none, .move (.s 6), []⟩, ⟨some 26, none, .bin (.lss) (.s 25) (.c (.int .i64 0)), []⟩]) (.cond (.s 26) (.region g22 [⟨some 27, none, .move (.s 6), []⟩, ⟨some 28, none, .bin (.sub) (.c (.int .i64 0)) (.s 27), []⟩, ⟨some 6, none, .move (.s 28), []⟩]) .skip)) (.seq (.region g22 [⟨some 29, none, .move (.s 5), []⟩, ⟨some 30, none, .move (.s 6), []⟩, ⟨some 31, none, .mm true (.s 29) (.s 30), []⟩, ⟨some 4, none, .move (.s 31), []⟩]) .ret)))))
def r22 : List SRes := [.slot 4]
def k22 : List (Nat × Nat × SCode × Nat) := []
theorem e22 : cFunc Try.prog 22 g22 [] [] k22 = some (c22, r22, 32) := by kernel_rfl
theorem q22 : RgOk Try.prog k22 := RgOk.nil
def ringV (p q : Int × Int) : Int := max (max (p.1 / 1024 - q.1 / 1024) (q.1 / 1024 - p.1 / 1024)) (max (p.2 / 1024 - q.2 / 1024) (q.2 / 1024 - p.2 / 1024))
def Ring : Eng.Spec where
  X := (Int × Int) × (Int × Int)
  args := fun x => .cons (ptE x.1) (.cons (ptE x.2) .nil)
  pre := fun x => onB x.1 = true ∧ onB x.2 = true
  res := fun x => .int .i64 (ringV x.1 x.2)
  inst := fun
    | .cons a (.cons b .nil) => match ptD a, ptD b with
      | some p, some q => some (p, q)
      | _, _ => none
    | _ => none
theorem Ring_ok : Ring.Ok Try.prog 22 := by
  refine Eng.Spec.ok_of e22 q22 (fun _ => []) (fun _ _ => TabOk.nil) ?_
  intro (x : (Int × Int) × (Int × Int)) ⟨h1, h2⟩
  replace h1 := onB_iff.1 h1
  replace h2 := onB_iff.1 h2
  have e1 : x.1.1.tdiv 1024 = x.1.1 / 1024 := Int.tdiv_eq_ediv_of_nonneg h1.1
  have e2 : x.1.2.tdiv 1024 = x.1.2 / 1024 := Int.tdiv_eq_ediv_of_nonneg h1.2.2.1
  have e3 : x.2.1.tdiv 1024 = x.2.1 / 1024 := Int.tdiv_eq_ediv_of_nonneg h2.1
  have e4 : x.2.2.tdiv 1024 = x.2.2 / 1024 := Int.tdiv_eq_ediv_of_nonneg h2.2.2.1
  refine ⟨trivial, ?_⟩
  repeat' (first | exact trivial | refine And.intro ?_ ?_ | exact rfl | omega | (dsimp only; omega) | intro hb)
  all_goals
    simp only [decide_eq_true_eq, decide_eq_false_iff_not] at *
    show _ = _
    unfold ringV
    omega
/-- gazetteer/gazetteerref07.On -/
def g27 : List Nat := [0, 1, 2]
def c27 : SCode :=
  .seq (.region g27 [⟨some 1, none, .box 38 (.s 0), []⟩, ⟨some 2, none, .move (.c (.bool false)), []⟩]) (.seq (.region g27 [⟨some 3, none, .fldA 0 (.s 1), []⟩, ⟨some 4, none, .load 1 false (.s 3), []⟩, ⟨some 5, none, .bin (.geq) (.s 4) (.c (.int .i64 0)), []⟩, ⟨some 6, none, .move (.s 5), []⟩, ⟨some 7, some (6, true), .fldA 0 (.s 1), []⟩, ⟨some 8, some (6, true), .load 1 false (.s 7), []⟩, ⟨some 9, some (6, true), .bin (.leq) (.s 8) (.c (.int .i64 32767)), []⟩, ⟨some 10, none, .pick (.s 6) (.s 9) (.c (.bool false)), []⟩, ⟨some 11, none, .move (.s 10), []⟩, ⟨some 12, some (11, true), .fldA 1 (.s 1), []⟩, ⟨some 13, some (11, true), .load 1 false (.s 12), []⟩, ⟨some 14, some (11, true), .bin (.geq) (.s 13) (.c (.int .i64 0)), []⟩, ⟨some 15, none, .pick (.s 11) (.s 14) (.c (.bool false)), []⟩, ⟨some 16, none, .move (.s 15), []⟩, ⟨some 17, some (16, true), .fldA 1 (.s 1), []⟩, ⟨some 18, some (16, true), .load 1 false (.s 17), []⟩, ⟨some 19, some (16, true), .bin (.leq) (.s 18) (.c (.int .i64 32767)), []⟩, ⟨some 20, none, .pick (.s 16) (.s 19) (.c (.bool false)), []⟩, ⟨some 2, none, .move (.s 20), []⟩]) .ret)
def r27 : List SRes := [.slot 2]
def k27 : List (Nat × Nat × SCode × Nat) := []
theorem e27 : cFunc Try.prog 27 g27 [] [] k27 = some (c27, r27, 21) := by kernel_rfl
theorem q27 : RgOk Try.prog k27 := RgOk.nil
def OnR : Eng.Spec where
  X := Int × Int
  args := fun x => .cons (ptE x) .nil
  pre := fun _ => True
  res := fun x => .bool (onB x)
  inst := fun
    | .cons a .nil => ptD a
    | _ => none
theorem OnR_ok : OnR.Ok Try.prog 27 := by
  refine Eng.Spec.ok_of e27 q27 (fun _ => []) (fun _ _ => TabOk.nil) ?_
  intro (x : Int × Int) _
  refine ⟨trivial, ?_⟩
  show _ = _
  refine (pickB_and _ _ _ _).trans ?_
  refine (congrArg (· && _) ((pickB_and _ _ _ _).trans (congrArg (· && _) (pickB_and _ _ _ _)))).trans ?_
  rw [Bool.eq_iff_iff, onB_iff]
  simp only [Bool.and_eq_true, decide_eq_true_eq]
  omega
/-- gazetteer/gazetteerref07.Dist -/
def g35 : List Nat := [0, 1, 12, 2, 3, 4]
def c35 : SCode :=
  .seq (.region g35 [⟨some 2, none, .box 38 (.s 0), []⟩, ⟨some 3, none, .box 38 (.s 1), []⟩, ⟨some 4, none, .move (.c (.int .i64 0)), []⟩]) (.seq (.seq (.region g35 [⟨some 5, none, .load 2 true (.s 2), []⟩, ⟨some 6, none, .call (.c (.fn 27)) [.s 5], []⟩, ⟨some 7, none, .not (.s 6), []⟩, ⟨some 8, none, .move (.s 7), []⟩, ⟨some 9, some (8, false), .load 2 true (.s 3), []⟩, ⟨some 10, some (8, false), .call (.c (.fn 27)) [.s 9], []⟩, ⟨some 11, some (8, false), .not (.s 10), []⟩, ⟨some 12, none, .pick (.s 8) (.c (.bool true)) (.s 11), []⟩]) (.cond (.s 12) (.seq (.region g35 [⟨some 4, none, .move (.c (.int .i64 0)), []⟩]) .ret) .skip)) (.seq (.region g35 [⟨some 13, none, .fldA 0 (.s 2), []⟩, ⟨some 14, none, .load 1 false (.s 13), []⟩, ⟨some 15, none, .fldA 0 (.s 3), []⟩, ⟨some 16, none, .load 1 false (.s 15), []⟩, ⟨some 17, none, .bin (.sub) (.s 14) (.s 16), []⟩, ⟨some 18, none, .fldA 0 (.s 2), []⟩, ⟨some 19, none, .load 1 false (.s 18), []⟩, ⟨some 20, none, .fldA 0 (.s 3), []⟩, ⟨some 21, none, .load 1 false (.s 20), []⟩, ⟨some 22, none, .bin (.sub) (.s 19) (.s 21), []⟩, ⟨some 23, none, .bin (.mul) (.s 17) (.s 22), []⟩, ⟨some 24, none, .fldA 1 (.s 2), []⟩, ⟨some 25, none, .load 1 false (.s 24), []⟩, ⟨some 26, none, .fldA 1 (.s 3), []⟩, ⟨some 27, none, .load 1 false (.s 26), []⟩, ⟨some 28, none, .bin (.sub) (.s 25) (.s 27), []⟩, ⟨some 29, none, .fldA 1 (.s 2), []⟩, ⟨some 30, none, .load 1 false (.s 29), []⟩, ⟨some 31, none, .fldA 1 (.s 3), []⟩, ⟨some 32, none, .load 1 false (.s 31), []⟩, ⟨some 33, none, .bin (.sub) (.s 30) (.s 32), []⟩, ⟨some 34, none, .bin (.mul) (.s 28) (.s 33), []⟩, ⟨some 35, none, .bin (.add) (.s 23) (.s 34), []⟩, ⟨some 4, none, .move (.s 35), []⟩]) .ret))
def r35 : List SRes := [.slot 4]
def k35 : List (Nat × Nat × SCode × Nat) := []
theorem e35 : cFunc Try.prog 35 g35 [] [] k35 = some (c35, r35, 36) := by kernel_rfl
theorem q35 : RgOk Try.prog k35 := RgOk.nil
def DistR : Eng.Spec where
  X := (Int × Int) × (Int × Int)
  args := fun x => .cons (ptE x.1) (.cons (ptE x.2) .nil)
  pre := fun _ => True
  res := fun x => .int .i64 (distV x.1 x.2)
  inst := fun
    | .cons a (.cons b .nil) => match ptD a, ptD b with
      | some p, some q => some (p, q)
      | _, _ => none
    | _ => none
theorem DistR_ok : DistR.Ok Try.prog 35 := by
  refine Eng.Spec.ok_of e35 q35 (fun _ => [(27, .p OnR)]) (fun _ _ => TabOk.p OnR_ok TabOk.nil) ?_
  intro (x : (Int × Int) × (Int × Int)) _
  refine ⟨trivial, ?_⟩
  repeat' (first | exact trivial | refine And.intro ?_ ?_ | exact rfl | intro hb)
  · have hb' : ¬ (onB x.1 = true ∧ onB x.2 = true) := by
      replace hb : (!onB x.1 || !onB x.2) = true := (pickB_or _ _ _ _).symm.trans hb
      rintro ⟨h1, h2⟩
      rw [h1, h2] at hb
      cases hb
    have e : distV x.1 x.2 = 0 := if_neg hb'
    show _ = _
    exact e.symm
  all_goals
    have hb' : onB x.1 = true ∧ onB x.2 = true := by
      replace hb : (!onB x.1 || !onB x.2) = false := (pickB_or _ _ _ _).symm.trans hb
      simpa using hb
    have h1 := onB_iff.1 hb'.1
    have h2 := onB_iff.1 hb'.2
    have k1 := mul_bd (a := x.1.1 - x.2.1) (b := x.1.1 - x.2.1) (B := 32767) (by omega) (by omega) (by omega) (by omega)
    have k2 := mul_bd (a := x.1.2 - x.2.2) (b := x.1.2 - x.2.2) (B := 32767) (by omega) (by omega) (by omega) (by omega)
    first
    | omega
    | (dsimp only; omega)
    | (have e : distV x.1 x.2 = sqd x.1 x.2 := if_pos hb'
       have e2 : sqd x.1 x.2 = (x.1.1 - x.2.1) * (x.1.1 - x.2.1) + (x.1.2 - x.2.2) * (x.1.2 - x.2.2) := by
         unfold sqd
         rw [← Int.neg_mul_neg (x.1.1 - x.2.1), ← Int.neg_mul_neg (x.1.2 - x.2.2), Int.neg_sub, Int.neg_sub]
       show _ = _
       exact (e.trans e2).symm)
/-- gazetteer/gazetteerref39.reach -/
def g37 : List Nat := [5, 1, 0, 4]
def c37 : SCode :=
  .seq (.region g37 [⟨some 4, none, .move (.c (.int .i64 0)), []⟩]) (.seq (.region g37 [⟨some 6, none, .move (.s 0), []⟩, ⟨some 7, none, .bin (.quo) (.s 6) (.c (.int .i64 1024)), []⟩, ⟨some 5, none, .move (.s 7), []⟩]) (.seq (.region g37 [⟨some 8, none, .move (.s 0), []⟩, ⟨some 9, none, .move (.s 5), []⟩, ⟨some 10, none, .move (.s 1), []⟩, ⟨some 11, none, .bin (.sub) (.s 9) (.s 10), []⟩, ⟨some 12, none, .bin (.mul) (.c (.int .i64 1024)) (.s 11), []⟩, ⟨some 13, none, .bin (.sub) (.s 8) (.s 12), []⟩, ⟨some 14, none, .bin (.add) (.s 13) (.c (.int .i64 1)), []⟩, ⟨some 15, none, .move (.s 5), []⟩, ⟨some 16, none, .move (.s 1), []⟩, ⟨some 17, none, .bin (.add) (.s 15) (.s 16), []⟩, ⟨some 18, none, .bin (.mul) (.c (.int .i64 1024)) (.s 17), []⟩, ⟨some 19, none, .bin (.add) (.s 18) (.c (.int .i64 1024)), []⟩, ⟨some 20, none, .move (.s 0), []⟩, ⟨some 21, none, .bin (.sub) (.s 19) (.s 20), []⟩, ⟨some 22, none, .mm false (.s 14) (.s 21), []⟩, ⟨some 4, none, .move (.s 22), []⟩]) .ret))
def r37 : List SRes := [.slot 4]
def k37 : List (Nat × Nat × SCode × Nat) := []
theorem e37 : cFunc Try.prog 37 g37 [] [] k37 = some (c37, r37, 23) := by kernel_rfl
theorem q37 : RgOk Try.prog k37 := RgOk.nil
def reachV (x r : Int) : Int := min (x - 1024 * (x / 1024 - r) + 1) (1024 * (x / 1024 + r + 1) - x)
def reachR : Eng.Spec where
  X := Int × Int
  args := fun x => .cons (.int .i64 x.1) (.cons (.int .i64 x.2) .nil)
  pre := fun x => (0 ≤ x.1 ∧ x.1 ≤ 32767) ∧ (0 ≤ x.2 ∧ x.2 ≤ 64)
  res := fun x => .int .i64 (reachV x.1 x.2)
  inst := fun
    | .cons (.int _ a) (.cons (.int _ b) .nil) => some (a, b)
    | _ => none
theorem reachR_ok : reachR.Ok Try.prog 37 := by
  refine Eng.Spec.ok_of e37 q37 (fun _ => []) (fun _ _ => TabOk.nil) ?_
  intro (x : Int × Int) ⟨h1, h2⟩
  have e1 : x.1.tdiv 1024 = x.1 / 1024 := Int.tdiv_eq_ediv_of_nonneg h1.1
  refine ⟨trivial, ?_⟩
  repeat' (first | exact trivial | refine And.intro ?_ ?_ | exact rfl | omega | (dsimp only; omega))
  all_goals
    show _ = _
    unfold reachV
    omega
/-- gazetteer/gazetteerref39.cells -/
def g36 : List Nat := [0, 5, 1, 4]
def c36 : SCode :=
  .seq (.region g36 [⟨some 4, none, .move (.c (.int .i64 0)), []⟩]) (.seq (.region g36 [⟨some 6, none, .move (.s 0), []⟩, ⟨some 7, none, .bin (.quo) (.s 6) (.c (.int .i64 1024)), []⟩, ⟨some 5, none, .move (.s 7), []⟩]) (.seq (.region g36 [⟨some 8, none, .move (.s 5), []⟩, ⟨some 9, none, .move (.s 1), []⟩, ⟨some 10, none, .bin (.add) (.s 8) (.s 9), []⟩, ⟨some 11, none, .mm false (.c (.int .i64 31)) (.s 10), []⟩, ⟨some 12, none, .move (.s 5), []⟩, ⟨some 13, none, .move (.s 1), []⟩, ⟨some 14, none, .bin (.sub) (.s 12) (.s 13), []⟩, ⟨some 15, none, .mm true (.c (.int .i64 0)) (.s 14), []⟩, ⟨some 16, none, .bin (.sub) (.s 11) (.s 15), []⟩, ⟨some 17, none, .bin (.add) (.s 16) (.c (.int .i64 1)), []⟩, ⟨some 4, none, .move (.s 17), []⟩]) .ret))
def r36 : List SRes := [.slot 4]
def k36 : List (Nat × Nat × SCode × Nat) := []
theorem e36 : cFunc Try.prog 36 g36 [] [] k36 = some (c36, r36, 18) := by kernel_rfl
theorem q36 : RgOk Try.prog k36 := RgOk.nil
def cellsV (x r : Int) : Int := min 31 (x / 1024 + r) - max 0 (x / 1024 - r) + 1
def cellsR : Eng.Spec where
  X := Int × Int
  args := fun x => .cons (.int .i64 x.1) (.cons (.int .i64 x.2) .nil)
  pre := fun x => (0 ≤ x.1 ∧ x.1 ≤ 32767) ∧ (0 ≤ x.2 ∧ x.2 ≤ 64)
  res := fun x => .int .i64 (cellsV x.1 x.2)
  inst := fun
    | .cons (.int _ a) (.cons (.int _ b) .nil) => some (a, b)
    | _ => none
theorem cellsR_ok : cellsR.Ok Try.prog 36 := by
  refine Eng.Spec.ok_of e36 q36 (fun _ => []) (fun _ _ => TabOk.nil) ?_
  intro (x : Int × Int) ⟨h1, h2⟩
  have e1 : x.1.tdiv 1024 = x.1 / 1024 := Int.tdiv_eq_ediv_of_nonneg h1.1
  refine ⟨trivial, ?_⟩
  repeat' (first | exact trivial | refine And.intro ?_ ?_ | exact rfl | omega | (dsimp only; omega))
  all_goals
    show _ = _
    unfold cellsV
    omega
/-- gazetteer/gazetteerref04.letter -/
def g42 : List Nat := [0, 2]
def c42 : SCode :=
  .seq (.region g42 [⟨some 2, none, .move (.c (.bool false)), []⟩]) (.seq (.region g42 [⟨some 3, none, .move (.s 0), []⟩, ⟨some 4, none, .bin (.geq) (.s 3) (.c (.int (.u8) 97)), []⟩, ⟨some 5, none, .move (.s 4), []⟩, ⟨some 6, some (5, true), .move (.s 0), []⟩, ⟨some 7, some (5, true), .bin (.leq) (.s 6) (.c (.int (.u8) 122)), []⟩, ⟨some 8, none, .pick (.s 5) (.s 7) (.c (.bool false)), []⟩, ⟨some 9, none, .move (.s 8), []⟩, ⟨some 10, some (9, false), .move (.s 0), []⟩, ⟨some 11, some (9, false), .bin (.geq) (.s 10) (.c (.int (.u8) 65)), []⟩, ⟨some 12, some (9, false), .move (.s 11), []⟩, ⟨some 13, some (12, true), .move (.s 0), []⟩, ⟨some 14, some (12, true), .bin (.leq) (.s 13) (.c (.int (.u8) 90)), []⟩, ⟨some 15, some (9, false), .pick (.s 12) (.s 14) (.c (.bool false)), []⟩, ⟨some 16, none, .pick (.s 9) (.c (.bool true)) (.s 15), []⟩, ⟨some 2, none, .move (.s 16), []⟩]) .ret)
def r42 : List SRes := [.slot 2]
def k42 : List (Nat × Nat × SCode × Nat) := []
theorem e42 : cFunc Try.prog 42 g42 [] [] k42 = some (c42, r42, 17) := by kernel_rfl
theorem q42 : RgOk Try.prog k42 := RgOk.nil
def byteD : SV → Option Int
  | .cons (.int _ a) .nil => some a
  | _ => none
def letterB (c : Int) : Bool := decide (97 ≤ c) && decide (c ≤ 122) || decide (65 ≤ c) && decide (c ≤ 90)
def letter : Eng.Spec where
  X := Int
  args := fun x => .cons (.int .u8 x) .nil
  pre := fun _ => True
  res := fun x => .bool (letterB x)
  inst := byteD
theorem letter_ok : letter.Ok Try.prog 42 := by
  refine Eng.Spec.ok_of e42 q42 (fun _ => []) (fun _ _ => TabOk.nil) ?_
  intro (x : Int) _
  refine ⟨trivial, ?_⟩
  show _ = _
  refine (pickB_or _ _ _ _).trans ?_
  exact (congrArg (· || _) (pickB_and _ _ _ _)).trans (congrArg (_ || ·) (pickB_and _ _ _ _))
/-- gazetteer/gazetteerref04.digit -/
def g48 : List Nat := [0, 2]
def c48 : SCode :=
  .seq (.region g48 [⟨some 2, none, .move (.c (.bool false)), []⟩]) (.seq (.region g48 [⟨some 3, none, .move (.s 0), []⟩, ⟨some 4, none, .bin (.geq) (.s 3) (.c (.int (.u8) 48)), []⟩, ⟨some 5, none, .move (.s 4), []⟩, ⟨some 6, some (5, true), .move (.s 0), []⟩, ⟨some 7, some (5, true), .bin (.leq) (.s 6) (.c (.int (.u8) 57)), []⟩, ⟨some 8, none, .pick (.s 5) (.s 7) (.c (.bool false)), []⟩, ⟨some 2, none, .move (.s 8), []⟩]) .ret)
def r48 : List SRes := [.slot 2]
def k48 : List (Nat × Nat × SCode × Nat) := []
theorem e48 : cFunc Try.prog 48 g48 [] [] k48 = some (c48, r48, 9) := by kernel_rfl
theorem q48 : RgOk Try.prog k48 := RgOk.nil
def digitB (c : Int) : Bool := decide (48 ≤ c) && decide (c ≤ 57)
def digit : Eng.Spec where
  X := Int
  args := fun x => .cons (.int .u8 x) .nil
  pre := fun _ => True
  res := fun x => .bool (digitB x)
  inst := byteD
theorem digit_ok : digit.Ok Try.prog 48 := by
  refine Eng.Spec.ok_of e48 q48 (fun _ => []) (fun _ _ => TabOk.nil) ?_
  intro (x : Int) _
  refine ⟨trivial, ?_⟩
  show _ = _
  exact pickB_and _ _ _ _
/-- gazetteer/gazetteerref04.word -/
def g41 : List Nat := [0, 2]
def c41 : SCode :=
  .seq (.region g41 [⟨some 2, none, .move (.c (.bool false)), []⟩]) (.seq (.region g41 [⟨some 3, none, .move (.s 0), []⟩, ⟨some 4, none, .call (.c (.fn 42)) [.s 3], []⟩, ⟨some 5, none, .move (.s 4), []⟩, ⟨some 6, some (5, false), .move (.s 0), []⟩, ⟨some 7, some (5, false), .call (.c (.fn 48)) [.s 6], []⟩, ⟨some 8, none, .pick (.s 5) (.c (.bool true)) (.s 7), []⟩, ⟨some 9, none, .move (.s 8), []⟩, ⟨some 10, some (9, false), .move (.s 0), []⟩, ⟨some 11, some (9, false), .bin (.eql) (.s 10) (.c (.int (.u8) 95)), []⟩, ⟨some 12, none, .pick (.s 9) (.c (.bool true)) (.s 11), []⟩, ⟨some 2, none, .move (.s 12), []⟩]) .ret)
def r41 : List SRes := [.slot 2]
def k41 : List (Nat × Nat × SCode × Nat) := []
theorem e41 : cFunc Try.prog 41 g41 [] [] k41 = some (c41, r41, 13) := by kernel_rfl
theorem q41 : RgOk Try.prog k41 := RgOk.nil
def wordB (c : Int) : Bool := letterB c || digitB c || decide (c = 95)
def word : Eng.Spec where
  X := Int
  args := fun x => .cons (.int .u8 x) .nil
  pre := fun _ => True
  res := fun x => .bool (wordB x)
  inst := byteD
theorem word_ok : word.Ok Try.prog 41 := by
  refine Eng.Spec.ok_of e41 q41 (fun _ => [(42, .p letter), (48, .p digit)]) (fun _ _ => TabOk.p letter_ok (TabOk.p digit_ok TabOk.nil)) ?_
  intro (x : Int) _
  refine ⟨trivial, ?_⟩
  repeat' (first | exact trivial | refine And.intro ?_ ?_ | exact rfl | refine fun hb => ?_)
/-- gazetteer/reverse.reach$1 -/
def g44 : List Nat := [1, 2, 0, 5]
def c44 : SCode :=
  .seq (.region g44 [⟨some 5, none, .move (.c (.int .i64 0)), []⟩]) (.seq (.region g44 [⟨some 6, none, .move (.s 0), []⟩, ⟨some 7, none, .move (.s 1), []⟩, ⟨some 8, none, .load 1 false (.s 2), []⟩, ⟨some 9, none, .bin (.sub) (.s 7) (.s 8), []⟩, ⟨some 10, none, .bin (.mul) (.c (.int .i64 1024)) (.s 9), []⟩, ⟨some 11, none, .bin (.sub) (.s 6) (.s 10), []⟩, ⟨some 12, none, .bin (.add) (.s 11) (.c (.int .i64 1)), []⟩, ⟨some 13, none, .move (.s 1), []⟩, ⟨some 14, none, .load 1 false (.s 2), []⟩, ⟨some 15, none, .bin (.add) (.s 13) (.s 14), []⟩, ⟨some 16, none, .bin (.add) (.s 15) (.c (.int .i64 1)), []⟩, ⟨some 17, none, .bin (.mul) (.c (.int .i64 1024)) (.s 16), []⟩, ⟨some 18, none, .move (.s 0), []⟩, ⟨some 19, none, .bin (.sub) (.s 17) (.s 18), []⟩, ⟨some 20, none, .mm false (.s 12) (.s 19), []⟩, ⟨some 5, none, .move (.s 20), []⟩]) .ret)
def r44 : List SRes := [.slot 5]
def k44 : List (Nat × Nat × SCode × Nat) := []
theorem e44 : cFunc Try.prog 44 g44 [] [] k44 = some (c44, r44, 21) := by kernel_rfl
theorem q44 : RgOk Try.prog k44 := RgOk.nil
def reach1 (r : Int) : Eng.Spec where
  X := Int × Int
  args := fun x => .cons (.int .i64 x.1) (.cons (.int .i64 x.2) (.cons (.cptr (.cons (.int .i64 r) .nil)) .nil))
  pre := fun x => (0 ≤ x.1 ∧ x.1 ≤ 32767) ∧ (0 ≤ x.2 ∧ x.2 ≤ 64)
  res := fun x => .int .i64 (min (x.1 - 1024 * (x.2 - r) + 1) (1024 * (x.2 + r + 1) - x.1))
  inst := fun
    | .cons (.int _ a) (.cons (.int _ b) _) => some (a, b)
    | _ => none
theorem reach1_ok (r : Int) (h3 : 0 ≤ r ∧ r ≤ 64) : (reach1 r).Ok Try.prog 44 := by
  refine Eng.Spec.ok_of e44 q44 (fun _ => []) (fun _ _ => TabOk.nil) ?_
  intro (x : Int × Int) ⟨h1, h2⟩
  refine ⟨trivial, ?_⟩
  repeat' (first | exact trivial | refine And.intro ?_ ?_ | exact rfl | omega | (dsimp only; omega))
/-- gazetteer/reverse.reach -/
def g30 : List Nat := [0, 1, 3, 6, 2, 5, 4]
def c30 : SCode :=
  .seq (.region g30 [⟨some 2, none, .box 38 (.s 0), []⟩, ⟨some 3, none, .box 3 (.s 1), []⟩, ⟨some 4, none, .move (.c (.int .i64 0)), []⟩]) (.seq (.region g30 [⟨some 7, none, .load 2 true (.s 2), []⟩, ⟨some 8, none, .call (.c (.fn 25)) [.s 7], []⟩, ⟨some 5, none, .alloc 65 (.cons (.int .i64 0) (.cons (.int .i64 0) .nil)), []⟩, ⟨none, none, .store 2 (.s 5) (.s 8), []⟩]) (.seq (.region g30 [⟨some 9, none, .mkfn 44 [.s 3], []⟩, ⟨some 6, none, .move (.s 9), []⟩]) (.seq (.drawn g30 (.pure 0 ⟨some 10, none, .move (.s 6), []⟩ (.pure 1 ⟨some 11, none, .fldA 0 (.s 2), []⟩ (.pure 2 ⟨some 12, none, .load 1 false (.s 11), []⟩ (.pure 3 ⟨some 13, none, .idxArr 2 1 (.s 5) (.c (.int .i64 0)), []⟩ (.pure 4 ⟨some 14, none, .load 1 false (.s 13), []⟩ (.pure 5 ⟨some 15, none, .call (.s 10) [.s 12, .s 14], []⟩ (.pure 6 ⟨some 16, none, .move (.s 6), []⟩ (.pure 7 ⟨some 17, none, .fldA 1 (.s 2), []⟩ (.pure 8 ⟨some 18, none, .load 1 false (.s 17), []⟩ (.pure 9 ⟨some 19, none, .idxArr 2 1 (.s 5) (.c (.int .i64 1)), []⟩ (.pure 10 ⟨some 20, none, .load 1 false (.s 19), []⟩ (.pure 11 ⟨some 21, none, .call (.s 16) [.s 18, .s 20], []⟩ (.pure 12 ⟨some 22, none, .mm false (.s 15) (.s 21), []⟩ (.pure 13 ⟨some 4, none, .move (.s 22), []⟩ .done))))))))))))))) .ret)))
def r30 : List SRes := [.slot 4]
def k30 : List (Nat × Nat × SCode × Nat) := []
theorem e30 : cFunc Try.prog 30 g30 [] [] k30 = some (c30, r30, 23) := by kernel_rfl
theorem q30 : RgOk Try.prog k30 := RgOk.nil
def reachP (p : Int × Int) (r : Int) : Int := min (reachV p.1 r) (reachV p.2 r)
def reach : Eng.Spec where
  X := (Int × Int) × Int
  args := fun x => .cons (ptE x.1) (.cons (.int .i64 x.2) .nil)
  pre := fun x => onB x.1 = true ∧ 0 ≤ x.2 ∧ x.2 ≤ 64
  res := fun x => .int .i64 (reachP x.1 x.2)
  inst := fun
    | .cons a (.cons (.int _ c) .nil) => match ptD a with
      | some p => some (p, c)
      | _ => none
    | _ => none
theorem reach_ok : reach.Ok Try.prog 30 := by
  refine Eng.Spec.ok_of e30 q30 (fun (x : (Int × Int) × Int) => [(25, .p ofP), (44, .p (reach1 x.2))]) (fun x (h : onB x.1 = true ∧ 0 ≤ x.2 ∧ x.2 ≤ 64) => TabOk.p ofP_ok (TabOk.p (reach1_ok x.2 h.2) TabOk.nil)) ?_
  intro (x : (Int × Int) × Int) ⟨h0, h2, h3⟩
  have h1 := onB_iff.1 h0
  refine ⟨trivial, ?_⟩
  repeat' (first | exact trivial | refine And.intro ?_ ?_ | exact rfl | exact h0 | omega | (dsimp only; omega) | refine fun hb => ?_)
/-- cmp.isNaN[string] -/
def g47 : List Nat := [0, 2]
def c47 : SCode :=
  .seq (.region g47 [⟨some 2, none, .move (.c (.bool false)), []⟩]) (.seq (.region g47 [⟨some 3, none, .move (.s 0), []⟩, ⟨some 4, none, .move (.s 0), []⟩, ⟨some 5, none, .bin (.neq) (.s 3) (.s 4), []⟩, ⟨some 2, none, .move (.s 5), []⟩]) .ret)
def r47 : List SRes := [.slot 2]
def k47 : List (Nat × Nat × SCode × Nat) := []
theorem e47 : cFunc Try.prog 47 g47 [] [] k47 = some (c47, r47, 6) := by kernel_rfl
theorem q47 : RgOk Try.prog k47 := RgOk.nil
def strD : SV → Option (List UInt8)
  | .cons (.str s) .nil => some s
  | _ => none
def isNaN : Eng.Spec where
  X := List UInt8
  args := fun x => .cons (.str x) .nil
  pre := fun _ => True
  res := fun _ => .bool false
  inst := strD
theorem isNaN_ok : isNaN.Ok Try.prog 47 := by
  refine Eng.Spec.ok_of e47 q47 (fun _ => []) (fun _ _ => TabOk.nil) ?_
  intro (x : List UInt8) _
  refine ⟨trivial, ?_⟩
  show _ = _
  exact congrArg (!·) (decide_eq_true rfl)
/-- cmp.Compare[string] -/
def g34 : List Nat := [5, 11, 12, 6, 13, 16, 0, 1, 19, 4]
def c34 : SCode :=
  .seq (.region g34 [⟨some 4, none, .move (.c (.int .i64 0)), []⟩]) (.seq (.region g34 [⟨some 7, none, .move (.s 0), []⟩, ⟨some 8, none, .call (.c (.fn 47)) [.s 7], []⟩, ⟨some 5, none, .move (.s 8), []⟩]) (.seq (.region g34 [⟨some 9, none, .move (.s 1), []⟩, ⟨some 10, none, .call (.c (.fn 47)) [.s 9], []⟩, ⟨some 6, none, .move (.s 10), []⟩]) (.seq (.seq (.region g34 [⟨some 11, none, .move (.s 5), []⟩]) (.cond (.s 11) (.seq (.seq (.region g34 [⟨some 12, none, .move (.s 6), []⟩]) (.cond (.s 12) (.seq (.region g34 [⟨some 4, none, .move (.c (.int .i64 0)), []⟩]) .ret) .skip)) (.seq (.region g34 [⟨some 4, none, .move (.c (.int .i64 (-1))), []⟩]) .ret)) .skip)) (.seq (.seq (.region g34 [⟨some 13, none, .move (.s 6), []⟩]) (.cond (.s 13) (.seq (.region g34 [⟨some 4, none, .move (.c (.int .i64 1)), []⟩]) .ret) .skip)) (.seq (.seq (.region g34 [⟨some 14, none, .move (.s 0), []⟩, ⟨some 15, none, .move (.s 1), []⟩, ⟨some 16, none, .bin (.lss) (.s 14) (.s 15), []⟩]) (.cond (.s 16) (.seq (.region g34 [⟨some 4, none, .move (.c (.int .i64 (-1))), []⟩]) .ret) .skip)) (.seq (.seq (.region g34 [⟨some 17, none, .move (.s 0), []⟩, ⟨some 18, none, .move (.s 1), []⟩, ⟨some 19, none, .bin (.gtr) (.s 17) (.s 18), []⟩]) (.cond (.s 19) (.seq (.region g34 [⟨some 4, none, .move (.c (.int .i64 1)), []⟩]) .ret) .skip)) (.seq (.region g34 [⟨some 4, none, .move (.c (.int .i64 0)), []⟩]) .ret)))))))
def r34 : List SRes := [.slot 4]
def k34 : List (Nat × Nat × SCode × Nat) := []
theorem e34 : cFunc Try.prog 34 g34 [] [] k34 = some (c34, r34, 20) := by kernel_rfl
theorem q34 : RgOk Try.prog k34 := RgOk.nil
def cmpB (a b : List UInt8) : Int := if Op.bytesLess a b = true then -1 else if a = b then 0 else 1
def Compare : Eng.Spec where
  X := List UInt8 × List UInt8
  args := fun x => .cons (.str x.1) (.cons (.str x.2) .nil)
  pre := fun _ => True
  res := fun x => .int .i64 (cmpB x.1 x.2)
  inst := fun
    | .cons (.str a) (.cons (.str b) .nil) => some (a, b)
    | _ => none
theorem Compare_ok : Compare.Ok Try.prog 34 := by
  refine Eng.Spec.ok_of e34 q34 (fun _ => [(47, .p isNaN)]) (fun _ _ => TabOk.p isNaN_ok TabOk.nil) ?_
  intro (x : List UInt8 × List UInt8) _
  refine ⟨trivial, ?_⟩
  repeat' (first | exact trivial | refine And.intro ?_ ?_ | exact rfl | refine fun hb => ?_)
  all_goals (first | contradiction | skip)
  · have e : cmpB x.1 x.2 = -1 := if_pos hb
    show _ = _
    exact e.symm
  · rename_i h1
    replace hb : (!(Op.bytesLess x.1 x.2 || decide (x.1 = x.2))) = true := hb
    rw [h1] at hb
    have e : cmpB x.1 x.2 = 1 := by
      unfold cmpB
      rw [h1, if_neg (by decide), if_neg (by simpa using hb)]
    show _ = _
    exact e.symm
  · rename_i h1
    replace hb : (!(Op.bytesLess x.1 x.2 || decide (x.1 = x.2))) = false := hb
    rw [h1] at hb
    have e : cmpB x.1 x.2 = 0 := by
      unfold cmpB
      rw [h1, if_neg (by decide), if_pos (by simpa using hb)]
    show _ = _
    exact e.symm
end R3
