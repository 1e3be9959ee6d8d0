/- A part of the proof: see the last text. -/
import Derived.Test.YtcckdpimimkejaaG1
open Go Go.Eng Go.Proofs G1
set_option maxRecDepth 100000
namespace G2
theorem not_t {b : Bool} (h : (!b) = true) : b = false := by cases b <;> first | rfl | cases h
theorem not_f {b : Bool} (h : (!b) = false) : b = true := by cases b <;> first | rfl | cases h
/-- Two points are the same. -/
def eqP (p q : Pt) : Bool := decide (p.1 = q.1) && (decide (p.2 = q.2) && true)
theorem eqP_iff {p q : Pt} : eqP p q = true ↔ p = q := by
  obtain ⟨a, b⟩ := p
  obtain ⟨c, d⟩ := q
  unfold eqP
  simp
/-- A point on a segment, all on the grid. -/
def onS (p a b : Pt) : Bool := eqP p a || eqP p b || (decide (sgn (ar a b p) = 0) && decide (dot (vec p a) (vec p b) < 0))
def betV (p a b : Pt) : Bool := onB p && onB a && onB b && onS p a b
def Between : Eng.Spec where
  X := Pt × Pt × Pt
  args := fun x => .cons (ptE x.1) (.cons (ptE x.2.1) (.cons (ptE x.2.2) .nil))
  pre := fun _ => True
  res := fun x => .bool (betV x.1 x.2.1 x.2.2)
  inst := three
/-- gazetteer/geom.Between -/
def g26 : List Nat := [0, 1, 2, 13, 21, 7, 4, 3, 5, 6]
def c26 : SCode :=
  .seq (.region g26 [⟨some 3, none, .box 24 (.s 0), []⟩, ⟨some 4, none, .box 24 (.s 1), []⟩, ⟨some 5, none, .box 24 (.s 2), []⟩, ⟨some 6, none, .move (.c (.bool false)), []⟩]) (.seq (.seq (.region g26 [⟨some 8, none, .load 2 true (.s 3), []⟩, ⟨some 9, none, .load 2 true (.s 4), []⟩, ⟨some 10, none, .load 2 true (.s 5), []⟩, ⟨some 11, none, .buildSl 24 2 3 (.cons (.int .i64 0) (.cons (.int .i64 0) .nil)) [(0, 2, .s 8), (2, 2, .s 9), (4, 2, .s 10)], []⟩, ⟨some 12, none, .call (.c (.fn 52)) [.s 11], []⟩, ⟨some 13, none, .not (.s 12), []⟩]) (.cond (.s 13) (.seq (.region g26 [⟨some 6, none, .move (.c (.bool false)), []⟩]) .ret) .skip)) (.seq (.seq (.region g26 [⟨some 14, none, .load 2 true (.s 3), []⟩, ⟨some 15, none, .load 2 true (.s 4), []⟩, ⟨some 16, none, .eqS false [(0, 1), (1, 1)] (.s 14) (.s 15), []⟩, ⟨some 17, none, .move (.s 16), []⟩, ⟨some 18, some (17, false), .load 2 true (.s 3), []⟩, ⟨some 19, some (17, false), .load 2 true (.s 5), []⟩, ⟨some 20, some (17, false), .eqS false [(0, 1), (1, 1)] (.s 18) (.s 19), []⟩, ⟨some 21, none, .pick (.s 17) (.c (.bool true)) (.s 20), []⟩]) (.cond (.s 21) (.seq (.region g26 [⟨some 6, none, .move (.c (.bool true)), []⟩]) .ret) .skip)) (.seq (.region g26 [⟨some 22, none, .load 2 true (.s 4), []⟩, ⟨some 23, none, .load 2 true (.s 5), []⟩, ⟨some 24, none, .call (.c (.fn 53)) [.s 22, .s 23], []⟩, ⟨some 7, none, .alloc 63 (.cons (.int .i64 0) (.cons (.int .i64 0) (.cons (.int .i64 0) (.cons (.int .i64 0) (.cons (.int .i64 0) (.cons (.int .i64 0) .nil)))))), []⟩, ⟨none, none, .store 6 (.s 7) (.s 24), []⟩]) (.seq (.drawn g26 (.pure 0 ⟨some 25, none, .load 6 true (.s 7), []⟩ (.pure 1 ⟨some 26, none, .load 2 true (.s 3), []⟩ (.pure 2 ⟨some 27, none, .call (.c (.fn 54)) [.s 25, .s 26], []⟩ (.pure 3 ⟨some 28, none, .bin (.eql) (.s 27) (.c (.int .i64 0)), []⟩ (.pure 4 ⟨some 29, none, .move (.s 28), []⟩ (.pure 5 ⟨some 30, some (29, true), .load 2 true (.s 3), []⟩ (.pure 6 ⟨some 31, some (29, true), .load 2 true (.s 4), []⟩ (.pure 7 ⟨some 32, some (29, true), .call (.c (.fn 55)) [.s 30, .s 31], []⟩ (.pure 8 ⟨some 33, some (29, true), .load 2 true (.s 3), []⟩ (.pure 9 ⟨some 34, some (29, true), .load 2 true (.s 5), []⟩ (.pure 10 ⟨some 35, some (29, true), .call (.c (.fn 55)) [.s 33, .s 34], []⟩ (.pure 11 ⟨some 36, some (29, true), .call (.c (.fn 56)) [.s 32, .s 35], []⟩ (.pure 12 ⟨some 37, some (29, true), .bin (.lss) (.s 36) (.c (.int .i64 0)), []⟩ (.pure 13 ⟨some 38, none, .pick (.s 29) (.s 37) (.c (.bool false)), []⟩ (.pure 14 ⟨some 6, none, .move (.s 38), []⟩ .done)))))))))))))))) .ret))))
def r26 : List SRes := [.slot 6]
def k26 : List (Nat × Nat × SCode × Nat) := []
theorem e26 : cFunc Try.prog 26 g26 [] [] k26 = some (c26, r26, 39) := by kernel_rfl
theorem q26 : RgOk Try.prog k26 := RgOk.nil
theorem Between_ok : Between.Ok Try.prog 26 := by
  refine Eng.Spec.ok_of e26 q26 (fun _ => [(52, .p on_), (53, .p open_), (54, .p side), (55, .p from_), (56, .p along)]) (fun _ _ => TabOk.p on_ok (TabOk.p open_ok (TabOk.p side_ok (TabOk.p from_ok (TabOk.p along_ok TabOk.nil))))) ?_
  rintro ⟨p, a, b⟩ _
  refine ⟨trivial, ?_⟩
  repeat' (first | refine And.intro ?_ ?_ | exact trivial | exact rfl)
  · show (3 : Int) ≤ _
    omega
  · refine fun (h : (!onAll ⟨3, sl1 (.cons (ptL p) (.cons (ptL a) (.cons (ptL b) .nil)))⟩) = true) => ?_
    rw [onAll3] at h
    have e : false = betV p a b := by
      unfold betV
      have h' : (onB p && onB a && onB b) = false := not_t h
      rw [h']
      rfl
    repeat' (first | exact e | refine And.intro ?_ ?_ | exact trivial | exact rfl)
  refine fun (h : (!onAll ⟨3, sl1 (.cons (ptL p) (.cons (ptL a) (.cons (ptL b) .nil)))⟩) = false) => ?_
  rw [onAll3] at h
  have h' : (onB p && onB a && onB b) = true := not_f h
  simp only [Bool.and_eq_true] at h'
  have h1 := h'.1.1
  have h2 := h'.1.2
  have h3 := h'.2
  have ev : betV p a b = onS p a b := by unfold betV; rw [h1, h2, h3]; rfl
  repeat' (first | exact h1 | exact h2 | exact h3 | refine And.intro ?_ ?_ | exact trivial | exact rfl)
  · refine fun (h : pickB (eqP p a) _ _ _ (eqP p b) = true) => ?_
    rw [pickB_or] at h
    have e : true = betV p a b := by rw [ev]; unfold onS; rw [h]; rfl
    repeat' (first | exact e | refine And.intro ?_ ?_ | exact trivial | exact rfl)
  refine fun (h : pickB (eqP p a) _ _ _ (eqP p b) = false) => ?_
  rw [pickB_or] at h
  have b1 := bd_vec h1 h2
  have b2 := bd_vec h1 h3
  have e : ∀ i j, pickB (decide (sgn (ar a b p) = 0)) (.s i) (.c (.bool false)) (decide (dot (vec p a) (vec p b) < 0)) j = betV p a b := fun i j => by
    cases j <;> rw [ev] <;> unfold onS <;> rw [h] <;> rfl
  repeat' (first | exact h1 | exact h2 | exact h3 | exact b1 | exact b2 | exact e _ _ | refine And.intro ?_ ?_ | exact trivial | exact rfl | (refine fun (_ : guardP _ _ _ _) => ?_))
/-- The sides of two points multiply to less than nothing. -/
def prt (a b p q : Pt) : Bool := decide (sgn (ar a b p) * sgn (ar a b q) < 0)
def parted : Eng.Spec where
  X := (Pt × Pt) × Pt × Pt
  args := fun x => .cons (.fn 1048630 (.cons (.agg (segL x.1.1 x.1.2)) .nil)) (.cons (ptE x.2.1) (.cons (ptE x.2.2) .nil))
  pre := fun x => (onB x.1.1 = true ∧ onB x.1.2 = true) ∧ onB x.2.1 = true ∧ onB x.2.2 = true
  res := fun x => .bool (prt x.1.1 x.1.2 x.2.1 x.2.2)
  inst := fun
    | .cons (.fn _ (.cons s .nil)) (.cons a (.cons b .nil)) => match segD s, ptD a, ptD b with
      | some p, some q, some r => some (p, q, r)
      | _, _, _ => none
    | _ => none
/-- gazetteer/geom.parted -/
def g73 : List Nat := [1, 2, 4, 0, 5, 6]
def c73 : SCode :=
  .seq (.region g73 [⟨some 4, none, .box 24 (.s 1), []⟩, ⟨some 5, none, .box 24 (.s 2), []⟩, ⟨some 6, none, .move (.c (.bool false)), []⟩]) (.seq (.drawn g73 (.pure 0 ⟨some 7, none, .move (.s 0), []⟩ (.pure 1 ⟨some 8, none, .load 2 true (.s 4), []⟩ (.pure 2 ⟨some 9, none, .call (.s 7) [.s 8], []⟩ (.pure 3 ⟨some 10, none, .move (.s 0), []⟩ (.pure 4 ⟨some 11, none, .load 2 true (.s 5), []⟩ (.pure 5 ⟨some 12, none, .call (.s 10) [.s 11], []⟩ (.pure 6 ⟨some 13, none, .bin (.mul) (.s 9) (.s 12), []⟩ (.pure 7 ⟨some 14, none, .bin (.lss) (.s 13) (.c (.int .i64 0)), []⟩ (.pure 8 ⟨some 6, none, .move (.s 14), []⟩ .done)))))))))) .ret)
def r73 : List SRes := [.slot 6]
def k73 : List (Nat × Nat × SCode × Nat) := []
theorem e73 : cFunc Try.prog 73 g73 [] [] k73 = some (c73, r73, 15) := by kernel_rfl
theorem q73 : RgOk Try.prog k73 := RgOk.nil
theorem sgn_bd (n : Int) : -1 ≤ sgn n ∧ sgn n ≤ 1 := by
  unfold sgn
  split
  · omega
  · split <;> omega
theorem parted_ok : parted.Ok Try.prog 73 := by
  refine Eng.Spec.ok_of e73 q73 (fun _ => [(54, .p side)]) (fun _ _ => TabOk.p side_ok TabOk.nil) ?_
  rintro ⟨⟨a, b⟩, p, q⟩ ⟨⟨h1, h2⟩, h3, h4⟩
  replace h1 : onB a = true := h1
  replace h2 : onB b = true := h2
  replace h3 : onB p = true := h3
  replace h4 : onB q = true := h4
  have k1 := sgn_bd (ar a b p)
  have k2 := sgn_bd (ar a b q)
  have k := mul_bd k1.1 k1.2 k2.1 k2.2
  have r1 : -9223372036854775808 ≤ sgn (ar a b p) * sgn (ar a b q) := by omega
  have r2 : sgn (ar a b p) * sgn (ar a b q) ≤ 9223372036854775807 := by omega
  refine ⟨trivial, ?_⟩
  repeat' (first | exact h1 | exact h2 | exact h3 | exact h4 | exact r1 | exact r2 | refine And.intro ?_ ?_ | exact trivial | exact rfl)
/-- gazetteer/geom.Cross -/
def g60 : List Nat := [0, 1, 2, 3, 17, 25, 9, 6, 7, 10, 4, 5, 48, 8]
def c60 : SCode :=
  .seq (.region g60 [⟨some 4, none, .box 24 (.s 0), []⟩, ⟨some 5, none, .box 24 (.s 1), []⟩, ⟨some 6, none, .box 24 (.s 2), []⟩, ⟨some 7, none, .box 24 (.s 3), []⟩, ⟨some 8, none, .move (.c (.int .i64 0)), []⟩]) (.seq (.seq (.drawn g60 (.pure 0 ⟨some 11, none, .load 2 true (.s 4), []⟩ (.pure 1 ⟨some 12, none, .load 2 true (.s 5), []⟩ (.pure 2 ⟨some 13, none, .call (.c (.fn 53)) [.s 11, .s 12], []⟩ (.pure 3 ⟨some 14, none, .load 2 true (.s 6), []⟩ (.pure 4 ⟨some 15, none, .load 2 true (.s 7), []⟩ (.pure 5 ⟨some 16, none, .call (.c (.fn 53)) [.s 14, .s 15], []⟩ (.eff 6 ⟨some 9, none, .alloc 63 (.cons (.int .i64 0) (.cons (.int .i64 0) (.cons (.int .i64 0) (.cons (.int .i64 0) (.cons (.int .i64 0) (.cons (.int .i64 0) .nil)))))), []⟩ [⟨some 16, none, .call (.c (.fn 53)) [.s 14, .s 15], []⟩, ⟨some 15, none, .load 2 true (.s 7), []⟩, ⟨some 14, none, .load 2 true (.s 6), []⟩, ⟨some 13, none, .call (.c (.fn 53)) [.s 11, .s 12], []⟩, ⟨some 12, none, .load 2 true (.s 5), []⟩, ⟨some 11, none, .load 2 true (.s 4), []⟩] (.eff 7 ⟨some 10, none, .alloc 63 (.cons (.int .i64 0) (.cons (.int .i64 0) (.cons (.int .i64 0) (.cons (.int .i64 0) (.cons (.int .i64 0) (.cons (.int .i64 0) .nil)))))), []⟩ [⟨some 16, none, .call (.c (.fn 53)) [.s 14, .s 15], []⟩, ⟨some 15, none, .load 2 true (.s 7), []⟩, ⟨some 14, none, .load 2 true (.s 6), []⟩, ⟨some 13, none, .call (.c (.fn 53)) [.s 11, .s 12], []⟩, ⟨some 12, none, .load 2 true (.s 5), []⟩, ⟨some 11, none, .load 2 true (.s 4), []⟩] (.eff 8 ⟨none, none, .store 6 (.s 9) (.s 13), []⟩ [] (.eff 9 ⟨none, none, .store 6 (.s 10) (.s 16), []⟩ [] .done .none) .none) .none) (.eff 7 ⟨some 10, none, .alloc 63 (.cons (.int .i64 0) (.cons (.int .i64 0) (.cons (.int .i64 0) (.cons (.int .i64 0) (.cons (.int .i64 0) (.cons (.int .i64 0) .nil)))))), []⟩ [⟨some 16, none, .call (.c (.fn 53)) [.s 14, .s 15], []⟩, ⟨some 15, none, .load 2 true (.s 7), []⟩, ⟨some 14, none, .load 2 true (.s 6), []⟩, ⟨some 13, none, .call (.c (.fn 53)) [.s 11, .s 12], []⟩, ⟨some 12, none, .load 2 true (.s 5), []⟩, ⟨some 11, none, .load 2 true (.s 4), []⟩] (.eff 6 ⟨some 9, none, .alloc 63 (.cons (.int .i64 0) (.cons (.int .i64 0) (.cons (.int .i64 0) (.cons (.int .i64 0) (.cons (.int .i64 0) (.cons (.int .i64 0) .nil)))))), []⟩ [⟨some 16, none, .call (.c (.fn 53)) [.s 14, .s 15], []⟩, ⟨some 15, none, .load 2 true (.s 7), []⟩, ⟨some 14, none, .load 2 true (.s 6), []⟩, ⟨some 13, none, .call (.c (.fn 53)) [.s 11, .s 12], []⟩, ⟨some 12, none, .load 2 true (.s 5), []⟩, ⟨some 11, none, .load 2 true (.s 4), []⟩] (.eff 8 ⟨none, none, .store 6 (.s 9) (.s 13), []⟩ [] (.eff 9 ⟨none, none, .store 6 (.s 10) (.s 16), []⟩ [] .done .none) .none) .none) .none))))))))) (.block 0 (.seq (.region g60 [⟨some 18, none, .load 2 true (.s 4), []⟩, ⟨some 19, none, .load 2 true (.s 5), []⟩, ⟨some 20, none, .load 2 true (.s 6), []⟩, ⟨some 21, none, .load 2 true (.s 7), []⟩, ⟨some 22, none, .buildSl 24 2 4 (.cons (.int .i64 0) (.cons (.int .i64 0) .nil)) [(0, 2, .s 18), (2, 2, .s 19), (4, 2, .s 20), (6, 2, .s 21)], []⟩, ⟨some 23, none, .call (.c (.fn 52)) [.s 22], []⟩, ⟨some 24, none, .not (.s 23), []⟩, ⟨some 17, none, .move (.s 24), []⟩]) (.cond (.s 17) (.seq (.region g60 [⟨some 8, none, .move (.c (.int .i64 0)), []⟩]) .ret) (.seq (.region g60 [⟨some 26, none, .load 2 true (.s 4), []⟩, ⟨some 27, none, .load 2 true (.s 6), []⟩, ⟨some 28, none, .load 2 true (.s 7), []⟩, ⟨some 29, none, .call (.c (.fn 26)) [.s 26, .s 27, .s 28], []⟩, ⟨some 30, none, .move (.s 29), []⟩, ⟨some 31, some (30, false), .load 2 true (.s 5), []⟩, ⟨some 32, some (30, false), .load 2 true (.s 6), []⟩, ⟨some 33, some (30, false), .load 2 true (.s 7), []⟩, ⟨some 34, some (30, false), .call (.c (.fn 26)) [.s 31, .s 32, .s 33], []⟩, ⟨some 35, none, .pick (.s 30) (.c (.bool true)) (.s 34), []⟩, ⟨some 36, none, .move (.s 35), []⟩, ⟨some 37, some (36, false), .load 2 true (.s 6), []⟩, ⟨some 38, some (36, false), .load 2 true (.s 4), []⟩, ⟨some 39, some (36, false), .load 2 true (.s 5), []⟩, ⟨some 40, some (36, false), .call (.c (.fn 26)) [.s 37, .s 38, .s 39], []⟩, ⟨some 41, none, .pick (.s 36) (.c (.bool true)) (.s 40), []⟩, ⟨some 42, none, .move (.s 41), []⟩, ⟨some 43, some (42, false), .load 2 true (.s 7), []⟩, ⟨some 44, some (42, false), .load 2 true (.s 4), []⟩, ⟨some 45, some (42, false), .load 2 true (.s 5), []⟩, ⟨some 46, some (42, false), .call (.c (.fn 26)) [.s 43, .s 44, .s 45], []⟩, ⟨some 47, none, .pick (.s 42) (.c (.bool true)) (.s 46), []⟩, ⟨some 25, none, .move (.s 47), []⟩]) (.cond (.s 25) (.seq (.region g60 [⟨some 8, none, .move (.c (.int .i64 1)), []⟩]) .ret) (.seq (.region g60 [⟨some 49, none, .load 6 true (.s 9), []⟩, ⟨some 50, none, .mkfn 1048630 [.s 49], []⟩, ⟨some 51, none, .load 2 true (.s 6), []⟩, ⟨some 52, none, .load 2 true (.s 7), []⟩, ⟨some 53, none, .call (.c (.fn 73)) [.s 50, .s 51, .s 52], []⟩, ⟨some 54, none, .move (.s 53), []⟩, ⟨some 55, some (54, true), .load 6 true (.s 10), []⟩, ⟨some 56, some (54, true), .mkfn 1048630 [.s 55], []⟩, ⟨some 57, some (54, true), .load 2 true (.s 4), []⟩, ⟨some 58, some (54, true), .load 2 true (.s 5), []⟩, ⟨some 59, some (54, true), .call (.c (.fn 73)) [.s 56, .s 57, .s 58], []⟩, ⟨some 60, none, .pick (.s 54) (.s 59) (.c (.bool false)), []⟩, ⟨some 48, none, .move (.s 60), []⟩]) (.cond (.s 48) (.seq (.region g60 [⟨some 8, none, .move (.c (.int .i64 2)), []⟩]) .ret) .skip)))))))) (.seq (.region g60 [⟨some 8, none, .move (.c (.int .i64 0)), []⟩]) .ret))
def r60 : List SRes := [.slot 8]
def k60 : List (Nat × Nat × SCode × Nat) := []
theorem e60 : cFunc Try.prog 60 g60 [] [] k60 = some (c60, r60, 61) := by kernel_rfl
theorem q60 : RgOk Try.prog k60 := RgOk.nil
def tch (a b c d : Pt) : Bool := betV a c d || betV b c d || betV c a b || betV d a b
def crV (a b c d : Pt) : Int := if tch a b c d = true then 1 else if (prt a b c d && prt c d a b) = true then 2 else 0
def four : SV → Option (Pt × Pt × Pt × Pt)
  | .cons a (.cons b (.cons c (.cons d .nil))) => match ptD a, ptD b, ptD c, ptD d with
    | some p, some q, some r, some s => some (p, q, r, s)
    | _, _, _, _ => none
  | _ => none
def Cross : Eng.Spec where
  X := Pt × Pt × Pt × Pt
  args := fun x => .cons (ptE x.1) (.cons (ptE x.2.1) (.cons (ptE x.2.2.1) (.cons (ptE x.2.2.2) .nil)))
  pre := fun x => onB x.1 = true ∧ onB x.2.1 = true ∧ onB x.2.2.1 = true ∧ onB x.2.2.2 = true
  res := fun x => .int .i64 (crV x.1 x.2.1 x.2.2.1 x.2.2.2)
  inst := four
set_option maxHeartbeats 1000000 in
theorem Cross_ok : Cross.Ok Try.prog 60 := by
  refine Eng.Spec.ok_of e60 q60 (fun _ => [(52, .p on_), (53, .p open_), (26, .p Between), (73, .p parted)]) (fun _ _ => TabOk.p on_ok (TabOk.p open_ok (TabOk.p Between_ok (TabOk.p parted_ok TabOk.nil)))) ?_
  rintro ⟨a, b, c, d⟩ ⟨h1, h2, h3, h4⟩
  replace h1 : onB a = true := h1
  replace h2 : onB b = true := h2
  replace h3 : onB c = true := h3
  replace h4 : onB d = true := h4
  have hall : (!onAll ⟨4, sl1 (.cons (ptL a) (.cons (ptL b) (.cons (ptL c) (.cons (ptL d) .nil))))⟩) = false := by rw [onAll4, h1, h2, h3, h4]; rfl
  refine ⟨trivial, ?_⟩
  repeat' (first | exact h1 | exact h2 | exact h3 | exact h4 | refine And.intro ?_ ?_ | exact trivial | exact rfl)
  · show (4 : Int) ≤ _
    omega
  · refine fun (h : (!onAll ⟨4, sl1 (.cons (ptL a) (.cons (ptL b) (.cons (ptL c) (.cons (ptL d) .nil))))⟩) = true) => ?_
    exact no_tf hall h
  · refine fun (_ : (!onAll ⟨4, sl1 (.cons (ptL a) (.cons (ptL b) (.cons (ptL c) (.cons (ptL d) .nil))))⟩) = false) => ?_
    repeat' (first | exact h1 | exact h2 | exact h3 | exact h4 | refine And.intro ?_ ?_ | exact trivial | exact rfl | (refine fun (_ : guardP _ _ _ _) => ?_))
    · refine fun (h : pickB (pickB (pickB (betV a c d) _ _ _ (betV b c d)) _ _ _ (betV c a b)) _ _ _ (betV d a b) = true) => ?_
      rw [pickB_or, pickB_or, pickB_or] at h
      have e : 1 = crV a b c d := by unfold crV tch; rw [if_pos h]
      repeat' (first | exact e | refine And.intro ?_ ?_ | exact trivial | exact rfl)
    refine fun (h : pickB (pickB (pickB (betV a c d) _ _ _ (betV b c d)) _ _ _ (betV c a b)) _ _ _ (betV d a b) = false) => ?_
    rw [pickB_or, pickB_or, pickB_or] at h
    repeat' (first | exact h1 | exact h2 | exact h3 | exact h4 | refine And.intro ?_ ?_ | exact trivial | exact rfl | (refine fun (_ : guardP _ _ _ _) => ?_))
    · refine fun (h' : pickB (prt a b c d) _ _ (prt c d a b) _ = true) => ?_
      rw [pickB_and] at h'
      have e : 2 = crV a b c d := by unfold crV tch; rw [if_neg (by rw [h]; decide), if_pos h']
      repeat' (first | exact e | refine And.intro ?_ ?_ | exact trivial | exact rfl)
    refine fun (h' : pickB (prt a b c d) _ _ (prt c d a b) _ = false) => ?_
    rw [pickB_and] at h'
    have e : 0 = crV a b c d := by unfold crV tch; rw [if_neg (by rw [h]; decide), if_neg (by rw [h']; decide)]
    repeat' (first | exact e | refine And.intro ?_ ?_ | exact trivial | exact rfl)
  · show (4 : Int) ≤ _
    omega
  · refine fun (h : (!onAll ⟨4, sl1 (.cons (ptL a) (.cons (ptL b) (.cons (ptL c) (.cons (ptL d) .nil))))⟩) = true) => ?_
    exact no_tf hall h
  · refine fun (_ : (!onAll ⟨4, sl1 (.cons (ptL a) (.cons (ptL b) (.cons (ptL c) (.cons (ptL d) .nil))))⟩) = false) => ?_
    repeat' (first | exact h1 | exact h2 | exact h3 | exact h4 | refine And.intro ?_ ?_ | exact trivial | exact rfl | (refine fun (_ : guardP _ _ _ _) => ?_))
    · refine fun (h : pickB (pickB (pickB (betV a c d) _ _ _ (betV b c d)) _ _ _ (betV c a b)) _ _ _ (betV d a b) = true) => ?_
      rw [pickB_or, pickB_or, pickB_or] at h
      have e : 1 = crV a b c d := by unfold crV tch; rw [if_pos h]
      repeat' (first | exact e | refine And.intro ?_ ?_ | exact trivial | exact rfl)
    refine fun (h : pickB (pickB (pickB (betV a c d) _ _ _ (betV b c d)) _ _ _ (betV c a b)) _ _ _ (betV d a b) = false) => ?_
    rw [pickB_or, pickB_or, pickB_or] at h
    repeat' (first | exact h1 | exact h2 | exact h3 | exact h4 | refine And.intro ?_ ?_ | exact trivial | exact rfl | (refine fun (_ : guardP _ _ _ _) => ?_))
    · refine fun (h' : pickB (prt a b c d) _ _ (prt c d a b) _ = true) => ?_
      rw [pickB_and] at h'
      have e : 2 = crV a b c d := by unfold crV tch; rw [if_neg (by rw [h]; decide), if_pos h']
      repeat' (first | exact e | refine And.intro ?_ ?_ | exact trivial | exact rfl)
    refine fun (h' : pickB (prt a b c d) _ _ (prt c d a b) _ = false) => ?_
    rw [pickB_and] at h'
    have e : 0 = crV a b c d := by unfold crV tch; rw [if_neg (by rw [h]; decide), if_neg (by rw [h']; decide)]
    repeat' (first | exact e | refine And.intro ?_ ?_ | exact trivial | exact rfl)
end G2
