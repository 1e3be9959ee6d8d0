/- A part of the proof: see the last text. -/
import Derived.Test.YtcckdpimimkejaaG23
import Derived.Test.YtcckdpimimkejaaJB
open Go Go.Eng Go.Proofs G1 G2 G3 G4 G5 G6 G7 G8 G9 G10 G11 G12 G13 G14 G15 G16 J10 G23
set_option maxRecDepth 100000
namespace G24
/-- The box of a ring is small. -/
def smlX (a : Pts) : Bool := pickB (pickB (decide ((boxX a).2.2 = 0)) (.s 24) (.c (.bool false)) (decide ((boxX a).2.1.1 - (boxX a).1.1 ≤ 24)) false) (.s 32) (.c (.bool false)) (decide ((boxX a).2.1.2 - (boxX a).1.2 ≤ 24)) false
def small : Eng.Spec where
  X := Pts
  args := fun a => .cons (rgE a) .nil
  pre := fun a => (a.n : Int) ≤ 9223372036854775806 ∧ valV a = true
  res := fun a => .tup (.cons (ptE (boxX a).1) (.cons (ptE (boxX a).2.1) (.cons (.bool (smlX a)) .nil)))
  inst := ptsS
/-- gazetteer/gazetteerlaw08.small -/
def g27 : List Nat := [0, 7, 6, 5, 2, 3, 4]
def c27 : SCode :=
  .seq (.region g27 [⟨some 2, none, .alloc 24 (.cons (.int .i64 0) (.cons (.int .i64 0) .nil)), []⟩, ⟨some 3, none, .alloc 24 (.cons (.int .i64 0) (.cons (.int .i64 0) .nil)), []⟩, ⟨some 4, none, .move (.c (.bool false)), []⟩]) (.seq (.region g27 [⟨some 9, none, .move (.s 0), []⟩, ⟨some 10, none, .call (.c (.fn 13)) [.s 9], []⟩, ⟨some 8, none, .move (.s 10), []⟩, ⟨some 11, none, .extract 0 (.s 8), []⟩, ⟨some 12, none, .extract 1 (.s 8), []⟩, ⟨some 13, none, .extract 2 (.s 8), []⟩, ⟨some 5, none, .alloc 24 (.cons (.int .i64 0) (.cons (.int .i64 0) .nil)), []⟩, ⟨some 6, none, .alloc 24 (.cons (.int .i64 0) (.cons (.int .i64 0) .nil)), []⟩, ⟨none, none, .store 2 (.s 5) (.s 11), []⟩, ⟨none, none, .store 2 (.s 6) (.s 12), []⟩, ⟨some 7, none, .move (.s 13), []⟩]) (.seq (.drawn g27 (.pure 0 ⟨some 14, none, .load 2 true (.s 5), []⟩ (.pure 1 ⟨some 15, none, .load 2 true (.s 6), []⟩ (.pure 2 ⟨some 16, none, .move (.s 7), []⟩ (.pure 3 ⟨some 17, none, .bin (.eql) (.s 16) (.c (.int .i64 0)), []⟩ (.pure 4 ⟨some 18, none, .move (.s 17), []⟩ (.pure 5 ⟨some 19, some (18, true), .fldA 0 (.s 6), []⟩ (.pure 6 ⟨some 20, some (18, true), .load 1 false (.s 19), []⟩ (.pure 7 ⟨some 21, some (18, true), .fldA 0 (.s 5), []⟩ (.pure 8 ⟨some 22, some (18, true), .load 1 false (.s 21), []⟩ (.pure 9 ⟨some 23, some (18, true), .bin (.sub) (.s 20) (.s 22), []⟩ (.pure 10 ⟨some 24, some (18, true), .bin (.leq) (.s 23) (.c (.int .i64 24)), []⟩ (.pure 11 ⟨some 25, none, .pick (.s 18) (.s 24) (.c (.bool false)), []⟩ (.pure 12 ⟨some 26, none, .move (.s 25), []⟩ (.pure 13 ⟨some 27, some (26, true), .fldA 1 (.s 6), []⟩ (.pure 14 ⟨some 28, some (26, true), .load 1 false (.s 27), []⟩ (.pure 15 ⟨some 29, some (26, true), .fldA 1 (.s 5), []⟩ (.pure 16 ⟨some 30, some (26, true), .load 1 false (.s 29), []⟩ (.pure 17 ⟨some 31, some (26, true), .bin (.sub) (.s 28) (.s 30), []⟩ (.pure 18 ⟨some 32, some (26, true), .bin (.leq) (.s 31) (.c (.int .i64 24)), []⟩ (.pure 19 ⟨some 33, none, .pick (.s 26) (.s 32) (.c (.bool false)), []⟩ (.eff 20 ⟨none, none, .store 2 (.s 2) (.s 14), []⟩ [⟨some 30, some (26, true), .load 1 false (.s 29), []⟩, ⟨some 28, some (26, true), .load 1 false (.s 27), []⟩, ⟨some 15, none, .load 2 true (.s 6), []⟩] (.eff 21 ⟨none, none, .store 2 (.s 3) (.s 15), []⟩ [⟨some 30, some (26, true), .load 1 false (.s 29), []⟩, ⟨some 28, some (26, true), .load 1 false (.s 27), []⟩] (.pure 22 ⟨some 4, none, .move (.s 33), []⟩ .done) .none) .none)))))))))))))))))))))) .ret))
def r27 : List SRes := [.cell 2 2 true, .cell 3 2 true, .slot 4]
def k27 : List (Nat × Nat × SCode × Nat) := []
theorem e27 : cFunc Try.prog 27 g27 [] [] k27 = some (c27, r27, 34) := by kernel_rfl
theorem q27 : RgOk Try.prog k27 := RgOk.nil
theorem small_ok : small.Ok Try.prog 27 := by
  refine Eng.Spec.ok_of e27 q27 (fun _ => [(13, .p BoxX)]) (fun _ _ => TabOk.p BoxX_ok TabOk.nil) ?_
  rintro a ⟨ha, hv⟩
  replace ha : (a.n : Int) ≤ 9223372036854775806 := ha
  replace hv : valV a = true := hv
  have hb2 := (box_val hv).2.1
  have m1 : -9223372036854775808 ≤ (boxX a).2.1.1 - (boxX a).1.1 := by omega
  have m2 : (boxX a).2.1.1 - (boxX a).1.1 ≤ 9223372036854775807 := by omega
  have m5 : -9223372036854775808 ≤ (boxX a).2.1.2 - (boxX a).1.2 := by omega
  have m6 : (boxX a).2.1.2 - (boxX a).1.2 ≤ 9223372036854775807 := by omega
  refine ⟨trivial, ?_⟩
  repeat' (first | refine And.intro ?_ ?_ | exact trivial | exact rfl | exact fun (j : Nat) (hj : j < _) => Or.inl (sub_ptN _ _ _ _) | (refine fun (_ : guardP _ _ _ _) => ?_) | exact ha)
  · exact m1
  · exact m2
  · exact m5
  · exact m6
theorem whe_bd (a : Pts) (p : Pt) : -1 ≤ wheX a p ∧ wheX a p ≤ 1 := by
  rw [wheX_eq]
  unfold wheV
  repeat' split
  all_goals omega
/-- What is counted up to a column, and in one. -/
def colI (a : Pts) (i : Nat) (j : Nat) : Int := sumI (fun j : Nat => wheX a ((boxX a).1.1 + (i : Int), (boxX a).1.2 + (j : Int)) + 1) j
def cntI (a : Pts) (H : Nat) (i : Nat) : Int := sumI (fun k => colI a k (H + 1)) i
theorem col_bd (a : Pts) (i : Nat) : ∀ j, 0 ≤ colI a i j ∧ colI a i j ≤ 2 * j
  | 0 => by unfold colI sumI; omega
  | j + 1 => by
    have k := col_bd a i j
    have w := whe_bd a ((boxX a).1.1 + (i : Int), (boxX a).1.2 + (j : Int))
    unfold colI at *
    simp only [sumI]
    omega
theorem cnt_bd (a : Pts) {H : Nat} (hH : H ≤ 24) : ∀ i, 0 ≤ cntI a H i ∧ cntI a H i ≤ 50 * i
  | 0 => by unfold cntI sumI; omega
  | i + 1 => by
    have k := cnt_bd a hH i
    have w := col_bd a i (H + 1)
    unfold cntI at *
    simp only [sumI]
    omega
theorem cnt_all {a : Pts} {w H : Nat} (hv : valV a = true) (hw : (boxX a).2.1.1 = (boxX a).1.1 + (w : Int)) (hH : (boxX a).2.1.2 = (boxX a).1.2 + (H : Int)) : -2 + cntI a H (w + 1) = twiX a := by
  rw [boxX_eq] at hw hH
  have e : boxV a = (loI a a.n, hiI a a.n, 0) := if_pos hv
  have et : twiV a = twV a := if_pos hv
  rw [e] at hw hH
  have k := J12.pick hv hw hH
  have k2 : cntI a H (w + 1) = twV a + 2 := by
    unfold cntI colI
    rw [boxX_eq, wheX_eq, e]
    exact k
  rw [twiX_eq, et]
  omega
def law6 : Eng.Spec where
  X := Pts
  args := fun a => .cons (rgE a) .nil
  pre := fun a => (a.n : Int) ≤ 9223372036854775806
  res := fun _ => .bool true
  inst := fun _ => none
/-- gazetteer/gazetteerlaw08.PolygonCounts -/
def g6 : List Nat := [18, 6, 27, 34, 4, 5, 42, 9, 8, 3, 7, 0, 2]
def c6 : SCode :=
  .seq (.region g6 [⟨some 2, none, .move (.c (.bool false)), []⟩]) (.seq (.region g6 [⟨some 10, none, .call (.c (.fn 11)) [], []⟩, ⟨some 3, none, .move (.s 10), []⟩]) (.seq (.seq (.region g6 [⟨some 11, none, .move (.s 0), []⟩, ⟨some 12, none, .call (.c (.fn 12)) [.s 11, .c (.nilsl)], []⟩, ⟨some 13, none, .not (.s 12), []⟩, ⟨some 14, none, .move (.s 13), []⟩, ⟨some 15, some (14, false), .move (.s 0), []⟩, ⟨some 16, some (14, false), .call (.c (.fn 15)) [.s 15], []⟩, ⟨some 17, some (14, false), .not (.s 16), []⟩, ⟨some 18, none, .pick (.s 14) (.c (.bool true)) (.s 17), []⟩]) (.cond (.s 18) (.seq (.region g6 [⟨some 19, none, .move (.s 3), []⟩, ⟨some 2, none, .move (.s 19), []⟩]) .ret) .skip)) (.seq (.region g6 [⟨some 21, none, .move (.s 0), []⟩, ⟨some 22, none, .call (.c (.fn 27)) [.s 21], []⟩, ⟨some 20, none, .move (.s 22), []⟩, ⟨some 23, none, .extract 0 (.s 20), []⟩, ⟨some 24, none, .extract 1 (.s 20), []⟩, ⟨some 25, none, .extract 2 (.s 20), []⟩, ⟨some 4, none, .alloc 24 (.cons (.int .i64 0) (.cons (.int .i64 0) .nil)), []⟩, ⟨some 5, none, .alloc 24 (.cons (.int .i64 0) (.cons (.int .i64 0) .nil)), []⟩, ⟨none, none, .store 2 (.s 4) (.s 23), []⟩, ⟨none, none, .store 2 (.s 5) (.s 24), []⟩, ⟨some 6, none, .move (.s 25), []⟩]) (.seq (.seq (.region g6 [⟨some 26, none, .move (.s 6), []⟩, ⟨some 27, none, .not (.s 26), []⟩]) (.cond (.s 27) (.seq (.region g6 [⟨some 28, none, .move (.s 3), []⟩, ⟨some 2, none, .move (.s 28), []⟩]) .ret) .skip)) (.seq (.region g6 [⟨some 7, none, .move (.c (.int .i64 (-2))), []⟩]) (.seq (.seq (.region g6 [⟨some 29, none, .fldA 0 (.s 4), []⟩, ⟨some 30, none, .load 1 false (.s 29), []⟩, ⟨some 8, none, .move (.s 30), []⟩]) (.block 0 (.loop 0 [31, 32, 33, 34, 37, 38, 39, 40, 41, 42, 45, 46, 47, 48, 49, 50, 51, 52, 7, 43, 44, 9, 35, 36, 8] (.seq (.seq (.region g6 [⟨some 31, none, .move (.s 8), []⟩, ⟨some 32, none, .fldA 0 (.s 5), []⟩, ⟨some 33, none, .load 1 false (.s 32), []⟩, ⟨some 34, none, .bin (.leq) (.s 31) (.s 33), []⟩]) (.cond (.s 34) .skip (.exit 0))) (.seq (.block 1 (.seq (.region g6 [⟨some 37, none, .fldA 1 (.s 4), []⟩, ⟨some 38, none, .load 1 false (.s 37), []⟩, ⟨some 9, none, .move (.s 38), []⟩]) (.block 2 (.loop 1 [39, 40, 41, 42, 45, 46, 47, 48, 49, 50, 51, 52, 7, 43, 44, 9] (.seq (.seq (.region g6 [⟨some 39, none, .move (.s 9), []⟩, ⟨some 40, none, .fldA 1 (.s 5), []⟩, ⟨some 41, none, .load 1 false (.s 40), []⟩, ⟨some 42, none, .bin (.leq) (.s 39) (.s 41), []⟩]) (.cond (.s 42) .skip (.exit 2))) (.seq (.block 3 (.region g6 [⟨some 45, none, .move (.s 7), []⟩, ⟨some 46, none, .move (.s 0), []⟩, ⟨some 47, none, .move (.s 8), []⟩, ⟨some 48, none, .move (.s 9), []⟩, ⟨some 49, none, .build (.cons (.int .i64 0) (.cons (.int .i64 0) .nil)) [(0, 1, .s 47), (1, 1, .s 48)], []⟩, ⟨some 50, none, .call (.c (.fn 19)) [.s 46, .s 49], []⟩, ⟨some 51, none, .bin (.add) (.s 50) (.c (.int .i64 1)), []⟩, ⟨some 52, none, .bin (.add) (.s 45) (.s 51), []⟩, ⟨some 7, none, .move (.s 52), []⟩])) (.region g6 [⟨some 43, none, .move (.s 9), []⟩, ⟨some 44, none, .bin (.add) (.s 43) (.c (.int .i64 1)), []⟩, ⟨some 9, none, .move (.s 44), []⟩]))))))) (.region g6 [⟨some 35, none, .move (.s 8), []⟩, ⟨some 36, none, .bin (.add) (.s 35) (.c (.int .i64 1)), []⟩, ⟨some 8, none, .move (.s 36), []⟩])))))) (.seq (.region g6 [⟨some 53, none, .move (.s 3), []⟩, ⟨some 54, none, .move (.s 53), []⟩, ⟨some 55, some (54, true), .move (.s 7), []⟩, ⟨some 56, some (54, true), .move (.s 0), []⟩, ⟨some 57, some (54, true), .call (.c (.fn 17)) [.s 56], []⟩, ⟨some 58, some (54, true), .bin (.eql) (.s 55) (.s 57), []⟩, ⟨some 59, none, .pick (.s 54) (.s 58) (.c (.bool false)), []⟩, ⟨some 2, none, .move (.s 59), []⟩]) .ret)))))))
def r6 : List SRes := [.slot 2]
def k6 : List (Nat × Nat × SCode × Nat) := []
theorem e6 : cFunc Try.prog 6 g6 [] [] k6 = some (c6, r6, 60) := by kernel_rfl
theorem q6 : RgOk Try.prog k6 := RgOk.nil
set_option maxHeartbeats 4000000 in
theorem law6_ok : law6.Ok Try.prog 6 := by
  refine Eng.Spec.ok_of e6 q6 (fun _ => [(11, .p headS), (12, .p FewN), (15, .p ValidX), (27, .p small), (17, .p TwiceX), (19, .p WhereX)]) (fun _ _ => TabOk.p head_ok (TabOk.p FewN_ok (TabOk.p ValidX_ok (TabOk.p small_ok (TabOk.p TwiceX_ok (TabOk.p WhereX_ok TabOk.nil)))))) ?_
  rintro a ha
  replace ha : (a.n : Int) ≤ 9223372036854775806 := ha
  refine ⟨trivial, ?_⟩
  repeat' (first | refine And.intro ?_ ?_ | exact trivial | exact rfl | exact fun (j : Nat) (hj : j < _) => Or.inl (sub_ptN _ _ _ _) | (refine fun (_ : guardP _ _ _ _) => ?_) | exact ha)
  · refine fun (_ : pickB _ _ _ _ _ = true) => ?_
    repeat' (first | refine And.intro ?_ ?_ | exact trivial | exact rfl | exact fun (j : Nat) (hj : j < _) => Or.inl (sub_ptN _ _ _ _))
  refine fun (h : pickB (!few0 a) _ _ _ (!valX a) = false) => ?_
  rw [pickB_or, Bool.or_eq_false_iff] at h
  have hvx := not_f h.2
  have hv := hvx
  rw [valX_eq] at hv
  have hb2 := (box_val hv).2.1
  repeat' (first | refine And.intro ?_ ?_ | exact trivial | exact rfl | exact fun (j : Nat) (hj : j < _) => Or.inl (sub_ptN _ _ _ _) | (refine fun (_ : guardP _ _ _ _) => ?_) | exact ha | exact hv)
  · refine fun (_ : (!smlX _) = true) => ?_
    repeat' (first | refine And.intro ?_ ?_ | exact trivial | exact rfl | exact fun (j : Nat) (hj : j < _) => Or.inl (sub_ptN _ _ _ _))
  refine fun (hs : (!smlX a) = false) => ?_
  have hs' := not_f hs
  unfold smlX at hs'
  rw [pickB_and, pickB_and] at hs'
  simp only [Bool.and_eq_true, decide_eq_true_eq] at hs'
  obtain ⟨w, hw⟩ : ∃ w : Nat, (boxX a).2.1.1 = (boxX a).1.1 + (w : Int) := ⟨((boxX a).2.1.1 - (boxX a).1.1).toNat, by omega⟩
  obtain ⟨H, hH⟩ : ∃ H : Nat, (boxX a).2.1.2 = (boxX a).1.2 + (H : Int) := ⟨((boxX a).2.1.2 - (boxX a).1.2).toNat, by omega⟩
  have w24 : w ≤ 24 := by omega
  have H24 : H ≤ 24 := by omega
  have st1 : (boxX a).1.1 = (boxX a).1.1 + ((0 : Nat) : Int) := by omega
  have st2 : (boxX a).1.2 = (boxX a).1.2 + ((0 : Nat) : Int) := by omega
  repeat' (first | refine And.intro ?_ ?_ | exact trivial | exact rfl | exact fun (j : Nat) (hj : j < _) => Or.inl (sub_ptN _ _ _ _) | (refine fun (_ : guardP _ _ _ _) => ?_) | exact ha)
  refine ⟨⟨Nat, fun i => i ≤ w + 1, fun i => [(7, .int .i64 (-2 + cntI a H i)), (8, .int .i64 ((boxX a).1.1 + (i : Int)))], fun _ => [], fun i => w + 1 - i⟩, 0, Nat.zero_le _, ?_, ?_⟩
  · repeat' (first | exact st1 | refine And.intro ?_ ?_ | exact trivial | exact rfl | exact fun (j : Nat) (hj : j < _) => Or.inl (sub_ptN _ _ _ _))
  rintro (i : Nat) (hi : i ≤ w + 1)
  have cb := cnt_bd a H24 i
  repeat' (first | refine And.intro ?_ ?_ | exact trivial | exact rfl | exact fun (j : Nat) (hj : j < _) => Or.inl (sub_ptN _ _ _ _))
  · refine fun (h : decide ((boxX a).1.1 + (i : Int) ≤ (boxX a).2.1.1) = true) => ?_
    have hx := of_decide_eq_true h
    have iw : i < w + 1 := by omega
    have b1 : -9223372036854775808 ≤ (boxX a).1.1 + (i : Int) + 1 := by omega
    have b2 : (boxX a).1.1 + (i : Int) + 1 ≤ 9223372036854775807 := by omega
    have st3 : -2 + cntI a H i = -2 + cntI a H i + colI a i 0 := by unfold colI sumI; omega
    repeat' (first | refine And.intro ?_ ?_ | exact trivial | exact rfl | exact fun (j : Nat) (hj : j < _) => Or.inl (sub_ptN _ _ _ _))
    refine ⟨⟨Nat, fun j => j ≤ H + 1, fun j => [(7, .int .i64 (-2 + cntI a H i + colI a i j)), (9, .int .i64 ((boxX a).1.2 + (j : Int)))], fun _ => [], fun j => H + 1 - j⟩, 0, Nat.zero_le _, ?_, ?_⟩
    · repeat' (first | exact st2 | exact st3 | refine And.intro ?_ ?_ | exact trivial | exact rfl | exact fun (j : Nat) (hj : j < _) => Or.inl (sub_ptN _ _ _ _))
    rintro (j : Nat) (hj : j ≤ H + 1)
    have db := col_bd a i j
    repeat' (first | refine And.intro ?_ ?_ | exact trivial | exact rfl | exact fun (j : Nat) (hj : j < _) => Or.inl (sub_ptN _ _ _ _))
    · refine fun (h : decide ((boxX a).1.2 + (j : Int) ≤ (boxX a).2.1.2) = true) => ?_
      have hy := of_decide_eq_true h
      have jH : j < H + 1 := by omega
      have wb := whe_bd a ((boxX a).1.1 + (i : Int), (boxX a).1.2 + (j : Int))
      have d1 : -9223372036854775808 ≤ (boxX a).1.2 + (j : Int) + 1 := by omega
      have d2 : (boxX a).1.2 + (j : Int) + 1 ≤ 9223372036854775807 := by omega
      have d3 : -9223372036854775808 ≤ wheX a ((boxX a).1.1 + (i : Int), (boxX a).1.2 + (j : Int)) + 1 := by omega
      have d4 : wheX a ((boxX a).1.1 + (i : Int), (boxX a).1.2 + (j : Int)) + 1 ≤ 9223372036854775807 := by omega
      have d5 : -9223372036854775808 ≤ -2 + cntI a H i + colI a i j + (wheX a ((boxX a).1.1 + (i : Int), (boxX a).1.2 + (j : Int)) + 1) := by omega
      have d6 : -2 + cntI a H i + colI a i j + (wheX a ((boxX a).1.1 + (i : Int), (boxX a).1.2 + (j : Int)) + 1) ≤ 9223372036854775807 := by omega
      have e1 : -2 + cntI a H i + colI a i j + (wheX a ((boxX a).1.1 + (i : Int), (boxX a).1.2 + (j : Int)) + 1) = -2 + cntI a H i + colI a i (j + 1) := Int.add_assoc _ _ _
      have e2 : (boxX a).1.2 + (j : Int) + 1 = (boxX a).1.2 + ((j + 1 : Nat) : Int) := by omega
      repeat' (first | with_reducible exact d1 | with_reducible exact d2 | refine And.intro ?_ ?_ | exact trivial | exact rfl | exact fun (j : Nat) (hj : j < _) => Or.inl (sub_ptN _ _ _ _) | exact ha)
      · exact d3
      · exact d4
      · exact d5
      · exact d6
      refine Exists.intro (j + 1) (And.intro jH ?_)
      repeat' (first | exact e1 | exact e2 | refine And.intro ?_ ?_ | exact trivial | exact rfl | exact fun (j : Nat) (hj : j < _) => Or.inl (sub_ptN _ _ _ _))
      show H + 1 - (j + 1) < H + 1 - j
      omega
    · refine fun (h : decide ((boxX a).1.2 + (j : Int) ≤ (boxX a).2.1.2) = false) => ?_
      have hy := of_decide_eq_false h
      have ej : j = H + 1 := by omega
      subst ej
      have e1 : -2 + cntI a H i + colI a i (H + 1) = -2 + cntI a H (i + 1) := Int.add_assoc _ _ _
      have e2 : (boxX a).1.1 + (i : Int) + 1 = (boxX a).1.1 + ((i + 1 : Nat) : Int) := by omega
      repeat' (first | with_reducible exact b1 | with_reducible exact b2 | refine And.intro ?_ ?_ | exact trivial | exact rfl | exact fun (j : Nat) (hj : j < _) => Or.inl (sub_ptN _ _ _ _))
      refine Exists.intro (i + 1) (And.intro iw ?_)
      repeat' (first | exact e1 | exact e2 | refine And.intro ?_ ?_ | exact trivial | exact rfl | exact fun (j : Nat) (hj : j < _) => Or.inl (sub_ptN _ _ _ _))
      show w + 1 - (i + 1) < w + 1 - i
      omega
  · refine fun (h : decide ((boxX a).1.1 + (i : Int) ≤ (boxX a).2.1.1) = false) => ?_
    have hx := of_decide_eq_false h
    have ei : i = w + 1 := by omega
    subst ei
    have c1 : decide (-2 + cntI a H (w + 1) = twiX a) = true := decide_eq_true (cnt_all hv hw hH)
    have d1 := pand (show true = true from rfl) c1 (i := 58)
    repeat' (first | refine And.intro ?_ ?_ | exact trivial | exact rfl | exact fun (j : Nat) (hj : j < _) => Or.inl (sub_ptN _ _ _ _) | (refine fun (_ : guardP _ _ _ _) => ?_) | exact ha)
    exact d1
end G24
