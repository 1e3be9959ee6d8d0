/- A part of the proof: see the last text. -/
import Derived.Test.YtcckdpimimkejaaG16
import Derived.Test.YtcckdpimimkejaaJA
open Go Go.Eng Go.Proofs G1 G2 G3 G4 G5 G6 G7 G8 G9 G10 G11 G12 G13 G14 G15 G16 J10
set_option maxRecDepth 100000
namespace G23
def few0 (a : Pts) : Bool := decide ((a.n : Int) ≤ 50) && decide ((0 : Int) ≤ 50)
def FewN : Eng.Spec where
  X := Pts
  args := fun a => .cons (rgE a) (.cons .nilsl .nil)
  pre := fun _ => True
  res := fun a => .bool (few0 a)
  inst := fun
    | .cons a (.cons .nilsl .nil) => ptsD a
    | _ => none
theorem FewN_ok : FewN.Ok Try.prog 12 := by
  refine Eng.Spec.ok_of e12 q12 (fun _ => []) (fun _ _ => TabOk.nil) ?_
  rintro a _
  have e : ∀ i j, pickB (decide ((a.n : Int) ≤ 50)) (.s i) (.c (.bool false)) (decide ((0 : Int) ≤ 50)) j = few0 a := fun i j => pickB_and _ _ _ _
  refine ⟨trivial, ?_⟩
  repeat' (first | exact e _ _ | refine And.intro ?_ ?_ | exact trivial | exact rfl)
theorem box_val {a : Pts} (hv : valV a = true) : (boxX a).2.2 = 0 ∧ ((0 ≤ (boxX a).1.1 ∧ (boxX a).1.1 ≤ (boxX a).2.1.1 ∧ (boxX a).2.1.1 ≤ 32767) ∧ 0 ≤ (boxX a).1.2 ∧ (boxX a).1.2 ≤ (boxX a).2.1.2 ∧ (boxX a).2.1.2 ≤ 32767) ∧ (∀ p : Pt, ((p.1 < (boxX a).1.1 ∨ (boxX a).2.1.1 < p.1) ∨ p.2 < (boxX a).1.2) ∨ (boxX a).2.1.2 < p.2 → wheX a p = -1) ∧ 1 ≤ twiX a ∧ twiX a ≤ 2 * ((boxX a).2.1.1 - (boxX a).1.1) * ((boxX a).2.1.2 - (boxX a).1.2) := by
  rw [boxX_eq, twiX_eq, wheX_eq]
  unfold boxV twiV
  rw [if_pos hv, if_pos hv]
  have ho := (val_ok hv).1.2
  have h3 := (val_ok hv).2.1.1
  refine ⟨rfl, ?_, fun p h => whe_box hv h, tw_le hv⟩
  have hl : ∀ m, m ≤ a.n → (0 ≤ (loI a m).1 ∧ (hiI a m).1 ≤ 32767) ∧ 0 ≤ (loI a m).2 ∧ (hiI a m).2 ≤ 32767 := fun m => by
    induction m with
    | zero =>
      intro _
      have := onB_iff.1 (ho 0 (by omega))
      unfold loI hiI
      omega
    | succ m ih =>
      intro hm
      have k := ih (by omega)
      have := onB_iff.1 (ho m (by omega))
      unfold loI hiI minP maxP
      dsimp only
      omega
  have k := hl a.n (Nat.le_refl _)
  have b := box_in (r := a) (by omega) 0
  dsimp only
  omega
structure X5 where
  a : Pts
  p : Pt
  raw : Int
def law5 : Eng.Spec where
  X := X5
  args := fun x => .cons (rgE x.a) (.cons (ptE x.p) (.cons (.int .u8 x.raw) .nil))
  pre := fun x => (x.a.n : Int) ≤ 9223372036854775806 ∧ 0 ≤ x.raw ∧ x.raw ≤ 255
  res := fun _ => .bool true
  inst := fun _ => none
/-- gazetteer/gazetteerlaw08.PolygonBoxes -/
def g5 : List Nat := [1, 22, 26, 10, 68, 2, 11, 12, 4, 103, 0, 7, 13, 9, 8, 6]
def c5 : SCode :=
  .seq (.region g5 [⟨some 4, none, .box 24 (.s 1), []⟩, ⟨some 6, none, .move (.c (.bool false)), []⟩]) (.seq (.region g5 [⟨some 14, none, .call (.c (.fn 11)) [], []⟩, ⟨some 7, none, .move (.s 14), []⟩]) (.seq (.seq (.region g5 [⟨some 15, none, .move (.s 0), []⟩, ⟨some 16, none, .call (.c (.fn 12)) [.s 15, .c (.nilsl)], []⟩, ⟨some 17, none, .not (.s 16), []⟩, ⟨some 18, none, .move (.s 17), []⟩, ⟨some 19, some (18, false), .move (.s 0), []⟩, ⟨some 20, some (18, false), .call (.c (.fn 15)) [.s 19], []⟩, ⟨some 21, some (18, false), .not (.s 20), []⟩, ⟨some 22, none, .pick (.s 18) (.c (.bool true)) (.s 21), []⟩]) (.cond (.s 22) (.seq (.region g5 [⟨some 23, none, .move (.s 7), []⟩, ⟨some 6, none, .move (.s 23), []⟩]) .ret) .skip)) (.seq (.seq (.region g5 [⟨some 24, none, .move (.s 0), []⟩, ⟨some 25, none, .lenSl (.s 24), []⟩, ⟨some 26, none, .bin (.eql) (.s 25) (.c (.int .i64 0)), []⟩]) (.cond (.s 26) (.seq (.region g5 [⟨some 6, none, .move (.c (.bool false)), []⟩]) .ret) .skip)) (.seq (.region g5 [⟨some 28, none, .move (.s 0), []⟩, ⟨some 29, none, .call (.c (.fn 13)) [.s 28], []⟩, ⟨some 27, none, .move (.s 29), []⟩, ⟨some 30, none, .extract 0 (.s 27), []⟩, ⟨some 31, none, .extract 1 (.s 27), []⟩, ⟨some 32, none, .extract 2 (.s 27), []⟩, ⟨some 8, none, .alloc 24 (.cons (.int .i64 0) (.cons (.int .i64 0) .nil)), []⟩, ⟨some 9, none, .alloc 24 (.cons (.int .i64 0) (.cons (.int .i64 0) .nil)), []⟩, ⟨none, none, .store 2 (.s 8) (.s 30), []⟩, ⟨none, none, .store 2 (.s 9) (.s 31), []⟩, ⟨some 10, none, .move (.s 32), []⟩]) (.seq (.seq (.region g5 [⟨some 33, none, .move (.s 10), []⟩, ⟨some 34, none, .bin (.neq) (.s 33) (.c (.int .i64 0)), []⟩, ⟨some 35, none, .move (.s 34), []⟩, ⟨some 36, some (35, false), .fldA 0 (.s 4), []⟩, ⟨some 37, some (35, false), .load 1 false (.s 36), []⟩, ⟨some 38, some (35, false), .fldA 0 (.s 8), []⟩, ⟨some 39, some (35, false), .load 1 false (.s 38), []⟩, ⟨some 40, some (35, false), .bin (.lss) (.s 37) (.s 39), []⟩, ⟨some 41, some (35, false), .move (.s 40), []⟩, ⟨some 42, some (41, false), .fldA 0 (.s 4), []⟩, ⟨some 43, some (41, false), .load 1 false (.s 42), []⟩, ⟨some 44, some (41, false), .fldA 0 (.s 9), []⟩, ⟨some 45, some (41, false), .load 1 false (.s 44), []⟩, ⟨some 46, some (41, false), .bin (.gtr) (.s 43) (.s 45), []⟩, ⟨some 47, some (35, false), .pick (.s 41) (.c (.bool true)) (.s 46), []⟩, ⟨some 48, some (35, false), .move (.s 47), []⟩, ⟨some 49, some (48, false), .fldA 1 (.s 4), []⟩, ⟨some 50, some (48, false), .load 1 false (.s 49), []⟩, ⟨some 51, some (48, false), .fldA 1 (.s 8), []⟩, ⟨some 52, some (48, false), .load 1 false (.s 51), []⟩, ⟨some 53, some (48, false), .bin (.lss) (.s 50) (.s 52), []⟩, ⟨some 54, some (35, false), .pick (.s 48) (.c (.bool true)) (.s 53), []⟩, ⟨some 55, some (35, false), .move (.s 54), []⟩, ⟨some 56, some (55, false), .fldA 1 (.s 4), []⟩, ⟨some 57, some (55, false), .load 1 false (.s 56), []⟩, ⟨some 58, some (55, false), .fldA 1 (.s 9), []⟩, ⟨some 59, some (55, false), .load 1 false (.s 58), []⟩, ⟨some 60, some (55, false), .bin (.gtr) (.s 57) (.s 59), []⟩, ⟨some 61, some (35, false), .pick (.s 55) (.c (.bool true)) (.s 60), []⟩, ⟨some 62, some (35, false), .move (.s 61), []⟩, ⟨some 63, some (62, true), .move (.s 0), []⟩, ⟨some 64, some (62, true), .load 2 true (.s 4), []⟩, ⟨some 65, some (62, true), .call (.c (.fn 19)) [.s 63, .s 64], []⟩, ⟨some 66, some (62, true), .bin (.neq) (.s 65) (.c (.int .i64 (-1))), []⟩, ⟨some 67, some (35, false), .pick (.s 62) (.s 66) (.c (.bool false)), []⟩, ⟨some 68, none, .pick (.s 35) (.c (.bool true)) (.s 67), []⟩]) (.cond (.s 68) (.seq (.region g5 [⟨some 6, none, .move (.c (.bool false)), []⟩]) .ret) .skip)) (.seq (.region g5 [⟨some 69, none, .move (.s 2), []⟩, ⟨some 70, none, .cnv .i64 (.s 69), []⟩, ⟨some 71, none, .move (.s 0), []⟩, ⟨some 72, none, .lenSl (.s 71), []⟩, ⟨some 73, none, .bin (.rem) (.s 70) (.s 72), []⟩, ⟨some 11, none, .move (.s 73), []⟩]) (.seq (.region g5 [⟨some 74, none, .move (.s 0), []⟩, ⟨some 75, none, .move (.s 11), []⟩, ⟨some 76, none, .bin (.add) (.s 75) (.c (.int .i64 1)), []⟩, ⟨some 77, none, .move (.s 0), []⟩, ⟨some 78, none, .lenSl (.s 77), []⟩, ⟨some 79, none, .bin (.rem) (.s 76) (.s 78), []⟩, ⟨some 80, none, .idxSl 2 (.s 74) (.s 79), []⟩, ⟨some 81, none, .load 2 true (.s 80), []⟩, ⟨some 12, none, .alloc 24 (.cons (.int .i64 0) (.cons (.int .i64 0) .nil)), []⟩, ⟨none, none, .store 2 (.s 12) (.s 81), []⟩]) (.seq (.seq (.drawn g5 (.pure 0 ⟨some 82, none, .move (.s 0), []⟩ (.pure 1 ⟨some 83, none, .move (.s 0), []⟩ (.pure 2 ⟨some 84, none, .move (.s 11), []⟩ (.pure 3 ⟨some 85, none, .idxSl 2 (.s 83) (.s 84), []⟩ (.pure 4 ⟨some 86, none, .load 2 true (.s 85), []⟩ (.pure 5 ⟨some 87, none, .call (.c (.fn 19)) [.s 82, .s 86], []⟩ (.pure 6 ⟨some 88, none, .bin (.neq) (.s 87) (.c (.int .i64 0)), []⟩ (.pure 7 ⟨some 89, none, .move (.s 88), []⟩ (.pure 8 ⟨some 90, some (89, false), .load 2 true (.s 4), []⟩ (.pure 9 ⟨some 91, some (89, false), .move (.s 0), []⟩ (.pure 10 ⟨some 92, some (89, false), .move (.s 11), []⟩ (.pure 11 ⟨some 93, some (89, false), .idxSl 2 (.s 91) (.s 92), []⟩ (.pure 12 ⟨some 94, some (89, false), .load 2 true (.s 93), []⟩ (.pure 13 ⟨some 95, some (89, false), .load 2 true (.s 12), []⟩ (.pure 14 ⟨some 96, some (89, false), .call (.c (.fn 26)) [.s 90, .s 94, .s 95], []⟩ (.pure 15 ⟨some 97, some (89, false), .move (.s 96), []⟩ (.pure 16 ⟨some 98, some (97, true), .move (.s 0), []⟩ (.pure 17 ⟨some 99, some (97, true), .load 2 true (.s 4), []⟩ (.pure 18 ⟨some 100, some (97, true), .call (.c (.fn 19)) [.s 98, .s 99], []⟩ (.pure 19 ⟨some 101, some (97, true), .bin (.neq) (.s 100) (.c (.int .i64 0)), []⟩ (.pure 20 ⟨some 102, some (89, false), .pick (.s 97) (.s 101) (.c (.bool false)), []⟩ (.pure 21 ⟨some 103, none, .pick (.s 89) (.c (.bool true)) (.s 102), []⟩ .done))))))))))))))))))))))) (.cond (.s 103) (.seq (.region g5 [⟨some 6, none, .move (.c (.bool false)), []⟩]) .ret) .skip)) (.seq (.region g5 [⟨some 104, none, .move (.s 0), []⟩, ⟨some 105, none, .call (.c (.fn 17)) [.s 104], []⟩, ⟨some 13, none, .move (.s 105), []⟩]) (.seq (.region g5 [⟨some 106, none, .move (.s 7), []⟩, ⟨some 107, none, .move (.s 106), []⟩, ⟨some 108, some (107, true), .move (.s 13), []⟩, ⟨some 109, some (107, true), .bin (.geq) (.s 108) (.c (.int .i64 1)), []⟩, ⟨some 110, none, .pick (.s 107) (.s 109) (.c (.bool false)), []⟩, ⟨some 111, none, .move (.s 110), []⟩, ⟨some 112, some (111, true), .move (.s 13), []⟩, ⟨some 113, some (111, true), .fldA 0 (.s 9), []⟩, ⟨some 114, some (111, true), .load 1 false (.s 113), []⟩, ⟨some 115, some (111, true), .fldA 0 (.s 8), []⟩, ⟨some 116, some (111, true), .load 1 false (.s 115), []⟩, ⟨some 117, some (111, true), .bin (.sub) (.s 114) (.s 116), []⟩, ⟨some 118, some (111, true), .bin (.mul) (.c (.int .i64 2)) (.s 117), []⟩, ⟨some 119, some (111, true), .fldA 1 (.s 9), []⟩, ⟨some 120, some (111, true), .load 1 false (.s 119), []⟩, ⟨some 121, some (111, true), .fldA 1 (.s 8), []⟩, ⟨some 122, some (111, true), .load 1 false (.s 121), []⟩, ⟨some 123, some (111, true), .bin (.sub) (.s 120) (.s 122), []⟩, ⟨some 124, some (111, true), .bin (.mul) (.s 118) (.s 123), []⟩, ⟨some 125, some (111, true), .bin (.leq) (.s 112) (.s 124), []⟩, ⟨some 126, none, .pick (.s 111) (.s 125) (.c (.bool false)), []⟩, ⟨some 6, none, .move (.s 126), []⟩]) .ret))))))))))
def r5 : List SRes := [.slot 6]
def k5 : List (Nat × Nat × SCode × Nat) := []
theorem e5 : cFunc Try.prog 5 g5 [] [] k5 = some (c5, r5, 127) := by kernel_rfl
theorem q5 : RgOk Try.prog k5 := RgOk.nil
set_option maxHeartbeats 4000000 in
theorem law5_ok : law5.Ok Try.prog 5 := by
  refine Eng.Spec.ok_of e5 q5 (fun _ => [(11, .p headS), (12, .p FewN), (13, .p BoxX), (15, .p ValidX), (17, .p TwiceX), (19, .p WhereX), (26, .p Between)]) (fun _ _ => TabOk.p head_ok (TabOk.p FewN_ok (TabOk.p BoxX_ok (TabOk.p ValidX_ok (TabOk.p TwiceX_ok (TabOk.p WhereX_ok (TabOk.p Between_ok TabOk.nil))))))) ?_
  rintro ⟨a, p, raw⟩ ⟨ha, hr0, hr1⟩
  replace ha : (a.n : Int) ≤ 9223372036854775806 := ha
  replace hr0 : 0 ≤ raw := hr0
  replace hr1 : raw ≤ 255 := hr1
  refine ⟨trivial, ?_⟩
  repeat' (first | refine And.intro ?_ ?_ | exact trivial | exact rfl | exact fun (j : Nat) (hj : j < _) => Or.inl (sub_ptN _ _ _ _) | (refine fun (_ : guardP _ _ _ _) => ?_) | exact ha)
  · refine fun (_ : pickB _ _ _ _ _ = true) => ?_
    repeat' (first | refine And.intro ?_ ?_ | exact trivial | exact rfl | exact fun (j : Nat) (hj : j < _) => Or.inl (sub_ptN _ _ _ _))
  refine fun (h : pickB (!few0 a) _ _ _ (!valX a) = false) => ?_
  rw [pickB_or, Bool.or_eq_false_iff] at h
  have hvx := not_f h.2
  have hv := hvx
  rw [valX_eq] at hv
  have hn3 := (val_ok hv).2.1.1
  have ho := (val_ok hv).1.2
  have an0 : (a.n : Int) ≠ 0 := by omega
  repeat' (first | refine And.intro ?_ ?_ | exact trivial | exact rfl | exact fun (j : Nat) (hj : j < _) => Or.inl (sub_ptN _ _ _ _) | (refine fun (_ : guardP _ _ _ _) => ?_) | exact ha)
  · exact fun (k : decide ((a.n : Int) = 0) = true) => absurd (of_decide_eq_true k) an0
  refine fun (_ : decide ((a.n : Int) = 0) = false) => ?_
  have hbx := box_val hv
  have ht0 := hbx.1
  have hG : pickB (!decide ((boxX a).2.2 = 0)) (.c (.bool true)) (.s 67) true (pickB (pickB (pickB (pickB (decide (p.1 < (boxX a).1.1)) (.c (.bool true)) (.s 46) true (decide ((boxX a).2.1.1 < p.1))) (.c (.bool true)) (.s 53) true (decide (p.2 < (boxX a).1.2))) (.c (.bool true)) (.s 60) true (decide ((boxX a).2.1.2 < p.2))) (.s 66) (.c (.bool false)) (!decide (wheX a p = -1)) false) = false := by
    rw [pickB_or, pickB_and, pickB_or, pickB_or, pickB_or, Bool.or_eq_false_iff]
    refine ⟨by rw [ht0]; rfl, ?_⟩
    rw [Bool.and_eq_false_imp, Bool.or_eq_true, Bool.or_eq_true, Bool.or_eq_true, decide_eq_true_eq, decide_eq_true_eq, decide_eq_true_eq, decide_eq_true_eq]
    intro k
    rw [hbx.2.2.1 p k]
    rfl
  repeat' (first | refine And.intro ?_ ?_ | exact trivial | exact rfl | exact fun (j : Nat) (hj : j < _) => Or.inl (sub_ptN _ _ _ _) | (refine fun (_ : guardP _ _ _ _) => ?_) | exact ha)
  · exact fun (k : pickB _ _ _ _ _ = true) => no_tf hG k
  refine fun (_ : pickB _ _ _ _ _ = false) => ?_
  have hrem : 0 ≤ raw.tmod (a.n : Int) ∧ raw.tmod (a.n : Int) < (a.n : Int) := by
    rw [Int.tmod_eq_emod_of_nonneg hr0]
    exact ⟨Int.emod_nonneg _ an0, Int.emod_lt_of_pos _ (by omega)⟩
  have l1 := hrem.1
  have l2 := hrem.2
  have h40 := (val_ok hv).2.1.2
  have hrem2 : 0 ≤ (raw.tmod (a.n : Int) + 1).tmod (a.n : Int) ∧ (raw.tmod (a.n : Int) + 1).tmod (a.n : Int) < (a.n : Int) := by
    rw [Int.tmod_eq_emod_of_nonneg (show 0 ≤ raw.tmod (a.n : Int) + 1 by omega)]
    exact ⟨Int.emod_nonneg _ an0, Int.emod_lt_of_pos _ (by omega)⟩
  have l3 := hrem2.1
  have l4 := hrem2.2
  have hk : (raw.tmod (a.n : Int)).toNat < a.n := by omega
  have hkn : a.p ((raw.tmod (a.n : Int) + 1).tmod (a.n : Int)).toNat = nxt a (raw.tmod (a.n : Int)).toNat := by
    have e := tmod_nx (i := (raw.tmod (a.n : Int)).toNat) (n := a.n) (by omega)
    rw [Int.toNat_of_nonneg l1] at e
    rw [e]
    rfl
  have g1 : -9223372036854775808 ≤ raw := by omega
  have g2 : raw ≤ 9223372036854775807 := by omega
  have g3 : -9223372036854775808 ≤ raw.tmod (a.n : Int) + 1 := by omega
  have g4 : raw.tmod (a.n : Int) + 1 ≤ 9223372036854775807 := by omega
  have hB : pickB (!decide (wheX a (a.p (raw.tmod (a.n : Int)).toNat) = 0)) (.c (.bool true)) (.s 102) true (pickB (betV p (a.p (raw.tmod (a.n : Int)).toNat) (a.p ((raw.tmod (a.n : Int) + 1).tmod (a.n : Int)).toNat)) (.s 101) (.c (.bool false)) (!decide (wheX a p = 0)) false) = false := by
    rw [pickB_or, pickB_and, hkn, wheX_eq, whe_on hv (ho _ hk) hk (by unfold onS; rw [eqP_iff.2 rfl]; rfl), Bool.or_eq_false_iff]
    refine ⟨rfl, ?_⟩
    rw [Bool.and_eq_false_imp]
    intro k
    unfold betV at k
    simp only [Bool.and_eq_true] at k
    rw [whe_on hv k.1.1.1 hk k.2]
    rfl
  repeat' (first | with_reducible exact g1 | with_reducible exact g2 | with_reducible exact g3 | with_reducible exact g4 | with_reducible exact an0 | with_reducible exact l1 | with_reducible exact l2 | with_reducible exact l3 | with_reducible exact l4 | refine And.intro ?_ ?_ | exact trivial | exact rfl | exact fun (j : Nat) (hj : j < _) => Or.inl (sub_ptN _ _ _ _) | (refine fun (_ : guardP _ _ _ _) => ?_) | exact ha)
  · exact fun (k : pickB _ _ _ _ _ = true) => no_tf hB k
  refine fun (_ : pickB _ _ _ _ _ = false) => ?_
  have hb2 := hbx.2.1
  have mb := mul_bd (a := (boxX a).2.1.1 - (boxX a).1.1) (b := (boxX a).2.1.2 - (boxX a).1.2) (B := 32767) (by omega) (by omega) (by omega) (by omega)
  have me : 2 * ((boxX a).2.1.1 - (boxX a).1.1) * ((boxX a).2.1.2 - (boxX a).1.2) = 2 * (((boxX a).2.1.1 - (boxX a).1.1) * ((boxX a).2.1.2 - (boxX a).1.2)) := Int.mul_assoc _ _ _
  have m1 : -9223372036854775808 ≤ (boxX a).2.1.1 - (boxX a).1.1 := by omega
  have m2 : (boxX a).2.1.1 - (boxX a).1.1 ≤ 9223372036854775807 := by omega
  have m3 : -9223372036854775808 ≤ 2 * ((boxX a).2.1.1 - (boxX a).1.1) := by omega
  have m4 : 2 * ((boxX a).2.1.1 - (boxX a).1.1) ≤ 9223372036854775807 := by omega
  have m5 : -9223372036854775808 ≤ (boxX a).2.1.2 - (boxX a).1.2 := by omega
  have m6 : (boxX a).2.1.2 - (boxX a).1.2 ≤ 9223372036854775807 := by omega
  have m7 : -9223372036854775808 ≤ 2 * ((boxX a).2.1.1 - (boxX a).1.1) * ((boxX a).2.1.2 - (boxX a).1.2) := by omega
  have m8 : 2 * ((boxX a).2.1.1 - (boxX a).1.1) * ((boxX a).2.1.2 - (boxX a).1.2) ≤ 9223372036854775807 := by omega
  have c1 : decide (1 ≤ twiX a) = true := decide_eq_true hbx.2.2.2.1
  have c2 : decide (twiX a ≤ 2 * ((boxX a).2.1.1 - (boxX a).1.1) * ((boxX a).2.1.2 - (boxX a).1.2)) = true := decide_eq_true hbx.2.2.2.2
  have d2 := pand (pand (show true = true from rfl) c1 (i := 109)) c2 (i := 125)
  repeat' (first | refine And.intro ?_ ?_ | exact trivial | exact rfl | exact fun (j : Nat) (hj : j < _) => Or.inl (sub_ptN _ _ _ _) | (refine fun (_ : guardP _ _ _ _) => ?_) | exact ha)
  · exact m1
  · exact m2
  · exact m3
  · exact m4
  · exact m5
  · exact m6
  · exact m7
  · exact m8
  exact d2
end G23
