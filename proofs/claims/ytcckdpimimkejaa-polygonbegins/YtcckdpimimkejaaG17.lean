/- A part of the proof: see the last text. -/
import Derived.Test.YtcckdpimimkejaaG16
open Go Go.Eng Go.Proofs G1 G2 G3 G4 G5 G6 G7 G8 G9 G10 G11 G12 G13 G14 G15 G16
set_option maxRecDepth 100000
namespace G17
structure X4 where
  a : Pts
  b : Pts
  p : Pt
  raw : Int
def law4 : Eng.Spec where
  X := X4
  args := fun x => .cons (rgE x.a) (.cons (rgE x.b) (.cons (ptE x.p) (.cons (.int .u8 x.raw) .nil)))
  pre := fun x => ((x.a.n : Int) ≤ 9223372036854775806 ∧ (x.b.n : Int) ≤ 9223372036854775806) ∧ 0 ≤ x.raw ∧ x.raw ≤ 255
  res := fun _ => .bool true
  inst := fun _ => none
/-- gazetteer/gazetteerlaw08.PolygonBegins -/
def g4 : List Nat := [2, 27, 3, 6, 11, 14, 12, 15, 13, 16, 9, 17, 0, 10, 1, 8]
def c4 : SCode :=
  .seq (.region g4 [⟨some 6, none, .box 24 (.s 2), []⟩, ⟨some 8, none, .move (.c (.bool false)), []⟩]) (.seq (.region g4 [⟨some 18, none, .call (.c (.fn 11)) [], []⟩, ⟨some 9, none, .move (.s 18), []⟩]) (.seq (.seq (.region g4 [⟨some 19, none, .move (.s 0), []⟩, ⟨some 20, none, .move (.s 1), []⟩, ⟨some 21, none, .call (.c (.fn 12)) [.s 19, .s 20], []⟩, ⟨some 22, none, .not (.s 21), []⟩, ⟨some 23, none, .move (.s 22), []⟩, ⟨some 24, some (23, false), .move (.s 0), []⟩, ⟨some 25, some (23, false), .lenSl (.s 24), []⟩, ⟨some 26, some (23, false), .bin (.eql) (.s 25) (.c (.int .i64 0)), []⟩, ⟨some 27, none, .pick (.s 23) (.c (.bool true)) (.s 26), []⟩]) (.cond (.s 27) (.seq (.region g4 [⟨some 28, none, .move (.s 9), []⟩, ⟨some 8, none, .move (.s 28), []⟩]) .ret) .skip)) (.seq (.region g4 [⟨some 29, none, .move (.s 0), []⟩, ⟨some 30, none, .move (.s 3), []⟩, ⟨some 31, none, .cnv .i64 (.s 30), []⟩, ⟨some 32, none, .move (.s 0), []⟩, ⟨some 33, none, .lenSl (.s 32), []⟩, ⟨some 34, none, .bin (.rem) (.s 31) (.s 33), []⟩, ⟨some 35, none, .call (.c (.fn 25)) [.s 29, .s 34], []⟩, ⟨some 10, none, .move (.s 35), []⟩]) (.seq (.region g4 [⟨some 37, none, .move (.s 0), []⟩, ⟨some 38, none, .call (.c (.fn 13)) [.s 37], []⟩, ⟨some 36, none, .move (.s 38), []⟩, ⟨some 39, none, .extract 0 (.s 36), []⟩, ⟨some 40, none, .extract 1 (.s 36), []⟩, ⟨some 41, none, .extract 2 (.s 36), []⟩, ⟨some 11, none, .alloc 24 (.cons (.int .i64 0) (.cons (.int .i64 0) .nil)), []⟩, ⟨some 12, none, .alloc 24 (.cons (.int .i64 0) (.cons (.int .i64 0) .nil)), []⟩, ⟨none, none, .store 2 (.s 11) (.s 39), []⟩, ⟨none, none, .store 2 (.s 12) (.s 40), []⟩, ⟨some 13, none, .move (.s 41), []⟩]) (.seq (.region g4 [⟨some 43, none, .move (.s 10), []⟩, ⟨some 44, none, .call (.c (.fn 13)) [.s 43], []⟩, ⟨some 42, none, .move (.s 44), []⟩, ⟨some 45, none, .extract 0 (.s 42), []⟩, ⟨some 46, none, .extract 1 (.s 42), []⟩, ⟨some 47, none, .extract 2 (.s 42), []⟩, ⟨some 14, none, .alloc 24 (.cons (.int .i64 0) (.cons (.int .i64 0) .nil)), []⟩, ⟨some 15, none, .alloc 24 (.cons (.int .i64 0) (.cons (.int .i64 0) .nil)), []⟩, ⟨none, none, .store 2 (.s 14) (.s 45), []⟩, ⟨none, none, .store 2 (.s 15) (.s 46), []⟩, ⟨some 16, none, .move (.s 47), []⟩]) (.seq (.drawn g4 (.pure 0 ⟨some 48, none, .move (.s 0), []⟩ (.pure 1 ⟨some 49, none, .call (.c (.fn 15)) [.s 48], []⟩ (.pure 2 ⟨some 50, none, .move (.s 10), []⟩ (.pure 3 ⟨some 51, none, .call (.c (.fn 15)) [.s 50], []⟩ (.pure 4 ⟨some 52, none, .eqB false (.s 49) (.s 51), []⟩ (.pure 5 ⟨some 53, none, .move (.s 52), []⟩ (.pure 6 ⟨some 54, some (53, true), .move (.s 0), []⟩ (.pure 7 ⟨some 55, some (53, true), .call (.c (.fn 17)) [.s 54], []⟩ (.pure 8 ⟨some 56, some (53, true), .move (.s 10), []⟩ (.pure 9 ⟨some 57, some (53, true), .call (.c (.fn 17)) [.s 56], []⟩ (.pure 10 ⟨some 58, some (53, true), .bin (.eql) (.s 55) (.s 57), []⟩ (.pure 11 ⟨some 59, none, .pick (.s 53) (.s 58) (.c (.bool false)), []⟩ (.pure 12 ⟨some 60, none, .move (.s 59), []⟩ (.pure 13 ⟨some 61, some (60, true), .move (.s 0), []⟩ (.pure 14 ⟨some 62, some (60, true), .load 2 true (.s 6), []⟩ (.pure 15 ⟨some 63, some (60, true), .call (.c (.fn 19)) [.s 61, .s 62], []⟩ (.pure 16 ⟨some 64, some (60, true), .move (.s 10), []⟩ (.pure 17 ⟨some 65, some (60, true), .load 2 true (.s 6), []⟩ (.pure 18 ⟨some 66, some (60, true), .call (.c (.fn 19)) [.s 64, .s 65], []⟩ (.pure 19 ⟨some 67, some (60, true), .bin (.eql) (.s 63) (.s 66), []⟩ (.pure 20 ⟨some 68, none, .pick (.s 60) (.s 67) (.c (.bool false)), []⟩ (.pure 21 ⟨some 69, none, .move (.s 68), []⟩ (.pure 22 ⟨some 70, some (69, true), .load 2 true (.s 11), []⟩ (.pure 23 ⟨some 71, some (69, true), .load 2 true (.s 14), []⟩ (.pure 24 ⟨some 72, some (69, true), .eqS false [(0, 1), (1, 1)] (.s 70) (.s 71), []⟩ (.pure 25 ⟨some 73, none, .pick (.s 69) (.s 72) (.c (.bool false)), []⟩ (.pure 26 ⟨some 74, none, .move (.s 73), []⟩ (.pure 27 ⟨some 75, some (74, true), .load 2 true (.s 12), []⟩ (.pure 28 ⟨some 76, some (74, true), .load 2 true (.s 15), []⟩ (.pure 29 ⟨some 77, some (74, true), .eqS false [(0, 1), (1, 1)] (.s 75) (.s 76), []⟩ (.pure 30 ⟨some 78, none, .pick (.s 74) (.s 77) (.c (.bool false)), []⟩ (.pure 31 ⟨some 79, none, .move (.s 78), []⟩ (.pure 32 ⟨some 80, some (79, true), .move (.s 13), []⟩ (.pure 33 ⟨some 81, some (79, true), .move (.s 16), []⟩ (.pure 34 ⟨some 82, some (79, true), .bin (.eql) (.s 80) (.s 81), []⟩ (.pure 35 ⟨some 83, none, .pick (.s 79) (.s 82) (.c (.bool false)), []⟩ (.pure 36 ⟨some 17, none, .move (.s 83), []⟩ .done)))))))))))))))))))))))))))))))))))))) (.seq (.region g4 [⟨some 84, none, .move (.s 9), []⟩, ⟨some 85, none, .move (.s 84), []⟩, ⟨some 86, some (85, true), .move (.s 17), []⟩, ⟨some 87, none, .pick (.s 85) (.s 86) (.c (.bool false)), []⟩, ⟨some 88, none, .move (.s 87), []⟩, ⟨some 89, some (88, true), .move (.s 0), []⟩, ⟨some 90, some (88, true), .move (.s 1), []⟩, ⟨some 91, some (88, true), .call (.c (.fn 21)) [.s 89, .s 90], []⟩, ⟨some 92, some (88, true), .move (.s 10), []⟩, ⟨some 93, some (88, true), .move (.s 1), []⟩, ⟨some 94, some (88, true), .call (.c (.fn 21)) [.s 92, .s 93], []⟩, ⟨some 95, some (88, true), .eqB false (.s 91) (.s 94), []⟩, ⟨some 96, none, .pick (.s 88) (.s 95) (.c (.bool false)), []⟩, ⟨some 97, none, .move (.s 96), []⟩, ⟨some 98, some (97, true), .move (.s 1), []⟩, ⟨some 99, some (97, true), .move (.s 0), []⟩, ⟨some 100, some (97, true), .call (.c (.fn 21)) [.s 98, .s 99], []⟩, ⟨some 101, some (97, true), .move (.s 1), []⟩, ⟨some 102, some (97, true), .move (.s 10), []⟩, ⟨some 103, some (97, true), .call (.c (.fn 21)) [.s 101, .s 102], []⟩, ⟨some 104, some (97, true), .eqB false (.s 100) (.s 103), []⟩, ⟨some 105, none, .pick (.s 97) (.s 104) (.c (.bool false)), []⟩, ⟨some 106, none, .move (.s 105), []⟩, ⟨some 107, some (106, true), .move (.s 0), []⟩, ⟨some 108, some (106, true), .move (.s 1), []⟩, ⟨some 109, some (106, true), .call (.c (.fn 23)) [.s 107, .s 108], []⟩, ⟨some 110, some (106, true), .move (.s 10), []⟩, ⟨some 111, some (106, true), .move (.s 1), []⟩, ⟨some 112, some (106, true), .call (.c (.fn 23)) [.s 110, .s 111], []⟩, ⟨some 113, some (106, true), .eqB false (.s 109) (.s 112), []⟩, ⟨some 114, none, .pick (.s 106) (.s 113) (.c (.bool false)), []⟩, ⟨some 8, none, .move (.s 114), []⟩]) .ret)))))))
def r4 : List SRes := [.slot 8]
def k4 : List (Nat × Nat × SCode × Nat) := []
theorem e4 : cFunc Try.prog 4 g4 [] [] k4 = some (c4, r4, 115) := by kernel_rfl
theorem q4 : RgOk Try.prog k4 := RgOk.nil
set_option maxHeartbeats 4000000 in
theorem law4_ok : law4.Ok Try.prog 4 := by
  refine Eng.Spec.ok_of e4 q4 (fun _ => [(11, .p headS), (12, .p Few), (25, .p turned), (13, .p BoxX), (15, .p ValidX), (17, .p TwiceX), (19, .p WhereX), (21, .p WithinX), (23, .p ApartX)]) (fun _ _ => TabOk.p head_ok (TabOk.p Few_ok (TabOk.p turned_ok (TabOk.p BoxX_ok (TabOk.p ValidX_ok (TabOk.p TwiceX_ok (TabOk.p WhereX_ok (TabOk.p WithinX_ok (TabOk.p ApartX_ok TabOk.nil))))))))) ?_
  rintro ⟨a, b, p, raw⟩ ⟨⟨ha, hb⟩, hr0, hr1⟩
  replace ha : (a.n : Int) ≤ 9223372036854775806 := ha
  replace hb : (b.n : Int) ≤ 9223372036854775806 := hb
  replace hr0 : 0 ≤ raw := hr0
  replace hr1 : raw ≤ 255 := hr1
  refine ⟨trivial, ?_⟩
  repeat' (first | refine And.intro ?_ ?_ | exact trivial | exact rfl | exact fun (j : Nat) (hj : j < _) => Or.inl (sub_ptN _ _ _ _))
  · refine fun (_ : pickB _ _ _ _ _ = true) => ?_
    repeat' (first | refine And.intro ?_ ?_ | exact trivial | exact rfl | exact fun (j : Nat) (hj : j < _) => Or.inl (sub_ptN _ _ _ _))
  refine fun (h : pickB (!few a b) _ _ _ (decide ((a.n : Int) = 0)) = false) => ?_
  rw [pickB_or] at h
  simp only [Bool.or_eq_false_iff] at h
  have hfw := not_f h.1
  unfold few at hfw
  simp only [Bool.and_eq_true, decide_eq_true_eq] at hfw
  have hn0 : (a.n : Int) ≠ 0 := of_decide_eq_false h.2
  have han : a.n ≤ 50 := by omega
  have hrem : 0 ≤ raw.tmod (a.n : Int) ∧ raw.tmod (a.n : Int) < (a.n : Int) := by
    rw [Int.tmod_eq_emod_of_nonneg hr0]
    exact ⟨Int.emod_nonneg _ hn0, Int.emod_lt_of_pos _ (by omega)⟩
  have hk : (raw.tmod (a.n : Int)).toNat < a.n := by omega
  have g1 : -9223372036854775808 ≤ raw := by omega
  have g2 : raw ≤ 9223372036854775807 := by omega
  have l1 := hrem.1
  have l2 := hrem.2
  have c1 : (valX a == valX (rot a (raw.tmod (a.n : Int)).toNat)) = true := by rw [valX_eq, rot_val hk]; exact beq_self_eq_true _
  have c2 : decide (twiX a = twiX (rot a (raw.tmod (a.n : Int)).toNat)) = true := by rw [twiX_eq, rot_twi hk]; exact decide_eq_true rfl
  have c3 : decide (wheX a p = wheX (rot a (raw.tmod (a.n : Int)).toNat) p) = true := by rw [wheX_eq, rot_whe hk]; exact decide_eq_true rfl
  have hbx : boxX (rot a (raw.tmod (a.n : Int)).toNat) = boxX a := by rw [boxX_eq, rot_box hk]
  have c4 : eqP (boxX a).1 (boxX (rot a (raw.tmod (a.n : Int)).toNat)).1 = true := by rw [hbx]; exact eqP_iff.2 rfl
  have c5 : eqP (boxX a).2.1 (boxX (rot a (raw.tmod (a.n : Int)).toNat)).2.1 = true := by rw [hbx]; exact eqP_iff.2 rfl
  have c6 : decide ((boxX a).2.2 = (boxX (rot a (raw.tmod (a.n : Int)).toNat)).2.2) = true := by rw [hbx]; exact decide_eq_true rfl
  have c7 : (witX a b == witX (rot a (raw.tmod (a.n : Int)).toNat) b) = true := by rw [witX_eq, rot_wit hk]; exact beq_self_eq_true _
  have c8 : (witX b a == witX b (rot a (raw.tmod (a.n : Int)).toNat)) = true := by rw [witX_eq, rot_wit' hk]; exact beq_self_eq_true _
  have c9 : (apaX a b == apaX (rot a (raw.tmod (a.n : Int)).toNat) b) = true := by rw [apaX_eq, rot_apa hk]; exact beq_self_eq_true _
  have d1 := pand (pand (pand (pand (pand c1 c2 (i := 58)) c3 (i := 67)) c4 (i := 72)) c5 (i := 77)) c6 (i := 82)
  have d2 := pand (pand (pand (pand (show true = true from rfl) d1 (i := 86)) c7 (i := 95)) c8 (i := 104)) c9 (i := 113)
  repeat' (first | with_reducible exact g1 | with_reducible exact g2 | with_reducible exact hn0 | with_reducible exact han | with_reducible exact l1 | with_reducible exact l2 | refine And.intro ?_ ?_ | exact trivial | exact rfl | exact fun (j : Nat) (hj : j < _) => Or.inl (sub_ptN _ _ _ _) | (refine fun (_ : guardP _ _ _ _) => ?_) | exact ha | exact hb)
  exact d2
end G17
