/- A part of the proof: see the last text. -/
import Derived.Test.YtcckdpimimkejaaG26
open Go Go.Eng Go.Proofs G1 G2 G3 G4 G5 G6 G7 G8 G9 G10 G11 G12 G13 G14 G15 G16 J9 J10 K6 K7 K8 K9 G25 G26
set_option maxRecDepth 100000
namespace G27
theorem sam_iff {a b : Pts} : samV a b = true ↔ ∃ k, k < a.n ∧ a.n = b.n ∧ ∀ i, i < a.n → a.p ((i + k) % a.n) = b.p i := by
  unfold samV
  rw [orB_true]
  constructor
  · rintro ⟨k, hk, h⟩
    exact ⟨k, hk, eqK_iff.1 h⟩
  · rintro ⟨k, hk, h⟩
    exact ⟨k, hk, eqK_iff.2 h⟩
theorem wit_self (a : Pts) : witX a a = valX a := by
  rw [witX_eq, valX_eq, Bool.eq_iff_iff, wit_iff]
  exact ⟨fun h => h.1.1, fun h => ⟨⟨h, h⟩, Sub.refl a⟩⟩
section
variable {a b : Pts} (h : witX a b = true)
include h
theorem wit_v : valX a = true ∧ valX b = true := by
  rw [witX_eq] at h
  rw [valX_eq]
  exact (wit_iff.1 h).1
theorem wit_tw : ¬ twiX b < twiX a := by
  rw [witX_eq] at h
  obtain ⟨⟨va, vb⟩, hs⟩ := wit_iff.1 h
  have := tw_sub va vb hs
  rw [twiX_eq]
  unfold twiV
  rw [if_pos va, if_pos vb]
  omega
theorem wit_wh (p : Pt) : ¬ wheX b p < wheX a p := by
  rw [witX_eq] at h
  obtain ⟨⟨va, vb⟩, hs⟩ := wit_iff.1 h
  have := whe_sub va vb hs p
  rw [wheX_eq]
  omega
theorem wit_tr (c : Pts) : (witX b c && !witX a c) = false := by
  rw [witX_eq] at *
  cases k : witV b c with
  | false => rfl
  | true =>
    obtain ⟨⟨va, _⟩, hs⟩ := wit_iff.1 h
    obtain ⟨⟨_, vc⟩, ht⟩ := wit_iff.1 k
    rw [wit_iff.2 ⟨⟨va, vc⟩, hs.trans ht⟩]
    rfl
theorem sam_sub : samX a b = true ↔ Sub b a := by
  rw [witX_eq] at h
  obtain ⟨⟨va, vb⟩, hs⟩ := wit_iff.1 h
  rw [samX_eq, sam_iff]
  constructor
  · rintro ⟨k, _, en, hk⟩
    exact (rot_sub (cl_val va).pos en hk).2.1
  · intro h'
    exact eq_rot va vb hs h'
theorem wit_sam : witX b a = samX a b := by
  rw [Bool.eq_iff_iff, sam_sub h]
  rw [witX_eq] at *
  obtain ⟨⟨va, vb⟩, _⟩ := wit_iff.1 h
  rw [wit_iff]
  exact ⟨fun k => k.2, fun k => ⟨⟨vb, va⟩, k⟩⟩
theorem tw_sam : decide (twiX a = twiX b) = samX a b := by
  rw [Bool.eq_iff_iff, sam_sub h, decide_eq_true_eq]
  rw [witX_eq] at h
  obtain ⟨⟨va, vb⟩, hs⟩ := wit_iff.1 h
  rw [twiX_eq]
  unfold twiV
  rw [if_pos va, if_pos vb]
  constructor
  · intro e
    exact tw_eq va vb hs e
  · intro h'
    have := tw_sub va vb hs
    have := tw_sub vb va h'
    omega
end
def law7 : Eng.Spec where
  X := X8
  args := fun x => .cons (rgE x.a) (.cons (rgE x.b) (.cons (rgE x.c) (.cons (ptE x.p) .nil)))
  pre := fun x => (x.a.n : Int) ≤ 9223372036854775806 ∧ (x.b.n : Int) ≤ 9223372036854775806 ∧ (x.c.n : Int) ≤ 9223372036854775806
  res := fun _ => .bool true
  inst := fun _ => none
/-- gazetteer/gazetteerlaw08.PolygonWithin -/
def g7 : List Nat := [3, 19, 26, 30, 7, 2, 66, 9, 0, 1, 8]
def c7 : SCode :=
  .seq (.region g7 [⟨some 7, none, .box 24 (.s 3), []⟩, ⟨some 8, none, .move (.c (.bool false)), []⟩]) (.seq (.region g7 [⟨some 10, none, .call (.c (.fn 11)) [], []⟩, ⟨some 9, none, .move (.s 10), []⟩]) (.seq (.seq (.region g7 [⟨some 11, none, .move (.s 0), []⟩, ⟨some 12, none, .move (.s 1), []⟩, ⟨some 13, none, .call (.c (.fn 12)) [.s 11, .s 12], []⟩, ⟨some 14, none, .not (.s 13), []⟩, ⟨some 15, none, .move (.s 14), []⟩, ⟨some 16, some (15, false), .move (.s 2), []⟩, ⟨some 17, some (15, false), .call (.c (.fn 12)) [.s 16, .c (.nilsl)], []⟩, ⟨some 18, some (15, false), .not (.s 17), []⟩, ⟨some 19, none, .pick (.s 15) (.c (.bool true)) (.s 18), []⟩]) (.cond (.s 19) (.seq (.region g7 [⟨some 20, none, .move (.s 9), []⟩, ⟨some 8, none, .move (.s 20), []⟩]) .ret) .skip)) (.seq (.seq (.region g7 [⟨some 21, none, .move (.s 0), []⟩, ⟨some 22, none, .move (.s 0), []⟩, ⟨some 23, none, .call (.c (.fn 21)) [.s 21, .s 22], []⟩, ⟨some 24, none, .move (.s 0), []⟩, ⟨some 25, none, .call (.c (.fn 15)) [.s 24], []⟩, ⟨some 26, none, .eqB true (.s 23) (.s 25), []⟩]) (.cond (.s 26) (.seq (.region g7 [⟨some 8, none, .move (.c (.bool false)), []⟩]) .ret) .skip)) (.seq (.seq (.region g7 [⟨some 27, none, .move (.s 0), []⟩, ⟨some 28, none, .move (.s 1), []⟩, ⟨some 29, none, .call (.c (.fn 21)) [.s 27, .s 28], []⟩, ⟨some 30, none, .not (.s 29), []⟩]) (.cond (.s 30) (.seq (.region g7 [⟨some 31, none, .move (.s 9), []⟩, ⟨some 8, none, .move (.s 31), []⟩]) .ret) .skip)) (.seq (.seq (.drawn g7 (.pure 0 ⟨some 32, none, .move (.s 0), []⟩ (.pure 1 ⟨some 33, none, .call (.c (.fn 15)) [.s 32], []⟩ (.pure 2 ⟨some 34, none, .not (.s 33), []⟩ (.pure 3 ⟨some 35, none, .move (.s 34), []⟩ (.pure 4 ⟨some 36, some (35, false), .move (.s 1), []⟩ (.pure 5 ⟨some 37, some (35, false), .call (.c (.fn 15)) [.s 36], []⟩ (.pure 6 ⟨some 38, some (35, false), .not (.s 37), []⟩ (.pure 7 ⟨some 39, none, .pick (.s 35) (.c (.bool true)) (.s 38), []⟩ (.pure 8 ⟨some 40, none, .move (.s 39), []⟩ (.pure 9 ⟨some 41, some (40, false), .move (.s 0), []⟩ (.pure 10 ⟨some 42, some (40, false), .call (.c (.fn 17)) [.s 41], []⟩ (.pure 11 ⟨some 43, some (40, false), .move (.s 1), []⟩ (.pure 12 ⟨some 44, some (40, false), .call (.c (.fn 17)) [.s 43], []⟩ (.pure 13 ⟨some 45, some (40, false), .bin (.gtr) (.s 42) (.s 44), []⟩ (.pure 14 ⟨some 46, none, .pick (.s 40) (.c (.bool true)) (.s 45), []⟩ (.pure 15 ⟨some 47, none, .move (.s 46), []⟩ (.pure 16 ⟨some 48, some (47, false), .move (.s 0), []⟩ (.pure 17 ⟨some 49, some (47, false), .load 2 true (.s 7), []⟩ (.pure 18 ⟨some 50, some (47, false), .call (.c (.fn 19)) [.s 48, .s 49], []⟩ (.pure 19 ⟨some 51, some (47, false), .move (.s 1), []⟩ (.pure 20 ⟨some 52, some (47, false), .load 2 true (.s 7), []⟩ (.pure 21 ⟨some 53, some (47, false), .call (.c (.fn 19)) [.s 51, .s 52], []⟩ (.pure 22 ⟨some 54, some (47, false), .bin (.gtr) (.s 50) (.s 53), []⟩ (.pure 23 ⟨some 55, none, .pick (.s 47) (.c (.bool true)) (.s 54), []⟩ (.pure 24 ⟨some 56, none, .move (.s 55), []⟩ (.pure 25 ⟨some 57, some (56, false), .move (.s 1), []⟩ (.pure 26 ⟨some 58, some (56, false), .move (.s 2), []⟩ (.pure 27 ⟨some 59, some (56, false), .call (.c (.fn 21)) [.s 57, .s 58], []⟩ (.pure 28 ⟨some 60, some (56, false), .move (.s 59), []⟩ (.pure 29 ⟨some 61, some (60, true), .move (.s 0), []⟩ (.pure 30 ⟨some 62, some (60, true), .move (.s 2), []⟩ (.pure 31 ⟨some 63, some (60, true), .call (.c (.fn 21)) [.s 61, .s 62], []⟩ (.pure 32 ⟨some 64, some (60, true), .not (.s 63), []⟩ (.pure 33 ⟨some 65, some (56, false), .pick (.s 60) (.s 64) (.c (.bool false)), []⟩ (.pure 34 ⟨some 66, none, .pick (.s 56) (.c (.bool true)) (.s 65), []⟩ .done)))))))))))))))))))))))))))))))))))) (.cond (.s 66) (.seq (.region g7 [⟨some 8, none, .move (.c (.bool false)), []⟩]) .ret) .skip)) (.seq (.region g7 [⟨some 67, none, .move (.s 9), []⟩, ⟨some 68, none, .move (.s 67), []⟩, ⟨some 69, some (68, true), .move (.s 1), []⟩, ⟨some 70, some (68, true), .move (.s 0), []⟩, ⟨some 71, some (68, true), .call (.c (.fn 21)) [.s 69, .s 70], []⟩, ⟨some 72, some (68, true), .move (.s 0), []⟩, ⟨some 73, some (68, true), .move (.s 1), []⟩, ⟨some 74, some (68, true), .call (.c (.fn 28)) [.s 72, .s 73], []⟩, ⟨some 75, some (68, true), .eqB false (.s 71) (.s 74), []⟩, ⟨some 76, none, .pick (.s 68) (.s 75) (.c (.bool false)), []⟩, ⟨some 77, none, .move (.s 76), []⟩, ⟨some 78, some (77, true), .move (.s 0), []⟩, ⟨some 79, some (77, true), .call (.c (.fn 17)) [.s 78], []⟩, ⟨some 80, some (77, true), .move (.s 1), []⟩, ⟨some 81, some (77, true), .call (.c (.fn 17)) [.s 80], []⟩, ⟨some 82, some (77, true), .bin (.eql) (.s 79) (.s 81), []⟩, ⟨some 83, some (77, true), .move (.s 0), []⟩, ⟨some 84, some (77, true), .move (.s 1), []⟩, ⟨some 85, some (77, true), .call (.c (.fn 28)) [.s 83, .s 84], []⟩, ⟨some 86, some (77, true), .eqB false (.s 82) (.s 85), []⟩, ⟨some 87, none, .pick (.s 77) (.s 86) (.c (.bool false)), []⟩, ⟨some 8, none, .move (.s 87), []⟩]) .ret))))))
def r7 : List SRes := [.slot 8]
def k7 : List (Nat × Nat × SCode × Nat) := []
theorem e7 : cFunc Try.prog 7 g7 [] [] k7 = some (c7, r7, 88) := by kernel_rfl
theorem q7 : RgOk Try.prog k7 := RgOk.nil
set_option maxHeartbeats 4000000 in
theorem law7_ok : law7.Ok Try.prog 7 := by
  refine Eng.Spec.ok_of e7 q7 (fun _ => [(11, .p headS), (12, .p FewB), (15, .p ValidX), (17, .p TwiceX), (19, .p WhereX), (21, .p WithinX), (28, .p sameS)]) (fun _ _ => TabOk.p head_ok (TabOk.p FewB_ok (TabOk.p ValidX_ok (TabOk.p TwiceX_ok (TabOk.p WhereX_ok (TabOk.p WithinX_ok (TabOk.p sameS_ok TabOk.nil))))))) ?_
  rintro ⟨a, b, c, p⟩ ⟨ha, hb, hc⟩
  replace ha : (a.n : Int) ≤ 9223372036854775806 := ha
  replace hb : (b.n : Int) ≤ 9223372036854775806 := hb
  replace hc : (c.n : Int) ≤ 9223372036854775806 := hc
  refine ⟨trivial, ?_⟩
  repeat' (first | refine And.intro ?_ ?_ | exact trivial | exact rfl | exact fun (j : Nat) (hj : j < _) => Or.inl (sub_ptN _ _ _ _) | (refine fun (_ : guardP _ _ _ _) => ?_) | exact ha | exact hb | exact hc)
  · refine fun (_ : pickB (!few a b) _ _ _ (!fewE c) = true) => ?_
    repeat' (first | refine And.intro ?_ ?_ | exact trivial | exact rfl | exact fun (j : Nat) (hj : j < _) => Or.inl (sub_ptN _ _ _ _))
  refine fun (h : pickB (!few a b) _ _ _ (!fewE c) = false) => ?_
  rw [pickB_or, Bool.or_eq_false_iff] at h
  have hfw := not_f h.1
  unfold few at hfw
  simp only [Bool.and_eq_true, decide_eq_true_eq] at hfw
  have h5a : a.n ≤ 50 := by omega
  have h5b : b.n ≤ 50 := by omega
  have hS : (!(witX a a == valX a)) = false := by rw [wit_self, beq_self_eq_true]; rfl
  repeat' (first | refine And.intro ?_ ?_ | exact trivial | exact rfl | exact fun (j : Nat) (hj : j < _) => Or.inl (sub_ptN _ _ _ _) | (refine fun (_ : guardP _ _ _ _) => ?_) | exact ha | exact hb | exact hc)
  · exact fun (k : (!(witX a a == valX a)) = true) => no_tf hS k
  refine fun (_ : (!(witX a a == valX a)) = false) => ?_
  repeat' (first | refine And.intro ?_ ?_ | exact trivial | exact rfl | exact fun (j : Nat) (hj : j < _) => Or.inl (sub_ptN _ _ _ _) | (refine fun (_ : guardP _ _ _ _) => ?_) | exact ha | exact hb | exact hc)
  · refine fun (_ : (!witX a b) = true) => ?_
    repeat' (first | refine And.intro ?_ ?_ | exact trivial | exact rfl | exact fun (j : Nat) (hj : j < _) => Or.inl (sub_ptN _ _ _ _))
  refine fun (hw : (!witX a b) = false) => ?_
  have w := not_f hw
  have hG : pickB (pickB (pickB (pickB (!valX a) (.c (.bool true)) (.s 38) true (!valX b)) (.c (.bool true)) (.s 45) true (decide (twiX b < twiX a))) (.c (.bool true)) (.s 54) true (decide (wheX b p < wheX a p))) (.c (.bool true)) (.s 65) true (pickB (witX b c) (.s 64) (.c (.bool false)) (!witX a c) false) = false := by
    rw [pickB_or, pickB_or, pickB_or, pickB_or, pickB_and, (wit_v w).1, (wit_v w).2, decide_eq_false (wit_tw w), decide_eq_false (wit_wh w p), wit_tr w c]
    rfl
  have hF : pickB (pickB true (.s 75) (.c (.bool false)) (witX b a == samX a b) false) (.s 86) (.c (.bool false)) (decide (twiX a = twiX b) == samX a b) false = true := by
    rw [pickB_and, pickB_and, wit_sam w, tw_sam w, beq_self_eq_true]
    rfl
  repeat' (first | refine And.intro ?_ ?_ | exact trivial | exact rfl | exact fun (j : Nat) (hj : j < _) => Or.inl (sub_ptN _ _ _ _) | (refine fun (_ : guardP _ _ _ _) => ?_) | exact ha | exact hb | exact hc | exact h5a | exact h5b)
  · exact fun (k : pickB _ _ _ _ _ = true) => no_tf hG k
  refine fun (_ : pickB _ _ _ _ _ = false) => ?_
  repeat' (first | refine And.intro ?_ ?_ | exact trivial | exact rfl | exact fun (j : Nat) (hj : j < _) => Or.inl (sub_ptN _ _ _ _) | (refine fun (_ : guardP _ _ _ _) => ?_) | exact ha | exact hb | exact hc | exact h5a | exact h5b)
  exact hF
end G27
