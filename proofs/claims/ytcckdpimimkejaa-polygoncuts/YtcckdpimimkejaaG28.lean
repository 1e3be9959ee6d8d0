/- A part of the proof: see the last text. -/
import Derived.Test.YtcckdpimimkejaaG25
open Go Go.Eng Go.Proofs G1 G2 G3 G4 G5 G6 G7 G8 G9 G10 G11 G12 G13 G14 G15 G16 J9 J10 K6 K7 K8 K9 G25
set_option maxRecDepth 100000
namespace G28
structure X10 where
  a : Pts
  one : Int
  two : Int
  p : Pt
def law10 : Eng.Spec where
  X := X10
  args := fun x => .cons (rgE x.a) (.cons (.int .u8 x.one) (.cons (.int .u8 x.two) (.cons (ptE x.p) .nil)))
  pre := fun x => (x.a.n : Int) ≤ 9223372036854775806 ∧ (0 ≤ x.one ∧ x.one ≤ 255) ∧ 0 ≤ x.two ∧ x.two ≤ 255
  res := fun _ => .bool true
  inst := fun _ => none
/-- The two rings, as they are computed. -/
def eB (a : Pts) (I K : Int) : Pts := ⟨(K + 1).toNat - I.toNat, fun j => a.p (I.toNat + j)⟩
def eC (a : Pts) (I K : Int) : Pts := ⟨a.n - K.toNat + (I + 1).toNat, fun j => (intAt (nthE (appE (a.n - K.toNat) (fun i => ptL (a.p (K.toNat + i))) (fun i => ptL (a.p i)) j) 0), intAt (nthE (appE (a.n - K.toNat) (fun i => ptL (a.p (K.toNat + i))) (fun i => ptL (a.p i)) j) 1))⟩
theorem cutE_B {a : Pts} {I K : Int} (h0 : 0 ≤ I) (h1 : I ≤ K) : eB a I K = cutB a I.toNat K.toNat := by
  unfold eB cutB
  rw [show (K + 1).toNat - I.toNat = K.toNat - I.toNat + 1 by omega]
theorem cutE_C {a : Pts} {I K : Int} (h0 : 0 ≤ I) : eC a I K = cutC a I.toNat K.toNat := by
  unfold eC cutC
  rw [show (I + 1).toNat = I.toNat + 1 by omega]
  congr 1
  funext j
  unfold appE
  by_cases hl : j < a.n - K.toNat
  · have hb : Nat.blt j (a.n - K.toNat) = true := by rw [Nat.blt_eq]; exact hl
    rw [hb, if_pos hl]
    rfl
  · have hb : Nat.blt j (a.n - K.toNat) = false := by
      cases h : Nat.blt j (a.n - K.toNat) with
      | false => rfl
      | true => rw [Nat.blt_eq] at h; exact absurd h hl
    rw [hb, if_neg hl]
    rfl
theorem sub_eB (a : Pts) (I K : Int) {k : Keep} {hp : List (Nat × HObj)} {m n : Nat} : ∀ j, j < n → SubC k (sub k hp (m + 4)) (ptL (a.p (I.toNat + (0 + j)))) (ptL ((eB a I K).p j)) := by
  intro j _
  rw [Nat.zero_add]
  exact Or.inl (sub_ptN _ _ _ _)
theorem sub_eC (a : Pts) (I K : Int) {k : Keep} {hp : List (Nat × HObj)} {m n : Nat} : ∀ j, j < n → SubC k (sub k hp (m + 4)) (appE (a.n - K.toNat) (fun i => ptL (a.p (K.toNat + i))) (fun i => ptL (a.p i)) (0 + j)) (ptL ((eC a I K).p j)) := by
  intro j _
  rw [Nat.zero_add]
  have e : appE (a.n - K.toNat) (fun i => ptL (a.p (K.toNat + i))) (fun i => ptL (a.p i)) j = ptL ((eC a I K).p j) := by
    unfold eC
    dsimp only
    unfold appE
    cases Nat.blt j (a.n - K.toNat) <;> rfl
  rw [e]
  exact Or.inl (sub_ptN _ _ _ _)
section
variable {a : Pts} {I K : Int} (va : valX a = true) (h0 : 0 ≤ I) (h1 : I ≤ K) (h2 : K < (a.n : Int)) (wb : witX (eB a I K) a = true) (wc : witX (eC a I K) a = true)
include h0 h1 h2 wb wc
omit h2 in
theorem cut_v : (valV (cutB a I.toNat K.toNat) = true ∧ valV (cutC a I.toNat K.toNat) = true) ∧ valV a = true := by
  rw [witX_eq, cutE_B h0 h1] at wb
  rw [witX_eq, cutE_C h0] at wc
  exact ⟨⟨(wit_iff.1 wb).1.1, (wit_iff.1 wc).1.1⟩, (wit_iff.1 wb).1.2⟩
omit h2 in
theorem cut_in (p : Pt) : ((decide (wheX (eB a I K) p = 1) && !decide (wheX a p = 1)) || (decide (wheX (eC a I K) p = 1) && !decide (wheX a p = 1))) = false := by
  rw [cutE_B h0 h1] at wb ⊢
  rw [cutE_C h0] at wc ⊢
  rw [witX_eq] at wb wc
  rw [wheX_eq]
  obtain ⟨⟨vb, va⟩, sb⟩ := wit_iff.1 wb
  obtain ⟨⟨vc, _⟩, sc⟩ := wit_iff.1 wc
  have k1 := whe_sub vb va sb p
  have k2 := whe_sub vc va sc p
  have k3 : wheV a p ≤ 1 := by
    unfold wheV
    repeat' split
    all_goals omega
  rw [Bool.or_eq_false_iff]
  constructor
  · rw [Bool.and_eq_false_imp, decide_eq_true_eq, Bool.not_eq_false', decide_eq_true_eq]
    omega
  · rw [Bool.and_eq_false_imp, decide_eq_true_eq, Bool.not_eq_false', decide_eq_true_eq]
    omega
theorem cut_ap : apaX (eB a I K) (eC a I K) = true := by
  have v := cut_v h0 h1 wb wc
  rw [cutE_B h0 h1, cutE_C h0, apaX_eq]
  exact apa_iff.2 ⟨v.1, cut_dsj (by omega) (by omega) v.2⟩
theorem cut_two : twiX (eB a I K) + twiX (eC a I K) = twiX a ∧ -9223372036854775808 ≤ twiX a ∧ twiX a ≤ 9223372036854775807 := by
  have v := cut_v h0 h1 wb wc
  have e := cut_tw (a := a) (i := I.toNat) (k := K.toNat) (by omega) (by omega)
  rw [cutE_B h0 h1, cutE_C h0, twiX_eq]
  unfold twiV
  rw [if_pos v.1.1, if_pos v.1.2, if_pos v.2]
  refine ⟨e, ?_⟩
  have hr := (val_ok v.2).1.2
  have b := sum_bd (f := fun j => tw2 (a.p j) (nxt a j)) (B := 2147483648) (n := a.n) fun j hj => by
    have := tw2_bd (hr j hj) (nxt_on hr hj)
    unfold tw2
    omega
  have e2 : twV a = sumI (fun j => tw2 (a.p j) (nxt a j)) a.n := rfl
  rw [e2]
  have h40 := (val_ok v.2).2.1.2
  omega
end
/-- gazetteer/gazetteerlaw08.PolygonCuts -/
def g10 : List Nat := [3, 27, 1, 2, 41, 11, 10, 70, 7, 93, 9, 12, 13, 0, 8]
def c10 : SCode :=
  .seq (.region g10 [⟨some 7, none, .box 24 (.s 3), []⟩, ⟨some 8, none, .move (.c (.bool false)), []⟩]) (.seq (.region g10 [⟨some 14, none, .call (.c (.fn 11)) [], []⟩, ⟨some 9, none, .move (.s 14), []⟩]) (.seq (.seq (.region g10 [⟨some 15, none, .move (.s 0), []⟩, ⟨some 16, none, .call (.c (.fn 12)) [.s 15, .c (.nilsl)], []⟩, ⟨some 17, none, .not (.s 16), []⟩, ⟨some 18, none, .move (.s 17), []⟩, ⟨some 19, some (18, false), .move (.s 0), []⟩, ⟨some 20, some (18, false), .call (.c (.fn 15)) [.s 19], []⟩, ⟨some 21, some (18, false), .not (.s 20), []⟩, ⟨some 22, none, .pick (.s 18) (.c (.bool true)) (.s 21), []⟩, ⟨some 23, none, .move (.s 22), []⟩, ⟨some 24, some (23, false), .move (.s 0), []⟩, ⟨some 25, some (23, false), .lenSl (.s 24), []⟩, ⟨some 26, some (23, false), .bin (.eql) (.s 25) (.c (.int .i64 0)), []⟩, ⟨some 27, none, .pick (.s 23) (.c (.bool true)) (.s 26), []⟩]) (.cond (.s 27) (.seq (.region g10 [⟨some 28, none, .move (.s 9), []⟩, ⟨some 8, none, .move (.s 28), []⟩]) .ret) .skip)) (.seq (.drawn g10 (.pure 0 ⟨some 29, none, .move (.s 1), []⟩ (.pure 1 ⟨some 30, none, .cnv .i64 (.s 29), []⟩ (.pure 2 ⟨some 31, none, .move (.s 0), []⟩ (.pure 3 ⟨some 32, none, .lenSl (.s 31), []⟩ (.pure 4 ⟨some 33, none, .bin (.rem) (.s 30) (.s 32), []⟩ (.pure 5 ⟨some 34, none, .move (.s 2), []⟩ (.pure 6 ⟨some 35, none, .cnv .i64 (.s 34), []⟩ (.pure 7 ⟨some 36, none, .move (.s 0), []⟩ (.pure 8 ⟨some 37, none, .lenSl (.s 36), []⟩ (.pure 9 ⟨some 38, none, .bin (.rem) (.s 35) (.s 37), []⟩ (.pure 10 ⟨some 10, none, .move (.s 33), []⟩ (.pure 11 ⟨some 11, none, .move (.s 38), []⟩ .done))))))))))))) (.seq (.seq (.region g10 [⟨some 39, none, .move (.s 10), []⟩, ⟨some 40, none, .move (.s 11), []⟩, ⟨some 41, none, .bin (.gtr) (.s 39) (.s 40), []⟩]) (.cond (.s 41) (.region g10 [⟨some 42, none, .move (.s 11), []⟩, ⟨some 43, none, .move (.s 10), []⟩, ⟨some 10, none, .move (.s 42), []⟩, ⟨some 11, none, .move (.s 43), []⟩]) .skip)) (.seq (.region g10 [⟨some 44, none, .buildSl 24 2 0 (.cons (.int .i64 0) (.cons (.int .i64 0) .nil)) [], []⟩, ⟨some 45, none, .move (.s 0), []⟩, ⟨some 46, none, .move (.s 10), []⟩, ⟨some 47, none, .move (.s 11), []⟩, ⟨some 48, none, .bin (.add) (.s 47) (.c (.int .i64 1)), []⟩, ⟨some 49, none, .sliceSl 2 (.s 45) (some (.s 46)) (some (.s 48)), []⟩, ⟨some 50, none, .app 24 2 16 (.s 44) (.s 49), []⟩, ⟨some 12, none, .move (.s 50), []⟩]) (.seq (.drawn g10 (.pure 0 ⟨some 51, none, .buildSl 24 2 0 (.cons (.int .i64 0) (.cons (.int .i64 0) .nil)) [], []⟩ (.pure 1 ⟨some 52, none, .move (.s 0), []⟩ (.pure 2 ⟨some 53, none, .move (.s 11), []⟩ (.pure 3 ⟨some 54, none, .sliceSl 2 (.s 52) (some (.s 53)) none, []⟩ (.pure 5 ⟨some 56, none, .move (.s 0), []⟩ (.pure 6 ⟨some 57, none, .move (.s 10), []⟩ (.pure 7 ⟨some 58, none, .bin (.add) (.s 57) (.c (.int .i64 1)), []⟩ (.pure 8 ⟨some 59, none, .sliceSl 2 (.s 56) none (some (.s 58)), []⟩ (.eff 4 ⟨some 55, none, .app 24 2 16 (.s 51) (.s 54), []⟩ [] (.eff 9 ⟨some 60, none, .app 24 2 16 (.s 55) (.s 59), []⟩ [] (.pure 10 ⟨some 13, none, .move (.s 60), []⟩ .done) .none) .none)))))))))) (.seq (.seq (.region g10 [⟨some 61, none, .move (.s 12), []⟩, ⟨some 62, none, .move (.s 0), []⟩, ⟨some 63, none, .call (.c (.fn 21)) [.s 61, .s 62], []⟩, ⟨some 64, none, .not (.s 63), []⟩, ⟨some 65, none, .move (.s 64), []⟩, ⟨some 66, some (65, false), .move (.s 13), []⟩, ⟨some 67, some (65, false), .move (.s 0), []⟩, ⟨some 68, some (65, false), .call (.c (.fn 21)) [.s 66, .s 67], []⟩, ⟨some 69, some (65, false), .not (.s 68), []⟩, ⟨some 70, none, .pick (.s 65) (.c (.bool true)) (.s 69), []⟩]) (.cond (.s 70) (.seq (.region g10 [⟨some 71, none, .move (.s 9), []⟩, ⟨some 8, none, .move (.s 71), []⟩]) .ret) .skip)) (.seq (.seq (.region g10 [⟨some 72, none, .move (.s 12), []⟩, ⟨some 73, none, .load 2 true (.s 7), []⟩, ⟨some 74, none, .call (.c (.fn 19)) [.s 72, .s 73], []⟩, ⟨some 75, none, .bin (.eql) (.s 74) (.c (.int .i64 1)), []⟩, ⟨some 76, none, .move (.s 75), []⟩, ⟨some 77, some (76, true), .move (.s 0), []⟩, ⟨some 78, some (76, true), .load 2 true (.s 7), []⟩, ⟨some 79, some (76, true), .call (.c (.fn 19)) [.s 77, .s 78], []⟩, ⟨some 80, some (76, true), .bin (.neq) (.s 79) (.c (.int .i64 1)), []⟩, ⟨some 81, none, .pick (.s 76) (.s 80) (.c (.bool false)), []⟩, ⟨some 82, none, .move (.s 81), []⟩, ⟨some 83, some (82, false), .move (.s 13), []⟩, ⟨some 84, some (82, false), .load 2 true (.s 7), []⟩, ⟨some 85, some (82, false), .call (.c (.fn 19)) [.s 83, .s 84], []⟩, ⟨some 86, some (82, false), .bin (.eql) (.s 85) (.c (.int .i64 1)), []⟩, ⟨some 87, some (82, false), .move (.s 86), []⟩, ⟨some 88, some (87, true), .move (.s 0), []⟩, ⟨some 89, some (87, true), .load 2 true (.s 7), []⟩, ⟨some 90, some (87, true), .call (.c (.fn 19)) [.s 88, .s 89], []⟩, ⟨some 91, some (87, true), .bin (.neq) (.s 90) (.c (.int .i64 1)), []⟩, ⟨some 92, some (82, false), .pick (.s 87) (.s 91) (.c (.bool false)), []⟩, ⟨some 93, none, .pick (.s 82) (.c (.bool true)) (.s 92), []⟩]) (.cond (.s 93) (.seq (.region g10 [⟨some 8, none, .move (.c (.bool false)), []⟩]) .ret) .skip)) (.seq (.region g10 [⟨some 94, none, .move (.s 9), []⟩, ⟨some 95, none, .move (.s 94), []⟩, ⟨some 96, some (95, true), .move (.s 12), []⟩, ⟨some 97, some (95, true), .move (.s 13), []⟩, ⟨some 98, some (95, true), .call (.c (.fn 23)) [.s 96, .s 97], []⟩, ⟨some 99, none, .pick (.s 95) (.s 98) (.c (.bool false)), []⟩, ⟨some 100, none, .move (.s 99), []⟩, ⟨some 101, some (100, true), .move (.s 12), []⟩, ⟨some 102, some (100, true), .call (.c (.fn 17)) [.s 101], []⟩, ⟨some 103, some (100, true), .move (.s 13), []⟩, ⟨some 104, some (100, true), .call (.c (.fn 17)) [.s 103], []⟩, ⟨some 105, some (100, true), .bin (.add) (.s 102) (.s 104), []⟩, ⟨some 106, some (100, true), .move (.s 0), []⟩, ⟨some 107, some (100, true), .call (.c (.fn 17)) [.s 106], []⟩, ⟨some 108, some (100, true), .bin (.eql) (.s 105) (.s 107), []⟩, ⟨some 109, none, .pick (.s 100) (.s 108) (.c (.bool false)), []⟩, ⟨some 8, none, .move (.s 109), []⟩]) .ret)))))))))
def r10 : List SRes := [.slot 8]
def k10 : List (Nat × Nat × SCode × Nat) := []
theorem e10 : cFunc Try.prog 10 g10 [] [] k10 = some (c10, r10, 110) := by kernel_rfl
theorem q10 : RgOk Try.prog k10 := RgOk.nil
set_option maxHeartbeats 8000000 in
theorem law10_ok : law10.Ok Try.prog 10 := by
  refine Eng.Spec.ok_of e10 q10 (fun _ => [(11, .p headS), (12, .p FewB), (15, .p ValidX), (17, .p TwiceX), (19, .p WhereX), (21, .p WithinX), (23, .p ApartX)]) (fun _ _ => TabOk.p head_ok (TabOk.p FewB_ok (TabOk.p ValidX_ok (TabOk.p TwiceX_ok (TabOk.p WhereX_ok (TabOk.p WithinX_ok (TabOk.p ApartX_ok TabOk.nil))))))) ?_
  rintro ⟨a, one, two, p⟩ ⟨ha, ⟨hr0, hr1⟩, hs0, hs1⟩
  replace ha : (a.n : Int) ≤ 9223372036854775806 := ha
  replace hr0 : 0 ≤ one := hr0
  replace hr1 : one ≤ 255 := hr1
  replace hs0 : 0 ≤ two := hs0
  replace hs1 : two ≤ 255 := hs1
  refine ⟨trivial, ?_⟩
  repeat' (first | refine And.intro ?_ ?_ | exact trivial | exact rfl | exact fun (j : Nat) (hj : j < _) => Or.inl (sub_ptN _ _ _ _) | (refine fun (_ : guardP _ _ _ _) => ?_) | exact ha)
  · refine fun (_ : pickB (pickB (!fewE a) _ _ _ (!valX a)) _ _ _ (decide ((a.n : Int) = 0)) = true) => ?_
    repeat' (first | refine And.intro ?_ ?_ | exact trivial | exact rfl | exact fun (j : Nat) (hj : j < _) => Or.inl (sub_ptN _ _ _ _))
  refine fun (h : pickB (pickB (!fewE a) _ _ _ (!valX a)) _ _ _ (decide ((a.n : Int) = 0)) = false) => ?_
  rw [pickB_or, pickB_or, Bool.or_eq_false_iff, Bool.or_eq_false_iff] at h
  have va := not_f h.1.2
  have vv := va
  rw [valX_eq] at vv
  have hn3 := (val_ok vv).2.1.1
  have an0 : (a.n : Int) ≠ 0 := by omega
  have h40 := (val_ok vv).2.1.2
  have hi : 0 ≤ one.tmod (a.n : Int) ∧ one.tmod (a.n : Int) < (a.n : Int) := by
    rw [Int.tmod_eq_emod_of_nonneg hr0]
    exact ⟨Int.emod_nonneg _ an0, Int.emod_lt_of_pos _ (by omega)⟩
  have hk : 0 ≤ two.tmod (a.n : Int) ∧ two.tmod (a.n : Int) < (a.n : Int) := by
    rw [Int.tmod_eq_emod_of_nonneg hs0]
    exact ⟨Int.emod_nonneg _ an0, Int.emod_lt_of_pos _ (by omega)⟩
  have g1 : -9223372036854775808 ≤ one := by omega
  have g2 : one ≤ 9223372036854775807 := by omega
  have g3 : -9223372036854775808 ≤ two := by omega
  have g4 : two ≤ 9223372036854775807 := by omega
  repeat' (first | with_reducible exact an0 | with_reducible exact g1 | with_reducible exact g2 | with_reducible exact g3 | with_reducible exact g4 | refine And.intro ?_ ?_ | exact trivial | exact rfl | exact fun (j : Nat) (hj : j < _) => Or.inl (sub_ptN _ _ _ _))
  · refine fun (h0 : decide (two.tmod (a.n : Int) < one.tmod (a.n : Int)) = true) => ?_
    have h1 := of_decide_eq_true h0
    have l1 : 0 ≤ two.tmod (a.n : Int) := hk.1
    have l2 : two.tmod (a.n : Int) ≤ one.tmod (a.n : Int) := by omega
    have l3 : one.tmod (a.n : Int) < (a.n : Int) := hi.2
    have l4 : two.tmod (a.n : Int) ≤ one.tmod (a.n : Int) + 1 := by omega
    have l5 : one.tmod (a.n : Int) + 1 ≤ (a.n : Int) := by omega
    have l6 : 0 ≤ one.tmod (a.n : Int) := by omega
    have l7 : one.tmod (a.n : Int) ≤ (a.n : Int) := by omega
    have l8 : 0 ≤ two.tmod (a.n : Int) + 1 := by omega
    have l9 : two.tmod (a.n : Int) + 1 ≤ (a.n : Int) := by omega
    have b1 : -9223372036854775808 ≤ one.tmod (a.n : Int) + 1 := by omega
    have b2 : one.tmod (a.n : Int) + 1 ≤ 9223372036854775807 := by omega
    have b3 : -9223372036854775808 ≤ two.tmod (a.n : Int) + 1 := by omega
    have b4 : two.tmod (a.n : Int) + 1 ≤ 9223372036854775807 := by omega
    have f1 : (one.tmod (a.n : Int) + 1).toNat - (two.tmod (a.n : Int)).toNat ≤ 9223372036854775807 := by omega
    have f2 : ((one.tmod (a.n : Int) + 1).toNat - (two.tmod (a.n : Int)).toNat) * 16 ≤ 140737488355328 := by omega
    have f3 : a.n - (one.tmod (a.n : Int)).toNat ≤ 9223372036854775807 := by omega
    have f4 : (a.n - (one.tmod (a.n : Int)).toNat) * 16 ≤ 140737488355328 := by omega
    have f5 : a.n - (one.tmod (a.n : Int)).toNat + (two.tmod (a.n : Int) + 1).toNat ≤ 9223372036854775807 := by omega
    have f6 : (a.n - (one.tmod (a.n : Int)).toNat + (two.tmod (a.n : Int) + 1).toNat) * 16 ≤ 140737488355328 := by omega
    have g5 : 0 + ((one.tmod (a.n : Int) + 1).toNat - (two.tmod (a.n : Int)).toNat) ≤ (one.tmod (a.n : Int) + 1).toNat - (two.tmod (a.n : Int)).toNat := by omega
    have g6 : 0 + (a.n - (one.tmod (a.n : Int)).toNat + (two.tmod (a.n : Int) + 1).toNat) ≤ a.n - (one.tmod (a.n : Int)).toNat + (two.tmod (a.n : Int) + 1).toNat := by omega
    have f7 : ((eB a (two.tmod (a.n : Int)) (one.tmod (a.n : Int))).n : Int) ≤ 9223372036854775806 := by unfold eB; dsimp only; omega
    have f8 : ((eC a (two.tmod (a.n : Int)) (one.tmod (a.n : Int))).n : Int) ≤ 9223372036854775806 := by unfold eC; dsimp only; omega
    repeat' (first | with_reducible exact l1 | with_reducible exact l2 | with_reducible exact l3 | with_reducible exact l4 | with_reducible exact l5 | with_reducible exact l6 | with_reducible exact l7 | with_reducible exact l8 | with_reducible exact l9 | with_reducible exact b1 | with_reducible exact b2 | with_reducible exact b3 | with_reducible exact b4 | with_reducible exact f1 | with_reducible exact f2 | with_reducible exact f3 | with_reducible exact f4 | with_reducible exact f5 | with_reducible exact f6 | with_reducible exact g5 | with_reducible exact g6 | exact fun (j : Nat) (_ : j < _) => rfl | exact sub_eB a (two.tmod (a.n : Int)) (one.tmod (a.n : Int)) | exact sub_eC a (two.tmod (a.n : Int)) (one.tmod (a.n : Int)) | refine And.intro ?_ ?_ | exact trivial | exact rfl | exact fun (j : Nat) (hj : j < _) => Or.inl (sub_ptN _ _ _ _) | with_reducible exact g5 | with_reducible exact g6 | exact f7 | exact f8 | exact ha | (refine fun (_ : guardP _ _ _ _) => ?_))
    · refine fun (_ : pickB (!witX (eB a (two.tmod (a.n : Int)) (one.tmod (a.n : Int))) a) (.c (.bool true)) (.s 69) true (!witX (eC a (two.tmod (a.n : Int)) (one.tmod (a.n : Int))) a) = true) => ?_
      repeat' (first | refine And.intro ?_ ?_ | exact trivial | exact rfl | exact fun (j : Nat) (hj : j < _) => Or.inl (sub_ptN _ _ _ _))
    refine fun (hw : pickB (!witX (eB a (two.tmod (a.n : Int)) (one.tmod (a.n : Int))) a) (.c (.bool true)) (.s 69) true (!witX (eC a (two.tmod (a.n : Int)) (one.tmod (a.n : Int))) a) = false) => ?_
    rw [pickB_or, Bool.or_eq_false_iff] at hw
    have wb := not_f hw.1
    have wc := not_f hw.2
    have hG : pickB (pickB (decide (wheX (eB a (two.tmod (a.n : Int)) (one.tmod (a.n : Int))) p = 1)) (.s 80) (.c (.bool false)) (!decide (wheX a p = 1)) false) (.c (.bool true)) (.s 92) true (pickB (decide (wheX (eC a (two.tmod (a.n : Int)) (one.tmod (a.n : Int))) p = 1)) (.s 91) (.c (.bool false)) (!decide (wheX a p = 1)) false) = false := by
      rw [pickB_or, pickB_and, pickB_and]
      exact cut_in l1 l2 wb wc p
    have ct := cut_two l1 l2 l3 wb wc
    have t1 : -9223372036854775808 ≤ twiX (eB a (two.tmod (a.n : Int)) (one.tmod (a.n : Int))) + twiX (eC a (two.tmod (a.n : Int)) (one.tmod (a.n : Int))) := by rw [ct.1]; exact ct.2.1
    have t2 : twiX (eB a (two.tmod (a.n : Int)) (one.tmod (a.n : Int))) + twiX (eC a (two.tmod (a.n : Int)) (one.tmod (a.n : Int))) ≤ 9223372036854775807 := by rw [ct.1]; exact ct.2.2
    have hF : pickB (pickB true (.s 98) (.c (.bool false)) (apaX (eB a (two.tmod (a.n : Int)) (one.tmod (a.n : Int))) (eC a (two.tmod (a.n : Int)) (one.tmod (a.n : Int)))) false) (.s 108) (.c (.bool false)) (decide (twiX (eB a (two.tmod (a.n : Int)) (one.tmod (a.n : Int))) + twiX (eC a (two.tmod (a.n : Int)) (one.tmod (a.n : Int))) = twiX a)) false = true := by
      rw [pickB_and, pickB_and, cut_ap l1 l2 l3 wb wc, decide_eq_true ct.1]
      rfl
    repeat' (first | exact fun (j : Nat) (_ : j < _) => rfl | exact sub_eB a (two.tmod (a.n : Int)) (one.tmod (a.n : Int)) | exact sub_eC a (two.tmod (a.n : Int)) (one.tmod (a.n : Int)) | refine And.intro ?_ ?_ | exact trivial | exact rfl | exact fun (j : Nat) (hj : j < _) => Or.inl (sub_ptN _ _ _ _) | with_reducible exact g5 | with_reducible exact g6 | exact f7 | exact f8 | exact ha | (refine fun (_ : guardP _ _ _ _) => ?_))
    · exact fun (k : pickB _ _ _ _ _ = true) => no_tf hG k
    refine fun (_ : pickB _ _ _ _ _ = false) => ?_
    repeat' (first | exact fun (j : Nat) (_ : j < _) => rfl | exact sub_eB a (two.tmod (a.n : Int)) (one.tmod (a.n : Int)) | exact sub_eC a (two.tmod (a.n : Int)) (one.tmod (a.n : Int)) | refine And.intro ?_ ?_ | exact trivial | exact rfl | exact fun (j : Nat) (hj : j < _) => Or.inl (sub_ptN _ _ _ _) | with_reducible exact g5 | with_reducible exact g6 | exact f7 | exact f8 | exact ha | (refine fun (_ : guardP _ _ _ _) => ?_))
    · exact t1
    · exact t2
    exact hF
  · refine fun (h0 : decide (two.tmod (a.n : Int) < one.tmod (a.n : Int)) = false) => ?_
    have h1 := of_decide_eq_false h0
    have l1 : 0 ≤ one.tmod (a.n : Int) := hi.1
    have l2 : one.tmod (a.n : Int) ≤ two.tmod (a.n : Int) := by omega
    have l3 : two.tmod (a.n : Int) < (a.n : Int) := hk.2
    have l4 : one.tmod (a.n : Int) ≤ two.tmod (a.n : Int) + 1 := by omega
    have l5 : two.tmod (a.n : Int) + 1 ≤ (a.n : Int) := by omega
    have l6 : 0 ≤ two.tmod (a.n : Int) := by omega
    have l7 : two.tmod (a.n : Int) ≤ (a.n : Int) := by omega
    have l8 : 0 ≤ one.tmod (a.n : Int) + 1 := by omega
    have l9 : one.tmod (a.n : Int) + 1 ≤ (a.n : Int) := by omega
    have b1 : -9223372036854775808 ≤ two.tmod (a.n : Int) + 1 := by omega
    have b2 : two.tmod (a.n : Int) + 1 ≤ 9223372036854775807 := by omega
    have b3 : -9223372036854775808 ≤ one.tmod (a.n : Int) + 1 := by omega
    have b4 : one.tmod (a.n : Int) + 1 ≤ 9223372036854775807 := by omega
    have f1 : (two.tmod (a.n : Int) + 1).toNat - (one.tmod (a.n : Int)).toNat ≤ 9223372036854775807 := by omega
    have f2 : ((two.tmod (a.n : Int) + 1).toNat - (one.tmod (a.n : Int)).toNat) * 16 ≤ 140737488355328 := by omega
    have f3 : a.n - (two.tmod (a.n : Int)).toNat ≤ 9223372036854775807 := by omega
    have f4 : (a.n - (two.tmod (a.n : Int)).toNat) * 16 ≤ 140737488355328 := by omega
    have f5 : a.n - (two.tmod (a.n : Int)).toNat + (one.tmod (a.n : Int) + 1).toNat ≤ 9223372036854775807 := by omega
    have f6 : (a.n - (two.tmod (a.n : Int)).toNat + (one.tmod (a.n : Int) + 1).toNat) * 16 ≤ 140737488355328 := by omega
    have g5 : 0 + ((two.tmod (a.n : Int) + 1).toNat - (one.tmod (a.n : Int)).toNat) ≤ (two.tmod (a.n : Int) + 1).toNat - (one.tmod (a.n : Int)).toNat := by omega
    have g6 : 0 + (a.n - (two.tmod (a.n : Int)).toNat + (one.tmod (a.n : Int) + 1).toNat) ≤ a.n - (two.tmod (a.n : Int)).toNat + (one.tmod (a.n : Int) + 1).toNat := by omega
    have f7 : ((eB a (one.tmod (a.n : Int)) (two.tmod (a.n : Int))).n : Int) ≤ 9223372036854775806 := by unfold eB; dsimp only; omega
    have f8 : ((eC a (one.tmod (a.n : Int)) (two.tmod (a.n : Int))).n : Int) ≤ 9223372036854775806 := by unfold eC; dsimp only; omega
    repeat' (first | with_reducible exact l1 | with_reducible exact l2 | with_reducible exact l3 | with_reducible exact l4 | with_reducible exact l5 | with_reducible exact l6 | with_reducible exact l7 | with_reducible exact l8 | with_reducible exact l9 | with_reducible exact b1 | with_reducible exact b2 | with_reducible exact b3 | with_reducible exact b4 | with_reducible exact f1 | with_reducible exact f2 | with_reducible exact f3 | with_reducible exact f4 | with_reducible exact f5 | with_reducible exact f6 | with_reducible exact g5 | with_reducible exact g6 | exact fun (j : Nat) (_ : j < _) => rfl | exact sub_eB a (one.tmod (a.n : Int)) (two.tmod (a.n : Int)) | exact sub_eC a (one.tmod (a.n : Int)) (two.tmod (a.n : Int)) | refine And.intro ?_ ?_ | exact trivial | exact rfl | exact fun (j : Nat) (hj : j < _) => Or.inl (sub_ptN _ _ _ _) | with_reducible exact g5 | with_reducible exact g6 | exact f7 | exact f8 | exact ha | (refine fun (_ : guardP _ _ _ _) => ?_))
    · refine fun (_ : pickB (!witX (eB a (one.tmod (a.n : Int)) (two.tmod (a.n : Int))) a) (.c (.bool true)) (.s 69) true (!witX (eC a (one.tmod (a.n : Int)) (two.tmod (a.n : Int))) a) = true) => ?_
      repeat' (first | refine And.intro ?_ ?_ | exact trivial | exact rfl | exact fun (j : Nat) (hj : j < _) => Or.inl (sub_ptN _ _ _ _))
    refine fun (hw : pickB (!witX (eB a (one.tmod (a.n : Int)) (two.tmod (a.n : Int))) a) (.c (.bool true)) (.s 69) true (!witX (eC a (one.tmod (a.n : Int)) (two.tmod (a.n : Int))) a) = false) => ?_
    rw [pickB_or, Bool.or_eq_false_iff] at hw
    have wb := not_f hw.1
    have wc := not_f hw.2
    have hG : pickB (pickB (decide (wheX (eB a (one.tmod (a.n : Int)) (two.tmod (a.n : Int))) p = 1)) (.s 80) (.c (.bool false)) (!decide (wheX a p = 1)) false) (.c (.bool true)) (.s 92) true (pickB (decide (wheX (eC a (one.tmod (a.n : Int)) (two.tmod (a.n : Int))) p = 1)) (.s 91) (.c (.bool false)) (!decide (wheX a p = 1)) false) = false := by
      rw [pickB_or, pickB_and, pickB_and]
      exact cut_in l1 l2 wb wc p
    have ct := cut_two l1 l2 l3 wb wc
    have t1 : -9223372036854775808 ≤ twiX (eB a (one.tmod (a.n : Int)) (two.tmod (a.n : Int))) + twiX (eC a (one.tmod (a.n : Int)) (two.tmod (a.n : Int))) := by rw [ct.1]; exact ct.2.1
    have t2 : twiX (eB a (one.tmod (a.n : Int)) (two.tmod (a.n : Int))) + twiX (eC a (one.tmod (a.n : Int)) (two.tmod (a.n : Int))) ≤ 9223372036854775807 := by rw [ct.1]; exact ct.2.2
    have hF : pickB (pickB true (.s 98) (.c (.bool false)) (apaX (eB a (one.tmod (a.n : Int)) (two.tmod (a.n : Int))) (eC a (one.tmod (a.n : Int)) (two.tmod (a.n : Int)))) false) (.s 108) (.c (.bool false)) (decide (twiX (eB a (one.tmod (a.n : Int)) (two.tmod (a.n : Int))) + twiX (eC a (one.tmod (a.n : Int)) (two.tmod (a.n : Int))) = twiX a)) false = true := by
      rw [pickB_and, pickB_and, cut_ap l1 l2 l3 wb wc, decide_eq_true ct.1]
      rfl
    repeat' (first | exact fun (j : Nat) (_ : j < _) => rfl | exact sub_eB a (one.tmod (a.n : Int)) (two.tmod (a.n : Int)) | exact sub_eC a (one.tmod (a.n : Int)) (two.tmod (a.n : Int)) | refine And.intro ?_ ?_ | exact trivial | exact rfl | exact fun (j : Nat) (hj : j < _) => Or.inl (sub_ptN _ _ _ _) | with_reducible exact g5 | with_reducible exact g6 | exact f7 | exact f8 | exact ha | (refine fun (_ : guardP _ _ _ _) => ?_))
    · exact fun (k : pickB _ _ _ _ _ = true) => no_tf hG k
    refine fun (_ : pickB _ _ _ _ _ = false) => ?_
    repeat' (first | exact fun (j : Nat) (_ : j < _) => rfl | exact sub_eB a (one.tmod (a.n : Int)) (two.tmod (a.n : Int)) | exact sub_eC a (one.tmod (a.n : Int)) (two.tmod (a.n : Int)) | refine And.intro ?_ ?_ | exact trivial | exact rfl | exact fun (j : Nat) (hj : j < _) => Or.inl (sub_ptN _ _ _ _) | with_reducible exact g5 | with_reducible exact g6 | exact f7 | exact f8 | exact ha | (refine fun (_ : guardP _ _ _ _) => ?_))
    · exact t1
    · exact t2
    exact hF
end G28
