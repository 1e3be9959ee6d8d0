/- A part of the proof: see the last text. -/
import Derived.Test.YtjfjbkgkafgofaaR22
open Go Go.Eng Go.Proofs R2 R3 R4 R1 R5 R6 R7 R8 R9 R10 R10b R11 R12 R13 R14 R15 R16 R17 R18 R19 R20 R21 R22
set_option maxRecDepth 100000
namespace R23
/-- The answers without the further address: of the first i. -/
def restL (L : List Fnd) (s : List UInt8) (i : Nat) : List Fnd := (L.take i).filter (notD s)
theorem rest_t {L : List Fnd} {s : List UInt8} {i : Nat} (hi : i < L.length) (h : (L.getD i ([], 0)).1 ≠ s) : restL L s (i + 1) = restL L s i ++ [L.getD i ([], 0)] := by
  unfold restL
  rw [List.getD_eq_getElem?_getD, List.getElem?_eq_getElem hi] at *
  have h' : (L[i]).1 ≠ s := h
  rw [List.take_succ_eq_append_getElem hi, List.filter_append, List.filter_cons_of_pos]
  · rfl
  · unfold notD
    rw [decide_eq_false h']
    rfl
theorem rest_f {L : List Fnd} {s : List UInt8} {i : Nat} (hi : i < L.length) (h : (L.getD i ([], 0)).1 = s) : restL L s (i + 1) = restL L s i := by
  unfold restL
  rw [List.getD_eq_getElem?_getD, List.getElem?_eq_getElem hi] at h
  have h' : (L[i]).1 = s := h
  rw [List.take_succ_eq_append_getElem hi, List.filter_append, List.filter_cons_of_neg]
  · simp
  · unfold notD
    rw [decide_eq_true h']
    decide
theorem rest_le (L : List Fnd) (s : List UInt8) (i : Nat) : (restL L s i).length ≤ i := by
  unfold restL
  have h1 := List.length_filter_le (notD s) (L.take i)
  have h2 := List.length_take_le i L
  omega
theorem chk7 {k m r : Int} (h1 : m ≤ r) {a b : Int} (h2 : a = b) {i j : Nat} : pickB (pickB (!decide (k = k)) (.c (.bool true)) (.s i) true (decide (r < m))) (.c (.bool true)) (.s j) true (!decide (a = b)) = false := by
  rw [pickB_or, pickB_or, decide_eq_true rfl, decide_eq_false (by omega : ¬ r < m), decide_eq_true h2]
  rfl
theorem put_n0 (i : Nat) : pickB (!decide ((0 : Int) = 0)) (.c (.bool true)) (.s i) true (!decide ((0 : Int) = 0)) = false := by
  rw [pickB_or]
  rfl
theorem put_n1 {c : Int} (h : c ≠ 0) (i : Nat) : pickB (!decide ((0 : Int) = 0)) (.c (.bool true)) (.s i) true (!decide (c = 0)) = true := by
  rw [pickB_or, decide_eq_false h]
  rfl
theorem rest_sub_t {q : Keep} {hp : List (Nat × HObj)} {R R' : List Fnd} {f : Fnd} {m : Nat} {e : Nat → SV} (he : R' = R ++ [f]) (h0 : e 0 = fnL f) : ∀ j, j < R.length + 1 → sub q hp (m + 3) (appE R.length (fnAt R) e j) (fnAt R' j) := by
  intro j hj
  have e2 : appE R.length (fnAt R) e j = fnAt R' j := by
    unfold appE
    by_cases h : j < R.length
    · have hb : Nat.blt j R.length = true := by rw [Nat.blt_eq]; exact h
      rw [hb, cond_true, he]
      unfold fnAt
      rw [List.getD_eq_getElem?_getD, List.getD_eq_getElem?_getD, List.getElem?_append_left h]
    · have hj2 : j = R.length := by omega
      have hb : Nat.blt j R.length = false := by
        cases hb : Nat.blt j R.length with
        | false => rfl
        | true => rw [Nat.blt_eq] at hb; exact absurd hb h
      rw [hb, cond_false, hj2, Nat.sub_self, h0, he]
      unfold fnAt
      rw [List.getD_eq_getElem?_getD, List.getElem?_append_right (Nat.le_refl _), Nat.sub_self]
      rfl
  rw [e2]
  exact sub_fn q hp m _
theorem rest_sub_f {q : Keep} {hp : List (Nat × HObj)} {R R' : List Fnd} {m : Nat} (he : R' = R) : ∀ j, j < R.length → sub q hp (m + 3) (fnAt R j) (fnAt R' j) := by
  intro j _
  rw [he]
  exact sub_fn q hp m _
theorem rest_l_t {R R' : List Fnd} {f : Fnd} (he : R' = R ++ [f]) : R.length + 1 = R'.length := by rw [he, List.length_append]; rfl
theorem rest_l_f {R R' : List Fnd} (he : R' = R) : R.length = R'.length := by rw [he]
theorem ne_of {f : Fnd} {s : List UInt8} (h : (!decide (f.1 = s)) = true) : f.1 ≠ s := by
  simpa using h
theorem eq_of {f : Fnd} {s : List UInt8} (h : (!decide (f.1 = s)) = false) : f.1 = s := by
  simpa using h
theorem zadd1 {R : List Fnd} {i : Nat} : (R.getD (0 + i) ([], 0)).1 = (R.getD i ([], 0)).1 := by rw [Nat.zero_add]
theorem zadd2 {R : List Fnd} {i : Nat} : (R.getD (0 + i) ([], 0)).2 = (R.getD i ([], 0)).2 := by rw [Nat.zero_add]
theorem cnt_tI {p : Int × Int} {r : Int} {i k : Nat} (he : cntN p r i (k + 1) = cntN p r i k + 1) : ((cntN p r i k : Nat) : Int) + 1 = ((cntN p r i (k + 1) : Nat) : Int) := by rw [he]; rfl
theorem cnt_fI {p : Int × Int} {r : Int} {i k : Nat} (he : cntN p r i (k + 1) = cntN p r i k) : ((cntN p r i k : Nat) : Int) = ((cntN p r i (k + 1) : Nat) : Int) := by rw [he]
theorem rest_fin {D : List En} {e : En} {p : Int × Int} {m : Nat} {L M : List Fnd} (he : ¬ e.1 ∈ D.map (·.1)) (hL : L = (allS D p).take m) (hM : M = (allS (D ++ [e]) p).take m) :
    (restL M e.1 M.length).length ≤ L.length ∧ L.length ≤ (restL M e.1 M.length).length + 1 ∧ ∀ i, i < (restL M e.1 M.length).length → (restL M e.1 M.length).getD i ([], 0) = L.getD i ([], 0) := by
  obtain ⟨k, h1, h2, h3⟩ := rest_eq (p := p) he m
  have e1 : restL M e.1 M.length = (allS D p).take k := by
    unfold restL
    rw [List.take_length, hM, h1]
  rw [← hL] at h2 h3
  have hkS : k ≤ (allS D p).length := by rw [hL, List.length_take] at h2; omega
  rw [e1, List.length_take, Nat.min_eq_left hkS]
  refine ⟨h2, h3, fun i hi => ?_⟩
  rw [hL] at h2 ⊢
  rw [getD_take (by rw [List.length_take]; omega), getD_take (by omega)]
theorem chk8 {R L : List Fnd} (h1 : R.length ≤ L.length) (h2 : L.length ≤ R.length + 1) (h3 : ∀ i, i < R.length → R.getD i ([], 0) = L.getD i ([], 0)) {i j : Nat} :
    pickB (pickB (decide ((L.length : Int) < (R.length : Int))) (.c (.bool true)) (.s i) true (!sameB (twoL R L (min (R.length : Int) (L.length : Int)).toNat))) (.c (.bool true)) (.s j) true (decide ((R.length : Int) < (L.length : Int) - 1)) = false := by
  have hs : sameB (twoL R L (min (R.length : Int) (L.length : Int)).toNat) = true := same_take (by omega) h3
  rw [pickB_or, pickB_or, hs, decide_eq_false (by omega : ¬ (L.length : Int) < (R.length : Int)), decide_eq_false (by omega : ¬ (R.length : Int) < (L.length : Int) - 1)]
  rfl
theorem ring_rg (q p : Int × Int) : ringV q p = rg (cellOf p) (q.1 / 1024) (q.2 / 1024) := by
  unfold ringV rg absI cellOf
  dsimp only
  omega
theorem ring_nn (q p : Int × Int) : 0 ≤ ringV q p ∧ (onB q = true → onB p = true → ringV q p ≤ 31) := by
  refine ⟨by unfold ringV; omega, fun h1 h2 => ?_⟩
  have k1 := on_cell h1
  have k2 := on_cell h2
  unfold ringV
  omega
theorem corner_on {i k : Nat} (hi : i < 32) (hk : k < 32) : onB (1024 * (i : Int), 1024 * (k : Int)) = true := by
  rw [onB_iff]
  dsimp only
  omega
theorem ring_in {q p : Int × Int} {i k : Nat} {b : Bool} (h : decide (ringV (1024 * (i : Int), 1024 * (k : Int)) p < ringV q p) = b) : inRing p (ringV q p) (i, k) = b := by
  rw [← h, ring_rg (1024 * (i : Int), 1024 * (k : Int)) p]
  unfold inRing
  dsimp only
  rw [show 1024 * (i : Int) / 1024 = (i : Int) by omega, show 1024 * (k : Int) / 1024 = (k : Int) by omega]
theorem fin7 {D : List En} {e : En} {p : Int × Int} {most : Int} (hp : onB p = true) (he : onB e.2 = true) (hk : ((D ++ [e]).map (·.1)).Nodup) (h1 : 1 ≤ most) {r r' : Nat} (hr : r ≤ 31) (hmin : ∀ s : Nat, s < r → ¬ stopL (allS D p) p most s) (hst : stopL (allS D p) p most r)
    (hmin' : ∀ s : Nat, s < r' → ¬ stopL (allS (D ++ [e]) p) p most s) (hst' : stopL (allS (D ++ [e]) p) p most r') {L M : List Fnd} {n m : Int} (hL : L = (allS D p).take most.toNat) (hM : M = (allS (D ++ [e]) p).take most.toNat) (hn : n = cellsN p r) (hm : m = cellsN p r') {i1 i2 i3 i4 : Nat} :
    pickB true (.s i1) (.c (.bool false)) (pickB (pickB (decide (ringV e.2 p = 0)) (.c (.bool true)) (.s i2) true (decide ((cntN p (ringV e.2 p) 32 0 : Int) < n))) (.c (.bool true)) (.s i3) true (pickB (decide (m = n)) (.s i4) (.c (.bool false)) (sameB (twoL L M M.length)) false)) false = true := by
  rw [pickB_and, pickB_or, pickB_or, pickB_and]
  simp only [Bool.true_and, Bool.or_eq_true, Bool.and_eq_true, decide_eq_true_eq]
  by_cases h0 : ringV e.2 p = 0
  · exact .inl (.inl h0)
  · by_cases hc : (cntN p (ringV e.2 p) 32 0 : Int) < n
    · exact .inl (.inr hc)
    · right
      have hnn := (ring_nn e.2 p).1
      have e1 : (cntN p (ringV e.2 p) 32 0 : Int) = cellsN p (ringV e.2 p - 1) := by
        have := cnt_all hp (r := ringV e.2 p - 1) (by omega)
        rwa [show ringV e.2 p - 1 + 1 = ringV e.2 p by omega] at this
      have hlt : (r : Int) < ringV e.2 p := by
        refine Classical.byContradiction fun hge => ?_
        have h2 := cells_strict hp (r := ringV e.2 p - 1) (by omega) (on_cell he) (by rw [← ring_rg]; omega)
        rw [show ringV e.2 p - 1 + 1 = ringV e.2 p by omega] at h2
        have h3 := cells_mono hp (r := ringV e.2 p) (s := (r : Int)) (by omega) (by omega)
        omega
      obtain ⟨e2, e3⟩ := far_same hp he hk h1 hr hmin hst hmin' hst' (by rw [← ring_rg]; exact hlt)
      refine ⟨by rw [hm, hn, e2], ?_⟩
      have e4 : M = L := by rw [hM, hL, e3]
      rw [e4]
      exact same_self L
structure X7 where
  l : Adrs
  a : Adr
  p : Int × Int
  most : Int
/-- gazetteer/gazetteerlaw39.ReverseFurther -/
def g7 : List Nat := [1, 2, 11, 36, 14, 53, 10, 17, 3, 0, 79, 83, 93, 19, 18, 125, 5, 131, 135, 6, 146, 23, 22, 9, 20, 21, 16, 13, 12, 15, 8]
def c7 : SCode :=
  .seq (.region g7 [⟨some 5, none, .box 40 (.s 1), []⟩, ⟨some 6, none, .box 38 (.s 2), []⟩, ⟨some 8, none, .move (.c (.bool false)), []⟩]) (.seq (.region g7 [⟨some 24, none, .call (.c (.fn 8)) [], []⟩, ⟨some 9, none, .move (.s 24), []⟩]) (.seq (.region g7 [⟨some 26, none, .move (.s 0), []⟩, ⟨some 27, none, .call (.c (.fn 10)) [.s 26], []⟩, ⟨some 25, none, .move (.s 27), []⟩, ⟨some 28, none, .extract 0 (.s 25), []⟩, ⟨some 29, none, .extract 1 (.s 25), []⟩, ⟨some 10, none, .move (.s 28), []⟩, ⟨some 11, none, .move (.s 29), []⟩]) (.seq (.seq (.region g7 [⟨some 30, none, .move (.s 0), []⟩, ⟨some 31, none, .call (.c (.fn 9)) [.s 30], []⟩, ⟨some 32, none, .not (.s 31), []⟩, ⟨some 33, none, .move (.s 32), []⟩, ⟨some 34, some (33, false), .move (.s 11), []⟩, ⟨some 35, some (33, false), .bin (.neq) (.s 34) (.c (.int .i64 0)), []⟩, ⟨some 36, none, .pick (.s 33) (.c (.bool true)) (.s 35), []⟩]) (.cond (.s 36) (.seq (.region g7 [⟨some 37, none, .move (.s 9), []⟩, ⟨some 8, none, .move (.s 37), []⟩]) .ret) .skip)) (.seq (.region g7 [⟨some 39, none, .move (.s 10), []⟩, ⟨some 40, none, .load 2 true (.s 6), []⟩, ⟨some 41, none, .move (.s 3), []⟩, ⟨some 42, none, .call (.c (.fn 16)) [.s 39, .s 40, .s 41], []⟩, ⟨some 38, none, .move (.s 42), []⟩, ⟨some 43, none, .extract 0 (.s 38), []⟩, ⟨some 44, none, .extract 1 (.s 38), []⟩, ⟨some 45, none, .extract 2 (.s 38), []⟩, ⟨some 12, none, .move (.s 43), []⟩, ⟨some 13, none, .move (.s 44), []⟩, ⟨some 14, none, .move (.s 45), []⟩]) (.seq (.seq (.region g7 [⟨some 46, none, .move (.s 14), []⟩, ⟨some 47, none, .bin (.neq) (.s 46) (.c (.int .i64 0)), []⟩, ⟨some 48, none, .move (.s 47), []⟩, ⟨some 49, some (48, false), .move (.s 10), []⟩, ⟨some 50, some (48, false), .load 11 true (.s 5), []⟩, ⟨some 51, some (48, false), .call (.c (.fn 12)) [.s 49, .s 50], []⟩, ⟨some 52, some (48, false), .bin (.neq) (.s 51) (.c (.int .i64 0)), []⟩, ⟨some 53, none, .pick (.s 48) (.c (.bool true)) (.s 52), []⟩]) (.cond (.s 53) (.seq (.region g7 [⟨some 54, none, .move (.s 9), []⟩, ⟨some 8, none, .move (.s 54), []⟩]) .ret) .skip)) (.seq (.region g7 [⟨some 56, none, .move (.s 10), []⟩, ⟨some 57, none, .load 2 true (.s 6), []⟩, ⟨some 58, none, .move (.s 3), []⟩, ⟨some 59, none, .call (.c (.fn 16)) [.s 56, .s 57, .s 58], []⟩, ⟨some 55, none, .move (.s 59), []⟩, ⟨some 60, none, .extract 0 (.s 55), []⟩, ⟨some 61, none, .extract 1 (.s 55), []⟩, ⟨some 62, none, .extract 2 (.s 55), []⟩, ⟨some 15, none, .move (.s 60), []⟩, ⟨some 16, none, .move (.s 61), []⟩, ⟨some 17, none, .move (.s 62), []⟩]) (.seq (.seq (.region g7 [⟨some 63, none, .move (.s 17), []⟩, ⟨some 64, none, .bin (.neq) (.s 63) (.c (.int .i64 0)), []⟩, ⟨some 65, none, .move (.s 64), []⟩, ⟨some 66, some (65, false), .move (.s 16), []⟩, ⟨some 67, some (65, false), .move (.s 13), []⟩, ⟨some 68, some (65, false), .bin (.gtr) (.s 66) (.s 67), []⟩, ⟨some 69, none, .pick (.s 65) (.c (.bool true)) (.s 68), []⟩, ⟨some 70, none, .move (.s 69), []⟩, ⟨some 71, some (70, false), .move (.s 15), []⟩, ⟨some 72, some (70, false), .lenSl (.s 71), []⟩, ⟨some 73, some (70, false), .move (.s 3), []⟩, ⟨some 74, some (70, false), .move (.s 0), []⟩, ⟨some 75, some (70, false), .lenSl (.s 74), []⟩, ⟨some 76, some (70, false), .bin (.add) (.s 75) (.c (.int .i64 1)), []⟩, ⟨some 77, some (70, false), .mm false (.s 73) (.s 76), []⟩, ⟨some 78, some (70, false), .bin (.neq) (.s 72) (.s 77), []⟩, ⟨some 79, none, .pick (.s 70) (.c (.bool true)) (.s 78), []⟩]) (.cond (.s 79) (.seq (.region g7 [⟨some 8, none, .move (.c (.bool false)), []⟩]) .ret) .skip)) (.seq (.region g7 [⟨some 18, none, .move (.c (.nilsl)), []⟩]) (.seq (.seq (.region g7 [⟨some 19, none, .move (.c (.int .i64 0)), []⟩]) (.block 0 (.loop 0 [80, 81, 82, 83, 86, 87, 88, 89, 90, 91, 92, 93, 94, 95, 96, 97, 98, 99, 100, 18, 84, 85, 19] (.seq (.seq (.region g7 [⟨some 80, none, .move (.s 19), []⟩, ⟨some 81, none, .move (.s 15), []⟩, ⟨some 82, none, .lenSl (.s 81), []⟩, ⟨some 83, none, .bin (.lss) (.s 80) (.s 82), []⟩]) (.cond (.s 83) .skip (.exit 0))) (.seq (.block 1 (.seq (.drawn g7 (.pure 0 ⟨some 86, none, .move (.s 15), []⟩ (.pure 1 ⟨some 87, none, .move (.s 19), []⟩ (.pure 2 ⟨some 88, none, .idxSl 2 (.s 86) (.s 87), []⟩ (.pure 3 ⟨some 89, none, .fldA 0 (.s 88), []⟩ (.pure 4 ⟨some 90, none, .load 1 false (.s 89), []⟩ (.pure 5 ⟨some 91, none, .fldA 0 (.s 5), []⟩ (.pure 6 ⟨some 92, none, .load 1 false (.s 91), []⟩ (.pure 7 ⟨some 93, none, .bin (.neq) (.s 90) (.s 92), []⟩ .done))))))))) (.cond (.s 93) (.region g7 [⟨some 94, none, .move (.s 18), []⟩, ⟨some 95, none, .move (.s 15), []⟩, ⟨some 96, none, .move (.s 19), []⟩, ⟨some 97, none, .idxSl 2 (.s 95) (.s 96), []⟩, ⟨some 98, none, .load 2 true (.s 97), []⟩, ⟨some 99, none, .buildSl 50 2 1 (.cons (.str []) (.cons (.int .i64 0) .nil)) [(0, 2, .s 98)], []⟩, ⟨some 100, none, .app 50 2 24 (.s 94) (.s 99), []⟩, ⟨some 18, none, .move (.s 100), []⟩]) .skip))) (.region g7 [⟨some 84, none, .move (.s 19), []⟩, ⟨some 85, none, .bin (.add) (.s 84) (.c (.int .i64 1)), []⟩, ⟨some 19, none, .move (.s 85), []⟩])))))) (.seq (.seq (.region g7 [⟨some 101, none, .move (.s 18), []⟩, ⟨some 102, none, .lenSl (.s 101), []⟩, ⟨some 103, none, .move (.s 12), []⟩, ⟨some 104, none, .lenSl (.s 103), []⟩, ⟨some 105, none, .bin (.gtr) (.s 102) (.s 104), []⟩, ⟨some 106, none, .move (.s 105), []⟩, ⟨some 107, some (106, false), .move (.s 18), []⟩, ⟨some 108, some (106, false), .move (.s 12), []⟩, ⟨some 109, some (106, false), .move (.s 18), []⟩, ⟨some 110, some (106, false), .lenSl (.s 109), []⟩, ⟨some 111, some (106, false), .move (.s 12), []⟩, ⟨some 112, some (106, false), .lenSl (.s 111), []⟩, ⟨some 113, some (106, false), .mm false (.s 110) (.s 112), []⟩, ⟨some 114, some (106, false), .sliceSl 2 (.s 108) none (some (.s 113)), []⟩, ⟨some 115, some (106, false), .call (.c (.fn 18)) [.s 107, .s 114], []⟩, ⟨some 116, some (106, false), .not (.s 115), []⟩, ⟨some 117, none, .pick (.s 106) (.c (.bool true)) (.s 116), []⟩, ⟨some 118, none, .move (.s 117), []⟩, ⟨some 119, some (118, false), .move (.s 18), []⟩, ⟨some 120, some (118, false), .lenSl (.s 119), []⟩, ⟨some 121, some (118, false), .move (.s 12), []⟩, ⟨some 122, some (118, false), .lenSl (.s 121), []⟩, ⟨some 123, some (118, false), .bin (.sub) (.s 122) (.c (.int .i64 1)), []⟩, ⟨some 124, some (118, false), .bin (.lss) (.s 120) (.s 123), []⟩, ⟨some 125, none, .pick (.s 118) (.c (.bool true)) (.s 124), []⟩]) (.cond (.s 125) (.seq (.region g7 [⟨some 8, none, .move (.c (.bool false)), []⟩]) .ret) .skip)) (.seq (.region g7 [⟨some 126, none, .fldA 9 (.s 5), []⟩, ⟨some 127, none, .load 2 true (.s 126), []⟩, ⟨some 128, none, .load 2 true (.s 6), []⟩, ⟨some 129, none, .call (.c (.fn 22)) [.s 127, .s 128], []⟩, ⟨some 20, none, .move (.s 129), []⟩]) (.seq (.region g7 [⟨some 21, none, .move (.c (.int .i64 0)), []⟩]) (.seq (.seq (.region g7 [⟨some 22, none, .move (.c (.int .i64 0)), []⟩]) (.block 2 (.loop 1 [130, 131, 134, 135, 138, 139, 140, 141, 142, 143, 144, 145, 146, 147, 148, 21, 136, 137, 23, 132, 133, 22] (.seq (.seq (.region g7 [⟨some 130, none, .move (.s 22), []⟩, ⟨some 131, none, .bin (.lss) (.s 130) (.c (.int .i64 32)), []⟩]) (.cond (.s 131) .skip (.exit 2))) (.seq (.block 3 (.seq (.region g7 [⟨some 23, none, .move (.c (.int .i64 0)), []⟩]) (.block 4 (.loop 2 [134, 135, 138, 139, 140, 141, 142, 143, 144, 145, 146, 147, 148, 21, 136, 137, 23] (.seq (.seq (.region g7 [⟨some 134, none, .move (.s 23), []⟩, ⟨some 135, none, .bin (.lss) (.s 134) (.c (.int .i64 32)), []⟩]) (.cond (.s 135) .skip (.exit 4))) (.seq (.block 5 (.seq (.region g7 [⟨some 138, none, .move (.s 22), []⟩, ⟨some 139, none, .bin (.mul) (.c (.int .i64 1024)) (.s 138), []⟩, ⟨some 140, none, .move (.s 23), []⟩, ⟨some 141, none, .bin (.mul) (.c (.int .i64 1024)) (.s 140), []⟩, ⟨some 142, none, .build (.cons (.int .i64 0) (.cons (.int .i64 0) .nil)) [(0, 1, .s 139), (1, 1, .s 141)], []⟩, ⟨some 143, none, .load 2 true (.s 6), []⟩, ⟨some 144, none, .call (.c (.fn 22)) [.s 142, .s 143], []⟩, ⟨some 145, none, .move (.s 20), []⟩, ⟨some 146, none, .bin (.lss) (.s 144) (.s 145), []⟩]) (.cond (.s 146) (.region g7 [⟨some 147, none, .move (.s 21), []⟩, ⟨some 148, none, .bin (.add) (.s 147) (.c (.int .i64 1)), []⟩, ⟨some 21, none, .move (.s 148), []⟩]) .skip))) (.region g7 [⟨some 136, none, .move (.s 23), []⟩, ⟨some 137, none, .bin (.add) (.s 136) (.c (.int .i64 1)), []⟩, ⟨some 23, none, .move (.s 137), []⟩]))))))) (.region g7 [⟨some 132, none, .move (.s 22), []⟩, ⟨some 133, none, .bin (.add) (.s 132) (.c (.int .i64 1)), []⟩, ⟨some 22, none, .move (.s 133), []⟩])))))) (.seq (.region g7 [⟨some 149, none, .move (.s 9), []⟩, ⟨some 150, none, .move (.s 149), []⟩, ⟨some 151, some (150, true), .move (.s 20), []⟩, ⟨some 152, some (150, true), .bin (.eql) (.s 151) (.c (.int .i64 0)), []⟩, ⟨some 153, some (150, true), .move (.s 152), []⟩, ⟨some 154, some (153, false), .move (.s 13), []⟩, ⟨some 155, some (153, false), .move (.s 21), []⟩, ⟨some 156, some (153, false), .bin (.gtr) (.s 154) (.s 155), []⟩, ⟨some 157, some (150, true), .pick (.s 153) (.c (.bool true)) (.s 156), []⟩, ⟨some 158, some (150, true), .move (.s 157), []⟩, ⟨some 159, some (158, false), .move (.s 16), []⟩, ⟨some 160, some (158, false), .move (.s 13), []⟩, ⟨some 161, some (158, false), .bin (.eql) (.s 159) (.s 160), []⟩, ⟨some 162, some (158, false), .move (.s 161), []⟩, ⟨some 163, some (162, true), .move (.s 12), []⟩, ⟨some 164, some (162, true), .move (.s 15), []⟩, ⟨some 165, some (162, true), .call (.c (.fn 18)) [.s 163, .s 164], []⟩, ⟨some 166, some (158, false), .pick (.s 162) (.s 165) (.c (.bool false)), []⟩, ⟨some 167, some (150, true), .pick (.s 158) (.c (.bool true)) (.s 166), []⟩, ⟨some 168, none, .pick (.s 150) (.s 167) (.c (.bool false)), []⟩, ⟨some 8, none, .move (.s 168), []⟩]) .ret))))))))))))))
def r7 : List SRes := [.slot 8]
def k7 : List (Nat × Nat × SCode × Nat) := []
theorem e7 : cFunc Try.prog 7 g7 [] [] k7 = some (c7, r7, 169) := by kernel_rfl
theorem q7 : RgOk Try.prog k7 := RgOk.nil

def law7 : Eng.Spec where
  X := X7
  args := fun x => .cons (.slice 11 x.l.n fun i => adL (x.l.a i)) (.cons (adE x.a) (.cons (ptE x.p) (.cons (.int .i64 x.most) .nil)))
  pre := fun x => ((x.l.n : Int) ≤ 9223372036854775806 ∧ ∀ i, i < x.l.n → ((x.l.a i).door.length : Int) ≤ 9223372036854775807) ∧ (x.a.door.length : Int) ≤ 9223372036854775807
  res := fun _ => .bool true
  inst := fun _ => none
set_option maxHeartbeats 8000000 in
theorem law7_ok : law7.Ok Try.prog 7 := by
  refine Eng.Spec.ok_of e7 q7 (fun _ => [(8, .p headS), (10, .m New), (9, .p Few), (12, .m Put), (16, .m Near), (18, .p Same), (22, .p Ring)]) (fun _ _ => TabOk.p head_ok (TabOk.m New_ok (TabOk.p Few_ok (TabOk.m Put_ok (TabOk.m Near_ok (TabOk.p Same_ok (TabOk.p Ring_ok TabOk.nil))))))) ?_
  rintro ⟨l, a, p, most⟩ ⟨⟨hn, hs⟩, ha⟩
  replace hn : (l.n : Int) ≤ 9223372036854775806 := hn
  replace hs : ∀ i, i < l.n → ((l.a i).door.length : Int) ≤ 9223372036854775807 := hs
  replace ha : (a.door.length : Int) ≤ 9223372036854775807 := ha
  refine ⟨trivial, ?_⟩
  repeat' (first | refine And.intro ?_ ?_ | exact trivial | exact rfl)
  refine Exists.intro l (Exists.intro [] ?_)
  repeat' (first | refine And.intro ?_ ?_ | exact trivial | exact rfl | exact hn | exact hs | exact fun (j : Nat) (hj : j < _) => sub_ad _ _ _ _)
  refine new_split (fun hc => ?_) (fun c hc => ?_)
  · have hg := putN_ok l.a l.n
    have hD := new_D hc
    have hK := DX_keys hc
    cases hv : fewB l with
    | true =>
      have hcond := fun i => (or2_f (f := fewB l) (e := !decide ((0 : Int) = 0)) (i := i) rfl).trans (by rw [hv]; rfl : _ = false)
      have hn30 := few_n hv
      have hdl : (putN l.a l.n).d.length ≤ 20000 := by
        rw [← DG_len, hD, DX_len]
        omega
      repeat' (first | refine And.intro ?_ ?_ | exact trivial | exact rfl | exact hn | exact fun (j : Nat) (hj : j < _) => sub_ad _ _ _ _ | (refine fun (_ : guardP _ _ _ _) => ?_) | (refine fun (hb : pickB _ _ _ _ _ = true) => absurd (hb.symm.trans (hcond _)) (by decide)) | (refine fun (hb : pickB _ _ _ _ _ = false) => ?_) | omega | (dsimp only; omega))
      refine Exists.intro (putN l.a l.n, p, most) (Exists.intro [2, 3, 4, 5] ?_)
      repeat' (first | refine And.intro ?_ ?_ | exact trivial | exact rfl | exact same_ent2 (p := sub _ _ 20) (fun v => sub_pt _ _ v) | exact same_ent2 (p := sub _ _ 20) (fun v => And.intro rfl rfl) | exact same_ent (p := sub _ _ 20) (sub_pt _ _) | (refine same_ent (p := sub _ _ 20) ?_; exact fun v => And.intro rfl rfl) | exact fun (i : Nat) => same_in _ _ _ | exact fun (i : Nat) => same_rn _ _ _ _ _ | exact fun (i : Nat) => same_rr _ _ _ _ _ _ _ | exact hg | exact hdl)
      by_cases hvd : onB p = true ∧ 1 ≤ most ∧ most ≤ 8
      · have hSl : (allS (DX l) p).length = l.n := by rw [allS_len, DX_len]
        refine near_var (most := most) hg hD hvd (fun L n r hr hmin hstop hL hnr => ?_)
        have hLl : L.length = min most.toNat l.n := by rw [hL, List.length_take, hSl]
        have hcb := cells_pos hvd.1 hr
        rw [← hnr] at hcb
        repeat' (first | refine And.intro ?_ ?_ | exact trivial | exact rfl | (refine fun (h : false = true) => absurd h (by decide)) | (refine fun (_ : false = false) => ?_) | (refine fun (_ : true = true) => ?_) | (refine fun (h : true = false) => absurd h (by decide)) | omega | (dsimp only; omega))
        refine Exists.intro (putN l.a l.n, a) (Exists.intro [2, 3, 4, 5] ?_)
        repeat' (first | refine And.intro ?_ ?_ | exact trivial | exact rfl | exact same_ent2 (p := sub _ _ 20) (fun v => sub_pt _ _ v) | exact same_ent2 (p := sub _ _ 20) (fun v => And.intro rfl rfl) | exact same_ent (p := sub _ _ 20) (sub_pt _ _) | (refine same_ent (p := sub _ _ 20) ?_; exact fun v => And.intro rfl rfl) | exact fun (i : Nat) => same_in _ _ _ | exact fun (i : Nat) => same_rn _ _ _ _ _ | exact fun (i : Nat) => same_rr _ _ _ _ _ _ _ | exact hg | exact ha)
        refine put_split hg hD (fun hc1 g' hg' hD' => ?_) (fun c hc1 g' hg' hD' => ?_)
        · have hval := codeM_0.1 hc1
          have hl' : g'.d.length ≤ 20000 := by
            rw [← DG_len, hD', List.length_append, DX_len]
            show l.n + 1 ≤ 20000
            omega
          repeat' (first | refine And.intro ?_ ?_ | exact trivial | exact rfl | (refine fun (h : false = true) => absurd h (by decide)) | (refine fun (_ : false = false) => ?_) | (refine fun (_ : true = true) => ?_) | (refine fun (h : true = false) => absurd h (by decide)) | (refine fun (hb : pickB _ _ _ _ _ = true) => absurd (hb.symm.trans (put_n0 _)) (by decide)) | (refine fun (hb : pickB _ _ _ _ _ = false) => ?_) | omega | (dsimp only; omega))
          refine Exists.intro (g', p, most) (Exists.intro [2, 3, 4, 5] ?_)
          repeat' (first | refine And.intro ?_ ?_ | exact trivial | exact rfl | exact same_ent2 (p := sub _ _ 20) (fun v => sub_pt _ _ v) | exact same_ent2 (p := sub _ _ 20) (fun v => And.intro rfl rfl) | exact same_ent (p := sub _ _ 20) (sub_pt _ _) | (refine same_ent (p := sub _ _ 20) ?_; exact fun v => And.intro rfl rfl) | exact fun (i : Nat) => same_in _ _ _ | exact fun (i : Nat) => same_rn _ _ _ _ _ | exact fun (i : Nat) => same_rr _ _ _ _ _ _ _ | exact hg' | exact hl')
          have hSl' : (allS (DX l ++ [DA a]) p).length = l.n + 1 := by rw [allS_len, List.length_append, DX_len]; rfl
          refine near_var (most := most) hg' hD' hvd (fun M m r' hr' hmin' hstop' hM hmr => ?_)
          have hMl : M.length = min most.toNat (l.n + 1) := by rw [hM, List.length_take, hSl']
          have hcb' := cells_pos hvd.1 hr'
          rw [← hmr] at hcb'
          have hmn : m ≤ n := by
            rw [hnr, hmr]
            refine cells_mono hvd.1 (by omega) ?_
            refine Classical.byContradiction fun hlt => ?_
            exact hmin' r (by omega) (more_stop hvd.2.1 hstop)
          have hck := fun i j => chk7 (k := 0) hmn (a := (M.length : Int)) (b := min most ((l.n : Int) + 1)) (by omega) (i := i) (j := j)
          repeat' (first | refine And.intro ?_ ?_ | exact trivial | exact rfl | (refine fun (h : false = true) => absurd h (by decide)) | (refine fun (_ : false = false) => ?_) | (refine fun (_ : true = true) => ?_) | (refine fun (h : true = false) => absurd h (by decide)) | (refine fun (_ : guardP _ _ _ _) => ?_) | (refine fun (hb : pickB _ _ _ _ _ = true) => absurd (hb.symm.trans (hck _ _)) (by decide)) | (refine fun (hb : pickB _ _ _ _ _ = false) => ?_) | omega | (dsimp only; omega))
          have hM8 : M.length ≤ 8 := by omega
          refine ⟨⟨Nat, fun i => i ≤ M.length, fun i => [(18, .lsl 20 2 (restL M a.door i).length), (19, .int .i64 (i : Int))], fun i => [(20, .arr 50 2 (restL M a.door i).length (fnAt (restL M a.door i)))], fun i => M.length - i⟩, 0, Nat.zero_le _, ?_, ?_⟩
          · repeat' (first | refine And.intro ?_ ?_ | exact trivial | exact rfl | exact fun (j : Nat) (hj : j < _) => sub_ad _ _ _ _ | exact fun (i : Nat) (hi : i < _) => sub_fn _ _ 16 _ | exact fun (i : Nat) (hi : i < _) => sub_fn _ _ 17 _ | exact same_ent2 (p := sub _ _ 20) (fun v => sub_pt _ _ v) | exact same_ent2 (p := sub _ _ 20) (fun v => And.intro rfl rfl) | exact same_ent (p := sub _ _ 20) (sub_pt _ _) | (refine same_ent (p := sub _ _ 20) ?_; exact fun v => And.intro rfl rfl) | exact fun (i : Nat) => same_in _ _ _ | exact fun (i : Nat) => same_rn _ _ _ _ _ | exact fun (i : Nat) => same_rr _ _ _ _ _ _ _ | omega | (dsimp only; omega))
          rintro (i : Nat) hi
          replace hi : i ≤ M.length := hi
          refine And.intro (fun hb => ?_) (fun hb => ?_)
          · have hil : i < M.length := by have h1 : (i : Int) < ((M.length : Nat) : Int) := of_decide_eq_true hb; omega
            repeat' (first | refine And.intro ?_ ?_ | exact trivial | exact rfl | (refine fun (h : false = true) => absurd h (by decide)) | (refine fun (_ : false = false) => ?_) | (refine fun (_ : true = true) => ?_) | (refine fun (h : true = false) => absurd h (by decide)) | (refine fun (_ : guardP _ _ _ _) => ?_) | omega | (dsimp only; omega))
            · refine fun (hz : (!decide ((M.getD ((i : Nat) : Int).toNat ([], 0)).1 = a.door)) = true) => ?_
              have he1 := rest_t hil (ne_of hz)
              have hRi := rest_le M a.door i
              repeat' (first | refine And.intro ?_ ?_ | exact trivial | exact rfl | exact fun (_ : Nat) (_ : _ < _) => rfl | omega | (dsimp only; omega))
              refine Exists.intro (i + 1) (And.intro hil (And.intro ?_ ?_))
              · repeat' (first | refine And.intro ?_ ?_ | exact trivial | exact rfl | exact fun (j : Nat) (hj : j < _) => sub_ad _ _ _ _ | exact fun (i : Nat) (hi : i < _) => sub_fn _ _ 16 _ | exact fun (i : Nat) (hi : i < _) => sub_fn _ _ 17 _ | exact same_ent2 (p := sub _ _ 20) (fun v => sub_pt _ _ v) | exact same_ent2 (p := sub _ _ 20) (fun v => And.intro rfl rfl) | exact same_ent (p := sub _ _ 20) (sub_pt _ _) | (refine same_ent (p := sub _ _ 20) ?_; exact fun v => And.intro rfl rfl) | exact fun (i : Nat) => same_in _ _ _ | exact fun (i : Nat) => same_rn _ _ _ _ _ | exact fun (i : Nat) => same_rr _ _ _ _ _ _ _ | exact rest_l_t he1 | exact rest_sub_t he1 rfl | omega | (dsimp only; omega))
              · show M.length - (i + 1) < M.length - i
                omega
            · refine fun (hz : (!decide ((M.getD ((i : Nat) : Int).toNat ([], 0)).1 = a.door)) = false) => ?_
              have he1 := rest_f hil (eq_of hz)
              repeat' (first | refine And.intro ?_ ?_ | exact trivial | exact rfl | omega | (dsimp only; omega))
              refine Exists.intro (i + 1) (And.intro hil (And.intro ?_ ?_))
              · repeat' (first | refine And.intro ?_ ?_ | exact trivial | exact rfl | exact fun (j : Nat) (hj : j < _) => sub_ad _ _ _ _ | exact fun (i : Nat) (hi : i < _) => sub_fn _ _ 16 _ | exact fun (i : Nat) (hi : i < _) => sub_fn _ _ 17 _ | exact same_ent2 (p := sub _ _ 20) (fun v => sub_pt _ _ v) | exact same_ent2 (p := sub _ _ 20) (fun v => And.intro rfl rfl) | exact same_ent (p := sub _ _ 20) (sub_pt _ _) | (refine same_ent (p := sub _ _ 20) ?_; exact fun v => And.intro rfl rfl) | exact fun (i : Nat) => same_in _ _ _ | exact fun (i : Nat) => same_rn _ _ _ _ _ | exact fun (i : Nat) => same_rr _ _ _ _ _ _ _ | exact rest_l_f he1 | exact rest_sub_f he1 | omega | (dsimp only; omega))
              · show M.length - (i + 1) < M.length - i
                omega
          · have hil : i = M.length := by have h1 : ¬ (i : Int) < ((M.length : Nat) : Int) := of_decide_eq_false hb; omega
            subst hil
            have hfin := rest_fin (e := DA a) (p := p) (m := most.toNat) hval.2.1 hL hM
            have hck2 := fun i j => chk8 hfin.1 hfin.2.1 hfin.2.2 (i := i) (j := j)
            have hRl : (restL M a.door M.length).length ≤ L.length := hfin.1
            have hkeys : ((DX l ++ [DA a]).map (·.1)).Nodup := by rw [← hD']; exact DG_keys hg'
            have hae : onB a.p = true := hval.1.2
            have hrb := ring_nn a.p p
            have hrb2 := hrb.2 hae hvd.1
            repeat' (first | refine And.intro ?_ ?_ | exact trivial | exact rfl | (refine fun (h : false = true) => absurd h (by decide)) | (refine fun (_ : false = false) => ?_) | (refine fun (_ : true = true) => ?_) | (refine fun (h : true = false) => absurd h (by decide)) | (refine fun (_ : guardP _ _ _ _) => ?_) | (refine fun (i : Nat) (_ : i < _) => ?_) | (refine fun (hb : pickB _ _ _ _ _ = true) => absurd (hb.symm.trans (hck2 _ _)) (by decide)) | (refine fun (hb : pickB _ _ _ _ _ = false) => ?_) | exact hae | exact hvd.1 | exact zadd1 | exact zadd2 | omega | (dsimp only; omega))
            refine ⟨⟨Nat, fun i => i ≤ 32, fun i => [(21, .int .i64 (cntN p (ringV a.p p) i 0 : Int)), (22, .int .i64 (i : Int))], fun _ => [], fun i => 32 - i⟩, 0, Nat.zero_le _, ?_, ?_⟩
            · repeat' (first | refine And.intro ?_ ?_ | exact trivial | exact rfl | exact fun (j : Nat) (hj : j < _) => sub_ad _ _ _ _ | exact fun (i : Nat) (hi : i < _) => sub_fn _ _ 16 _ | exact fun (i : Nat) (hi : i < _) => sub_fn _ _ 17 _ | exact same_ent2 (p := sub _ _ 20) (fun v => sub_pt _ _ v) | exact same_ent2 (p := sub _ _ 20) (fun v => And.intro rfl rfl) | exact same_ent (p := sub _ _ 20) (sub_pt _ _) | (refine same_ent (p := sub _ _ 20) ?_; exact fun v => And.intro rfl rfl) | exact fun (i : Nat) => same_in _ _ _ | exact fun (i : Nat) => same_rn _ _ _ _ _ | exact fun (i : Nat) => same_rr _ _ _ _ _ _ _ | omega | (dsimp only; omega))
            rintro (i : Nat) hi32
            replace hi32 : i ≤ 32 := hi32
            refine And.intro (fun hb => ?_) (fun hb => ?_)
            · have hil : i < 32 := by have h1 : (i : Int) < 32 := of_decide_eq_true hb; omega
              repeat' (first | refine And.intro ?_ ?_ | exact trivial | exact rfl | (refine fun (h : false = true) => absurd h (by decide)) | (refine fun (_ : false = false) => ?_) | (refine fun (_ : true = true) => ?_) | (refine fun (h : true = false) => absurd h (by decide)) | (refine fun (_ : guardP _ _ _ _) => ?_) | omega | (dsimp only; omega))
              refine ⟨⟨Nat, fun k => k ≤ 32, fun k => [(21, .int .i64 (cntN p (ringV a.p p) i k : Int)), (23, .int .i64 (k : Int))], fun _ => [], fun k => 32 - k⟩, 0, Nat.zero_le _, ?_, ?_⟩
              · repeat' (first | refine And.intro ?_ ?_ | exact trivial | exact rfl | exact fun (j : Nat) (hj : j < _) => sub_ad _ _ _ _ | exact fun (i : Nat) (hi : i < _) => sub_fn _ _ 16 _ | exact fun (i : Nat) (hi : i < _) => sub_fn _ _ 17 _ | exact same_ent2 (p := sub _ _ 20) (fun v => sub_pt _ _ v) | exact same_ent2 (p := sub _ _ 20) (fun v => And.intro rfl rfl) | exact same_ent (p := sub _ _ 20) (sub_pt _ _) | (refine same_ent (p := sub _ _ 20) ?_; exact fun v => And.intro rfl rfl) | exact fun (i : Nat) => same_in _ _ _ | exact fun (i : Nat) => same_rn _ _ _ _ _ | exact fun (i : Nat) => same_rr _ _ _ _ _ _ _ | omega | (dsimp only; omega))
              rintro (k : Nat) hk32
              replace hk32 : k ≤ 32 := hk32
              refine And.intro (fun hb => ?_) (fun hb => ?_)
              · have hkl : k < 32 := by have h1 : (k : Int) < 32 := of_decide_eq_true hb; omega
                have hcn := cnt_le p (ringV a.p p) (i := i) (k := k) (by omega) (by omega)
                repeat' (first | refine And.intro ?_ ?_ | exact trivial | exact rfl | (refine fun (h : false = true) => absurd h (by decide)) | (refine fun (_ : false = false) => ?_) | (refine fun (_ : true = true) => ?_) | (refine fun (h : true = false) => absurd h (by decide)) | exact corner_on hil hkl | exact hvd.1 | (refine fun (_ : guardP _ _ _ _) => ?_) | omega | (dsimp only; omega))
                · refine fun (hz : decide (ringV (1024 * (i : Int), 1024 * (k : Int)) p < ringV a.p p) = true) => ?_
                  have he2 := cnt_t (ring_in hz)
                  repeat' (first | refine And.intro ?_ ?_ | exact trivial | exact rfl | omega | (dsimp only; omega))
                  refine Exists.intro (k + 1) (And.intro hkl (And.intro ?_ ?_))
                  · repeat' (first | refine And.intro ?_ ?_ | exact trivial | exact rfl | exact fun (j : Nat) (hj : j < _) => sub_ad _ _ _ _ | exact fun (i : Nat) (hi : i < _) => sub_fn _ _ 16 _ | exact fun (i : Nat) (hi : i < _) => sub_fn _ _ 17 _ | exact same_ent2 (p := sub _ _ 20) (fun v => sub_pt _ _ v) | exact same_ent2 (p := sub _ _ 20) (fun v => And.intro rfl rfl) | exact same_ent (p := sub _ _ 20) (sub_pt _ _) | (refine same_ent (p := sub _ _ 20) ?_; exact fun v => And.intro rfl rfl) | exact fun (i : Nat) => same_in _ _ _ | exact fun (i : Nat) => same_rn _ _ _ _ _ | exact fun (i : Nat) => same_rr _ _ _ _ _ _ _ | exact cnt_tI he2 | omega | (dsimp only; omega))
                  · show 32 - (k + 1) < 32 - k
                    omega
                · refine fun (hz : decide (ringV (1024 * (i : Int), 1024 * (k : Int)) p < ringV a.p p) = false) => ?_
                  have he2 := cnt_f (ring_in hz)
                  repeat' (first | refine And.intro ?_ ?_ | exact trivial | exact rfl | omega | (dsimp only; omega))
                  refine Exists.intro (k + 1) (And.intro hkl (And.intro ?_ ?_))
                  · repeat' (first | refine And.intro ?_ ?_ | exact trivial | exact rfl | exact fun (j : Nat) (hj : j < _) => sub_ad _ _ _ _ | exact fun (i : Nat) (hi : i < _) => sub_fn _ _ 16 _ | exact fun (i : Nat) (hi : i < _) => sub_fn _ _ 17 _ | exact same_ent2 (p := sub _ _ 20) (fun v => sub_pt _ _ v) | exact same_ent2 (p := sub _ _ 20) (fun v => And.intro rfl rfl) | exact same_ent (p := sub _ _ 20) (sub_pt _ _) | (refine same_ent (p := sub _ _ 20) ?_; exact fun v => And.intro rfl rfl) | exact fun (i : Nat) => same_in _ _ _ | exact fun (i : Nat) => same_rn _ _ _ _ _ | exact fun (i : Nat) => same_rr _ _ _ _ _ _ _ | exact cnt_fI he2 | omega | (dsimp only; omega))
                  · show 32 - (k + 1) < 32 - k
                    omega
              · have hkl : k = 32 := by have h1 : ¬ (k : Int) < 32 := of_decide_eq_false hb; omega
                subst hkl
                repeat' (first | refine And.intro ?_ ?_ | exact trivial | exact rfl | (refine fun (h : false = true) => absurd h (by decide)) | (refine fun (_ : false = false) => ?_) | (refine fun (_ : true = true) => ?_) | (refine fun (h : true = false) => absurd h (by decide)) | (refine fun (_ : guardP _ _ _ _) => ?_) | omega | (dsimp only; omega))
                refine Exists.intro (i + 1) (And.intro hil (And.intro ?_ ?_))
                · repeat' (first | refine And.intro ?_ ?_ | exact trivial | exact rfl | exact fun (j : Nat) (hj : j < _) => sub_ad _ _ _ _ | exact fun (i : Nat) (hi : i < _) => sub_fn _ _ 16 _ | exact fun (i : Nat) (hi : i < _) => sub_fn _ _ 17 _ | exact same_ent2 (p := sub _ _ 20) (fun v => sub_pt _ _ v) | exact same_ent2 (p := sub _ _ 20) (fun v => And.intro rfl rfl) | exact same_ent (p := sub _ _ 20) (sub_pt _ _) | (refine same_ent (p := sub _ _ 20) ?_; exact fun v => And.intro rfl rfl) | exact fun (i : Nat) => same_in _ _ _ | exact fun (i : Nat) => same_rn _ _ _ _ _ | exact fun (i : Nat) => same_rr _ _ _ _ _ _ _ | exact congrArg Int.ofNat (cnt_i p (ringV a.p p) i) | omega | (dsimp only; omega))
                · show 32 - (i + 1) < 32 - i
                  omega
            · have hil : i = 32 := by have h1 : ¬ (i : Int) < 32 := of_decide_eq_false hb; omega
              subst hil
              repeat' (first | refine And.intro ?_ ?_ | exact trivial | exact rfl | (refine fun (h : false = true) => absurd h (by decide)) | (refine fun (_ : false = false) => ?_) | (refine fun (_ : true = true) => ?_) | (refine fun (h : true = false) => absurd h (by decide)) | (refine fun (_ : guardP _ _ _ _) => ?_) | (refine fun (i : Nat) (_ : i < _) => ?_) | omega | (dsimp only; omega))
              exact fin7 hvd.1 hae hkeys hvd.2.1 hr hmin hstop hmin' hstop' hL hM hnr hmr
        · repeat' (first | refine And.intro ?_ ?_ | exact trivial | exact rfl | (refine fun (h : false = true) => absurd h (by decide)) | (refine fun (_ : false = false) => ?_) | (refine fun (_ : true = true) => ?_) | (refine fun (h : true = false) => absurd h (by decide)) | (refine fun (hb : pickB _ _ _ _ _ = false) => absurd (hb.symm.trans (put_n1 hc1 _)) (by decide)) | (refine fun (hb : pickB _ _ _ _ _ = true) => ?_) | omega | (dsimp only; omega))
      · refine near_bad hvd ?_
        repeat' (first | refine And.intro ?_ ?_ | exact trivial | exact rfl | (refine fun (h : false = true) => absurd h (by decide)) | (refine fun (_ : false = false) => ?_) | (refine fun (_ : true = true) => ?_) | (refine fun (h : true = false) => absurd h (by decide)) | (refine fun (_ : guardP _ _ _ _) => ?_) | omega | (dsimp only; omega))
    | false =>
      have hcond := fun i => (or2_f (f := fewB l) (e := !decide ((0 : Int) = 0)) (i := i) rfl).trans (by rw [hv]; rfl : _ = true)
      repeat' (first | refine And.intro ?_ ?_ | exact trivial | exact rfl | exact hn | exact fun (j : Nat) (hj : j < _) => sub_ad _ _ _ _ | (refine fun (_ : guardP _ _ _ _) => ?_) | (refine fun (hb : pickB _ _ _ _ _ = false) => absurd (hb.symm.trans (hcond _)) (by decide)) | (refine fun (hb : pickB _ _ _ _ _ = true) => ?_))
  · have hcond := fun i => or2_t (f := fewB l) (e := !decide (c = 0)) (i := i) (by rw [decide_eq_false hc]; rfl)
    repeat' (first | refine And.intro ?_ ?_ | exact trivial | exact rfl | exact hn | exact fun (j : Nat) (hj : j < _) => sub_ad _ _ _ _ | (refine fun (_ : guardP _ _ _ _) => ?_) | (refine fun (hb : pickB _ _ _ _ _ = false) => absurd (hb.symm.trans (hcond _)) (by decide)) | (refine fun (hb : pickB _ _ _ _ _ = true) => ?_))
end R23
