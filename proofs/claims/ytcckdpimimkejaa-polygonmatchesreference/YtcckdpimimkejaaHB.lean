/- A part of the proof: see the last text. -/
import Derived.Test.YtcckdpimimkejaaHA
import Derived.Test.YtcckdpimimkejaaJA
import Derived.Test.YtcckdpimimkejaaKA
import Derived.Test.YtcckdpimimkejaaG12
import Derived.Test.YtcckdpimimkejaaG13
import Derived.Test.YtcckdpimimkejaaG15
section
open Go Go.Eng Go.Proofs G1 G2 G3 G4 G5 G6 G7 G8 G16 J9 J10 H1 H2 H3 H4
set_option maxRecDepth 100000
namespace H7
/-! ### Where a place is, by counting sides -/
def plV (r : Pts) (m : Pt) : Int := if insV r m = true then 1 else if outV r m = true then -1 else 0
def parV (r : Pts) (m : Pt) : Nat → Bool
  | 0 => false
  | i + 1 => if wdI r m i ≠ 0 then !parV r m i else parV r m i
theorem par_sum (r : Pts) (m : Pt) : ∀ i, parV r m i = decide (sumI (wdI r m) i % 2 = 1)
  | 0 => rfl
  | i + 1 => by
    have b := wnd_bd (dbl (r.p i) m) (dbl (nxt r i) m)
    have e : wdI r m i = wnd (dbl (r.p i) m) (dbl (nxt r i) m) := rfl
    unfold parV
    rw [par_sum r m i]
    have e2 : sumI (wdI r m) (i + 1) = sumI (wdI r m) i + wdI r m i := rfl
    rw [e2]
    rw [← e] at b
    split
    · rename_i h
      rw [Bool.eq_iff_iff, Bool.not_eq_true', decide_eq_false_iff_not, decide_eq_true_eq]
      omega
    · rename_i h
      rw [Bool.eq_iff_iff, decide_eq_true_eq, decide_eq_true_eq]
      omega
theorem par_end {r : Pts} (h : valV r = true) (m : Pt) : parV r m r.n = !decide (wdV r m = 0) := by
  have w := W_01 h
  rw [par_sum]
  have e : wdV r m = sumI (wdI r m) r.n := rfl
  have k : wdV r m = 0 ∨ wdV r m = 1 := by
    have := J7.any (J7.sim_sm (M := 2) (by omega) (sim_val h)) (r := 0) (fun i => (J7.base_sm (by omega) _ _ i).trans ((base_val h).1 i)) m
    have e2 : wdV r m = J2.W (J7.sV 2 (pV r)) r.n m := G16.sumI_congr fun k hk => by
      show wnd _ _ = wnd _ _
      have q1 : dbl (r.p k) m = vec m (J7.sV 2 (pV r) k) := by unfold J7.sV; rw [pV_lt hk]; rfl
      have q2 : dbl (nxt r k) m = vec m (J7.sV 2 (pV r) (k + 1)) := by unfold J7.sV; rw [pV_nxt, Nat.mod_eq_of_lt hk]; rfl
      rw [q1, q2]
    omega
  rw [← e]
  rcases k with k | k <;> rw [k] <;> rfl
theorem dbl_db (a m : Pt) : dbl a m = vec m (dbP a) := rfl
theorem ar_db (a b m : Pt) : ar (dbP a) (dbP b) m = crs (dbl a m) (dbl b m) := by unfold ar crs dbP dbl vec; grind
theorem mul_np {x y : Int} : ((x ≤ 0 ∧ 0 ≤ y) ∨ (y ≤ 0 ∧ 0 ≤ x)) ↔ x * y ≤ 0 := by
  constructor
  · rintro (⟨h1, h2⟩ | ⟨h1, h2⟩)
    · have := Int.mul_nonneg (show 0 ≤ -x by omega) h2
      rw [Int.neg_mul] at this
      omega
    · have := Int.mul_nonneg h2 (show 0 ≤ -y by omega)
      rw [Int.mul_neg] at this
      omega
  · intro h
    have k1 : ¬(0 < x ∧ 0 < y) := fun ⟨a, b⟩ => by have := Int.mul_pos a b; omega
    have k2 : ¬(x < 0 ∧ y < 0) := fun ⟨a, b⟩ => by
      have := Int.mul_pos (show 0 < -x by omega) (show 0 < -y by omega)
      rw [Int.neg_mul_neg] at this
      omega
    omega
theorem np_two {p q u v : Int} (h : p * v = u * q) : (p * q ≤ 0 ∧ u * v ≤ 0) ↔ p * q + u * v ≤ 0 := by
  have e : (p * q) * (u * v) = (p * v) * (p * v) := by
    have : (p * q) * (u * v) = (p * v) * (u * q) := by grind
    rw [this, ← h]
  have s := J1.sq0 (p * v)
  constructor
  · omega
  · intro k
    have a1 : ¬ 0 < p * q := fun hp => by
      have := Int.mul_pos hp (show 0 < -(u * v) by omega)
      rw [Int.mul_neg] at this
      omega
    have a2 : ¬ 0 < u * v := fun hp => by
      have := Int.mul_pos (show 0 < -(p * q) by omega) hp
      rw [Int.neg_mul] at this
      omega
    omega
/-- On a side: by the box. -/
theorem on_box {r : Pts} {m : Pt} {i : Nat} : ((((decide (ar (dbP (r.p i)) (dbP (nxt r i)) m = 0) && decide (min (dbP (r.p i)).1 (dbP (nxt r i)).1 ≤ m.1)) && decide (m.1 ≤ max (dbP (r.p i)).1 (dbP (nxt r i)).1)) && decide (min (dbP (r.p i)).2 (dbP (nxt r i)).2 ≤ m.2)) && decide (m.2 ≤ max (dbP (r.p i)).2 (dbP (nxt r i)).2)) = onI r m i := by
  rw [ar_db]
  unfold onI onE
  rw [Bool.eq_iff_iff]
  simp only [Bool.and_eq_true, decide_eq_true_eq]
  have x1 : (dbl (r.p i) m).1 = (dbP (r.p i)).1 - m.1 := rfl
  have x2 : (dbl (nxt r i) m).1 = (dbP (nxt r i)).1 - m.1 := rfl
  have y1 : (dbl (r.p i) m).2 = (dbP (r.p i)).2 - m.2 := rfl
  have y2 : (dbl (nxt r i) m).2 = (dbP (nxt r i)).2 - m.2 := rfl
  have c : crs (dbl (r.p i) m) (dbl (nxt r i) m) = (dbl (r.p i) m).1 * (dbl (nxt r i) m).2 - (dbl (r.p i) m).2 * (dbl (nxt r i) m).1 := rfl
  have d : dot (dbl (r.p i) m) (dbl (nxt r i) m) = (dbl (r.p i) m).1 * (dbl (nxt r i) m).1 + (dbl (r.p i) m).2 * (dbl (nxt r i) m).2 := rfl
  generalize dbP (r.p i) = a at *
  generalize dbP (nxt r i) = b at *
  rw [c, d, x1, x2, y1, y2]
  have hx := mul_np (x := a.1 - m.1) (y := b.1 - m.1)
  have hy := mul_np (x := a.2 - m.2) (y := b.2 - m.2)
  constructor
  · rintro ⟨⟨⟨⟨h0, h1⟩, h2⟩, h3⟩, h4⟩
    exact ⟨h0, (np_two (by omega)).1 ⟨hx.1 (by omega), hy.1 (by omega)⟩⟩
  · rintro ⟨h0, h1⟩
    obtain ⟨k1, k2⟩ := (np_two (by omega)).2 h1
    have k1 := hx.2 k1
    have k2 := hy.2 k2
    omega
/-- A side that is counted. -/
theorem cnt_wd {r : Pts} {m : Pt} {i : Nat} : (((decide ((dbP (r.p i)).2 ≤ m.2) && decide (m.2 < (dbP (nxt r i)).2)) && decide (0 < ar (dbP (r.p i)) (dbP (nxt r i)) m)) || ((decide ((dbP (nxt r i)).2 ≤ m.2) && decide (m.2 < (dbP (r.p i)).2)) && decide (ar (dbP (r.p i)) (dbP (nxt r i)) m < 0))) = decide (wdI r m i ≠ 0) := by
  rw [ar_db]
  have y1 : (dbl (r.p i) m).2 = (dbP (r.p i)).2 - m.2 := rfl
  have y2 : (dbl (nxt r i) m).2 = (dbP (nxt r i)).2 - m.2 := rfl
  rw [Bool.eq_iff_iff]
  simp only [Bool.and_eq_true, Bool.or_eq_true, decide_eq_true_eq]
  unfold wdI wnd
  rw [y1, y2]
  repeat' split
  all_goals omega
theorem par_yes {r : Pts} {m : Pt} {i : Nat} (h : decide (wdI r m i ≠ 0) = true) : parV r m (i + 1) = !parV r m i := by
  show (if wdI r m i ≠ 0 then !parV r m i else parV r m i) = _
  rw [if_pos (of_decide_eq_true h)]
theorem par_no {r : Pts} {m : Pt} {i : Nat} (h : decide (wdI r m i ≠ 0) = false) : parV r m (i + 1) = parV r m i := by
  show (if wdI r m i ≠ 0 then !parV r m i else parV r m i) = _
  rw [if_neg (of_decide_eq_false h)]
def placeS : Eng.Spec where
  X := Pts × Pt
  args := fun x => .cons (rgE x.1) (.cons (ptE x.2) .nil)
  pre := fun x => valV x.1 = true ∧ OnH x.2
  res := fun x => .int .i64 (plV x.1 x.2)
  inst := ptsPt
/-- gazetteer/gazetteerref08.place -/
def g45 : List Nat := [1, 13, 0, 70, 8, 7, 3, 9, 104, 6, 5, 107, 4]
def c45 : SCode :=
  .seq (.region g45 [⟨some 3, none, .box 24 (.s 1), []⟩, ⟨some 4, none, .move (.c (.int .i64 0)), []⟩]) (.seq (.region g45 [⟨some 5, none, .move (.c (.bool false)), []⟩]) (.seq (.seq (.region g45 [⟨some 6, none, .move (.c (.int .i64 0)), []⟩]) (.block 0 (.loop 0 [10, 11, 12, 13, 16, 17, 18, 19, 20, 7, 21, 22, 23, 24, 8, 25, 26, 27, 28, 9, 29, 30, 31, 32, 33, 34, 35, 36, 37, 38, 39, 40, 41, 42, 43, 44, 45, 46, 47, 48, 49, 50, 51, 52, 53, 54, 55, 56, 57, 58, 59, 60, 61, 62, 63, 64, 65, 66, 67, 68, 69, 70, 4, 71, 72, 73, 74, 75, 76, 77, 78, 79, 80, 81, 82, 83, 84, 85, 86, 87, 88, 89, 90, 91, 92, 93, 94, 95, 96, 97, 98, 99, 100, 101, 102, 103, 104, 105, 106, 5, 14, 15, 6] (.seq (.seq (.region g45 [⟨some 10, none, .move (.s 6), []⟩, ⟨some 11, none, .move (.s 0), []⟩, ⟨some 12, none, .lenSl (.s 11), []⟩, ⟨some 13, none, .bin (.lss) (.s 10) (.s 12), []⟩]) (.cond (.s 13) .skip (.exit 0))) (.seq (.block 1 (.seq (.region g45 [⟨some 16, none, .move (.s 0), []⟩, ⟨some 17, none, .move (.s 6), []⟩, ⟨some 18, none, .idxSl 2 (.s 16) (.s 17), []⟩, ⟨some 19, none, .load 2 true (.s 18), []⟩, ⟨some 20, none, .call (.c (.fn 46)) [.s 19], []⟩, ⟨some 7, none, .alloc 24 (.cons (.int .i64 0) (.cons (.int .i64 0) .nil)), []⟩, ⟨none, none, .store 2 (.s 7) (.s 20), []⟩]) (.seq (.region g45 [⟨some 21, none, .move (.s 0), []⟩, ⟨some 22, none, .move (.s 6), []⟩, ⟨some 23, none, .call (.c (.fn 41)) [.s 21, .s 22], []⟩, ⟨some 24, none, .call (.c (.fn 46)) [.s 23], []⟩, ⟨some 8, none, .alloc 24 (.cons (.int .i64 0) (.cons (.int .i64 0) .nil)), []⟩, ⟨none, none, .store 2 (.s 8) (.s 24), []⟩]) (.seq (.region g45 [⟨some 25, none, .load 2 true (.s 7), []⟩, ⟨some 26, none, .load 2 true (.s 8), []⟩, ⟨some 27, none, .load 2 true (.s 3), []⟩, ⟨some 28, none, .call (.c (.fn 62)) [.s 25, .s 26, .s 27], []⟩, ⟨some 9, none, .move (.s 28), []⟩]) (.seq (.seq (.region g45 [⟨some 29, none, .move (.s 9), []⟩, ⟨some 30, none, .bin (.eql) (.s 29) (.c (.int .i64 0)), []⟩, ⟨some 31, none, .move (.s 30), []⟩, ⟨some 32, some (31, true), .fldA 0 (.s 3), []⟩, ⟨some 33, some (31, true), .load 1 false (.s 32), []⟩, ⟨some 34, some (31, true), .fldA 0 (.s 7), []⟩, ⟨some 35, some (31, true), .load 1 false (.s 34), []⟩, ⟨some 36, some (31, true), .fldA 0 (.s 8), []⟩, ⟨some 37, some (31, true), .load 1 false (.s 36), []⟩, ⟨some 38, some (31, true), .mm false (.s 35) (.s 37), []⟩, ⟨some 39, some (31, true), .bin (.geq) (.s 33) (.s 38), []⟩, ⟨some 40, none, .pick (.s 31) (.s 39) (.c (.bool false)), []⟩, ⟨some 41, none, .move (.s 40), []⟩, ⟨some 42, some (41, true), .fldA 0 (.s 3), []⟩, ⟨some 43, some (41, true), .load 1 false (.s 42), []⟩, ⟨some 44, some (41, true), .fldA 0 (.s 7), []⟩, ⟨some 45, some (41, true), .load 1 false (.s 44), []⟩, ⟨some 46, some (41, true), .fldA 0 (.s 8), []⟩, ⟨some 47, some (41, true), .load 1 false (.s 46), []⟩, ⟨some 48, some (41, true), .mm true (.s 45) (.s 47), []⟩, ⟨some 49, some (41, true), .bin (.leq) (.s 43) (.s 48), []⟩, ⟨some 50, none, .pick (.s 41) (.s 49) (.c (.bool false)), []⟩, ⟨some 51, none, .move (.s 50), []⟩, ⟨some 52, some (51, true), .fldA 1 (.s 3), []⟩, ⟨some 53, some (51, true), .load 1 false (.s 52), []⟩, ⟨some 54, some (51, true), .fldA 1 (.s 7), []⟩, ⟨some 55, some (51, true), .load 1 false (.s 54), []⟩, ⟨some 56, some (51, true), .fldA 1 (.s 8), []⟩, ⟨some 57, some (51, true), .load 1 false (.s 56), []⟩, ⟨some 58, some (51, true), .mm false (.s 55) (.s 57), []⟩, ⟨some 59, some (51, true), .bin (.geq) (.s 53) (.s 58), []⟩, ⟨some 60, none, .pick (.s 51) (.s 59) (.c (.bool false)), []⟩, ⟨some 61, none, .move (.s 60), []⟩, ⟨some 62, some (61, true), .fldA 1 (.s 3), []⟩, ⟨some 63, some (61, true), .load 1 false (.s 62), []⟩, ⟨some 64, some (61, true), .fldA 1 (.s 7), []⟩, ⟨some 65, some (61, true), .load 1 false (.s 64), []⟩, ⟨some 66, some (61, true), .fldA 1 (.s 8), []⟩, ⟨some 67, some (61, true), .load 1 false (.s 66), []⟩, ⟨some 68, some (61, true), .mm true (.s 65) (.s 67), []⟩, ⟨some 69, some (61, true), .bin (.leq) (.s 63) (.s 68), []⟩, ⟨some 70, none, .pick (.s 61) (.s 69) (.c (.bool false)), []⟩]) (.cond (.s 70) (.seq (.region g45 [⟨some 4, none, .move (.c (.int .i64 0)), []⟩]) .ret) .skip)) (.seq (.region g45 [⟨some 71, none, .fldA 1 (.s 7), []⟩, ⟨some 72, none, .load 1 false (.s 71), []⟩, ⟨some 73, none, .fldA 1 (.s 3), []⟩, ⟨some 74, none, .load 1 false (.s 73), []⟩, ⟨some 75, none, .bin (.leq) (.s 72) (.s 74), []⟩, ⟨some 76, none, .move (.s 75), []⟩, ⟨some 77, some (76, true), .fldA 1 (.s 8), []⟩, ⟨some 78, some (76, true), .load 1 false (.s 77), []⟩, ⟨some 79, some (76, true), .fldA 1 (.s 3), []⟩, ⟨some 80, some (76, true), .load 1 false (.s 79), []⟩, ⟨some 81, some (76, true), .bin (.gtr) (.s 78) (.s 80), []⟩, ⟨some 82, none, .pick (.s 76) (.s 81) (.c (.bool false)), []⟩, ⟨some 83, none, .move (.s 82), []⟩, ⟨some 84, some (83, true), .move (.s 9), []⟩, ⟨some 85, some (83, true), .bin (.gtr) (.s 84) (.c (.int .i64 0)), []⟩, ⟨some 86, none, .pick (.s 83) (.s 85) (.c (.bool false)), []⟩, ⟨some 87, none, .move (.s 86), []⟩, ⟨some 88, some (87, false), .fldA 1 (.s 8), []⟩, ⟨some 89, some (87, false), .load 1 false (.s 88), []⟩, ⟨some 90, some (87, false), .fldA 1 (.s 3), []⟩, ⟨some 91, some (87, false), .load 1 false (.s 90), []⟩, ⟨some 92, some (87, false), .bin (.leq) (.s 89) (.s 91), []⟩, ⟨some 93, some (87, false), .move (.s 92), []⟩, ⟨some 94, some (93, true), .fldA 1 (.s 7), []⟩, ⟨some 95, some (93, true), .load 1 false (.s 94), []⟩, ⟨some 96, some (93, true), .fldA 1 (.s 3), []⟩, ⟨some 97, some (93, true), .load 1 false (.s 96), []⟩, ⟨some 98, some (93, true), .bin (.gtr) (.s 95) (.s 97), []⟩, ⟨some 99, some (87, false), .pick (.s 93) (.s 98) (.c (.bool false)), []⟩, ⟨some 100, some (87, false), .move (.s 99), []⟩, ⟨some 101, some (100, true), .move (.s 9), []⟩, ⟨some 102, some (100, true), .bin (.lss) (.s 101) (.c (.int .i64 0)), []⟩, ⟨some 103, some (87, false), .pick (.s 100) (.s 102) (.c (.bool false)), []⟩, ⟨some 104, none, .pick (.s 87) (.c (.bool true)) (.s 103), []⟩]) (.cond (.s 104) (.region g45 [⟨some 105, none, .move (.s 5), []⟩, ⟨some 106, none, .not (.s 105), []⟩, ⟨some 5, none, .move (.s 106), []⟩]) .skip))))))) (.region g45 [⟨some 14, none, .move (.s 6), []⟩, ⟨some 15, none, .bin (.add) (.s 14) (.c (.int .i64 1)), []⟩, ⟨some 6, none, .move (.s 15), []⟩])))))) (.seq (.seq (.region g45 [⟨some 107, none, .move (.s 5), []⟩]) (.cond (.s 107) (.seq (.region g45 [⟨some 4, none, .move (.c (.int .i64 1)), []⟩]) .ret) .skip)) (.seq (.region g45 [⟨some 4, none, .move (.c (.int .i64 (-1))), []⟩]) .ret))))
def r45 : List SRes := [.slot 4]
def k45 : List (Nat × Nat × SCode × Nat) := []
theorem e45 : cFunc Try.prog 45 g45 [] [] k45 = some (c45, r45, 108) := by kernel_rfl
theorem q45 : RgOk Try.prog k45 := RgOk.nil
set_option maxHeartbeats 4000000 in
theorem place_ok : placeS.Ok Try.prog 45 := by
  refine Eng.Spec.ok_of e45 q45 (fun _ => [(41, .p nextS), (46, .p dblS), (62, .p Area)]) (fun _ _ => TabOk.p next_ok (TabOk.p dbl_ok (TabOk.p Area_ok TabOk.nil))) ?_
  rintro ⟨r, m⟩ ⟨hv, hm⟩
  replace hv : valV r = true := hv
  replace hm : OnH m := hm
  have hn : r.n ≤ 50 := (val_ok hv).1.1
  have hr : OnR r := (val_ok hv).1.2
  refine ⟨trivial, ?_⟩
  repeat' (first | refine And.intro ?_ ?_ | exact trivial | exact rfl | exact fun (j : Nat) (hj : j < _) => Or.inl (sub_ptN _ _ _ _))
  refine ⟨⟨Nat, fun i => i ≤ r.n ∧ orB (onI r m) i = false, fun i => [(6, .int .i64 (i : Int)), (5, .bool (parV r m i))], fun i => [], fun i => r.n - i⟩, 0, ⟨Nat.zero_le _, rfl⟩, ?_, ?_⟩
  · repeat' (first | refine And.intro ?_ ?_ | exact trivial | exact rfl | exact fun (j : Nat) (hj : j < _) => Or.inl (sub_ptN _ _ _ _))
  rintro (i : Nat) ⟨(hi : i ≤ r.n), (hf : orB (onI r m) i = false)⟩
  repeat' (first | refine And.intro ?_ ?_ | exact trivial | exact rfl | exact fun (j : Nat) (hj : j < _) => Or.inl (sub_ptN _ _ _ _))
  · refine fun (h : decide ((i : Int) < (r.n : Int)) = true) => ?_
    have hi1 : (i : Int) < (r.n : Int) := of_decide_eq_true h
    have hil : i < r.n := by omega
    have hi0 : (0 : Int) ≤ (i : Int) := by omega
    have b1 : -9223372036854775808 ≤ (i : Int) + 1 := by omega
    have b2 : (i : Int) + 1 ≤ 9223372036854775807 := by omega
    have h1 := hr i hil
    have h2 : onB (nxt r i) = true := nxt_on hr hil
    have h3 := onH_db h1
    have h4 := onH_db h2
    repeat' (first | with_reducible exact hi1 | with_reducible exact hi0 | refine And.intro ?_ ?_ | exact trivial | exact rfl | exact fun (j : Nat) (hj : j < _) => Or.inl (sub_ptN _ _ _ _))
    · exact h1
    · exact hn
    · exact hil
    · exact h2
    · exact h3.1.1
    · exact h3.1.2
    · exact h3.2.1
    · exact h3.2.2
    · exact h4.1.1
    · exact h4.1.2
    · exact h4.2.1
    · exact h4.2.2
    · exact hm.1.1
    · exact hm.1.2
    · exact hm.2.1
    · exact hm.2.2
    · refine fun (hc : pickB (pickB (pickB (pickB (decide ((ar (dbP (r.p i)) (dbP (nxt r i)) m) = 0)) (.s 39) (.c (.bool false)) (decide (min (dbP (r.p i)).1 (dbP (nxt r i)).1 ≤ m.1)) false) (.s 49) (.c (.bool false)) (decide (m.1 ≤ max (dbP (r.p i)).1 (dbP (nxt r i)).1)) false) (.s 59) (.c (.bool false)) (decide (min (dbP (r.p i)).2 (dbP (nxt r i)).2 ≤ m.2)) false) (.s 69) (.c (.bool false)) (decide (m.2 ≤ max (dbP (r.p i)).2 (dbP (nxt r i)).2)) false = true) => ?_
      rw [pickB_and, pickB_and, pickB_and, pickB_and, on_box] at hc
      have ho : onV r m = true := orB_true.2 ⟨i, hil, hc⟩
      have e : 0 = plV r m := by
        unfold plV insV outV
        rw [ho, Bool.not_true, Bool.and_false, Bool.and_false]
        rfl
      repeat' (first | exact e | refine And.intro ?_ ?_ | exact trivial | exact rfl | exact fun (j : Nat) (hj : j < _) => Or.inl (sub_ptN _ _ _ _))
    refine fun (hc : pickB (pickB (pickB (pickB (decide ((ar (dbP (r.p i)) (dbP (nxt r i)) m) = 0)) (.s 39) (.c (.bool false)) (decide (min (dbP (r.p i)).1 (dbP (nxt r i)).1 ≤ m.1)) false) (.s 49) (.c (.bool false)) (decide (m.1 ≤ max (dbP (r.p i)).1 (dbP (nxt r i)).1)) false) (.s 59) (.c (.bool false)) (decide (min (dbP (r.p i)).2 (dbP (nxt r i)).2 ≤ m.2)) false) (.s 69) (.c (.bool false)) (decide (m.2 ≤ max (dbP (r.p i)).2 (dbP (nxt r i)).2)) false = false) => ?_
    rw [pickB_and, pickB_and, pickB_and, pickB_and, on_box] at hc
    have hf1 : orB (onI r m) (i + 1) = false := by simp only [orB]; rw [hf, hc]; rfl
    repeat' (first | refine And.intro ?_ ?_ | exact trivial | exact rfl | exact fun (j : Nat) (hj : j < _) => Or.inl (sub_ptN _ _ _ _))
    · refine fun (hd : pickB (pickB (pickB (decide ((dbP (r.p i)).2 ≤ m.2)) (.s 81) (.c (.bool false)) (decide (m.2 < (dbP (nxt r i)).2)) false) (.s 85) (.c (.bool false)) (decide (0 < (ar (dbP (r.p i)) (dbP (nxt r i)) m))) false) (.c (.bool true)) (.s 103) true (pickB (pickB (decide ((dbP (nxt r i)).2 ≤ m.2)) (.s 98) (.c (.bool false)) (decide (m.2 < (dbP (r.p i)).2)) false) (.s 102) (.c (.bool false)) (decide ((ar (dbP (r.p i)) (dbP (nxt r i)) m) < 0)) false) = true) => ?_
      rw [pickB_or, pickB_and, pickB_and, pickB_and, pickB_and, cnt_wd] at hd
      have ep := (par_yes hd).symm
      repeat' (first | with_reducible exact b1 | with_reducible exact b2 | refine And.intro ?_ ?_ | exact trivial | exact rfl | exact fun (j : Nat) (hj : j < _) => Or.inl (sub_ptN _ _ _ _))
      refine Exists.intro (i + 1) ?_
      refine And.intro (And.intro hil hf1) ?_
      repeat' (first | exact ep | refine And.intro ?_ ?_ | exact trivial | exact rfl | exact fun (j : Nat) (hj : j < _) => Or.inl (sub_ptN _ _ _ _))
      show r.n - (i + 1) < r.n - i
      omega
    · refine fun (hd : pickB (pickB (pickB (decide ((dbP (r.p i)).2 ≤ m.2)) (.s 81) (.c (.bool false)) (decide (m.2 < (dbP (nxt r i)).2)) false) (.s 85) (.c (.bool false)) (decide (0 < (ar (dbP (r.p i)) (dbP (nxt r i)) m))) false) (.c (.bool true)) (.s 103) true (pickB (pickB (decide ((dbP (nxt r i)).2 ≤ m.2)) (.s 98) (.c (.bool false)) (decide (m.2 < (dbP (r.p i)).2)) false) (.s 102) (.c (.bool false)) (decide ((ar (dbP (r.p i)) (dbP (nxt r i)) m) < 0)) false) = false) => ?_
      rw [pickB_or, pickB_and, pickB_and, pickB_and, pickB_and, cnt_wd] at hd
      have ep := (par_no hd).symm
      repeat' (first | with_reducible exact b1 | with_reducible exact b2 | refine And.intro ?_ ?_ | exact trivial | exact rfl | exact fun (j : Nat) (hj : j < _) => Or.inl (sub_ptN _ _ _ _))
      refine Exists.intro (i + 1) ?_
      refine And.intro (And.intro hil hf1) ?_
      repeat' (first | exact ep | refine And.intro ?_ ?_ | exact trivial | exact rfl | exact fun (j : Nat) (hj : j < _) => Or.inl (sub_ptN _ _ _ _))
      show r.n - (i + 1) < r.n - i
      omega
  · refine fun (h : decide ((i : Int) < (r.n : Int)) = false) => ?_
    have hi1 : ¬ (i : Int) < (r.n : Int) := of_decide_eq_false h
    have ei : i = r.n := by omega
    have hoff : onV r m = false := by unfold onV; rw [← ei, hf]
    have hp := par_end hv m
    rw [← ei] at hp
    repeat' (first | refine And.intro ?_ ?_ | exact trivial | exact rfl | exact fun (j : Nat) (hj : j < _) => Or.inl (sub_ptN _ _ _ _))
    · refine fun (hc : parV r m i = true) => ?_
      have e : 1 = plV r m := by
        unfold plV insV
        rw [hoff, ← hp, hc]
        rfl
      repeat' (first | exact e | refine And.intro ?_ ?_ | exact trivial | exact rfl | exact fun (j : Nat) (hj : j < _) => Or.inl (sub_ptN _ _ _ _))
    · refine fun (hc : parV r m i = false) => ?_
      have e : -1 = plV r m := by
        unfold plV insV outV
        rw [hoff, ← hp, hc]
        rw [hc] at hp
        have : decide (wdV r m = 0) = true := by
          cases k : decide (wdV r m = 0) with
          | true => rfl
          | false => rw [k] at hp; cases hp
        rw [this]
        rfl
      repeat' (first | exact e | refine And.intro ?_ ?_ | exact trivial | exact rfl | exact fun (j : Nat) (hj : j < _) => Or.inl (sub_ptN _ _ _ _))
end H7
end
section
open Go Go.Eng Go.Proofs G1 G2 G3 G4 G5 G6 G7 G8 G16 J9 J10 H1 H2 H3 H4 H7
set_option maxRecDepth 100000
namespace H8
theorem pl_whe {r : Pts} {p : Pt} (hv : valV r = true) (hp : onB p = true) : plV r (dbP p) = wheV r p := by
  unfold plV wheV insV outV
  rw [hv, hp]
  cases decide (wdV r (dbP p) = 0) <;> cases onV r (dbP p) <;> rfl
/-- gazetteer/gazetteerref08.Where -/
def g20 : List Nat := [1, 12, 0, 3, 4]
def c20 : SCode :=
  .seq (.region g20 [⟨some 3, none, .box 24 (.s 1), []⟩, ⟨some 4, none, .move (.c (.int .i64 0)), []⟩]) (.seq (.seq (.region g20 [⟨some 5, none, .move (.s 0), []⟩, ⟨some 6, none, .call (.c (.fn 16)) [.s 5], []⟩, ⟨some 7, none, .not (.s 6), []⟩, ⟨some 8, none, .move (.s 7), []⟩, ⟨some 9, some (8, false), .load 2 true (.s 3), []⟩, ⟨some 10, some (8, false), .call (.c (.fn 44)) [.s 9], []⟩, ⟨some 11, some (8, false), .not (.s 10), []⟩, ⟨some 12, none, .pick (.s 8) (.c (.bool true)) (.s 11), []⟩]) (.cond (.s 12) (.seq (.region g20 [⟨some 4, none, .move (.c (.int .i64 (-1))), []⟩]) .ret) .skip)) (.seq (.region g20 [⟨some 13, none, .move (.s 0), []⟩, ⟨some 14, none, .load 2 true (.s 3), []⟩, ⟨some 15, none, .call (.c (.fn 46)) [.s 14], []⟩, ⟨some 16, none, .call (.c (.fn 45)) [.s 13, .s 15], []⟩, ⟨some 4, none, .move (.s 16), []⟩]) .ret))
def r20 : List SRes := [.slot 4]
def k20 : List (Nat × Nat × SCode × Nat) := []
theorem e20 : cFunc Try.prog 20 g20 [] [] k20 = some (c20, r20, 17) := by kernel_rfl
theorem q20 : RgOk Try.prog k20 := RgOk.nil
theorem Where_ok : Where.Ok Try.prog 20 := by
  refine Eng.Spec.ok_of e20 q20 (fun _ => [(16, .p Valid), (44, .p On), (45, .p placeS), (46, .p dblS)]) (fun _ _ => TabOk.p H5.Valid_ok (TabOk.p H1.On_ok (TabOk.p place_ok (TabOk.p dbl_ok TabOk.nil)))) ?_
  rintro ⟨r, p⟩ hn
  replace hn : (r.n : Int) ≤ 9223372036854775806 := hn
  refine ⟨trivial, ?_⟩
  repeat' (first | exact hn | refine And.intro ?_ ?_ | exact trivial | exact rfl | exact fun (j : Nat) (hj : j < _) => Or.inl (sub_ptN _ _ _ _) | (refine fun (_ : guardP _ _ _ _) => ?_))
  · refine fun (h : pickB (!valV r) _ _ _ (!onB p) = true) => ?_
    rw [pickB_or] at h
    have e : -1 = wheV r p := by
      unfold wheV
      cases a : valV r <;> cases b : onB p <;> simp_all
    repeat' (first | exact e | refine And.intro ?_ ?_ | exact trivial | exact rfl | exact fun (j : Nat) (hj : j < _) => Or.inl (sub_ptN _ _ _ _))
  refine fun (h : pickB (!valV r) _ _ _ (!onB p) = false) => ?_
  rw [pickB_or, Bool.or_eq_false_iff] at h
  have hv := not_f h.1
  have hb := not_f h.2
  have ho := onH_db hb
  have e := pl_whe hv hb
  repeat' (first | exact hb | exact hv | exact e | refine And.intro ?_ ?_ | exact trivial | exact rfl | exact fun (j : Nat) (hj : j < _) => Or.inl (sub_ptN _ _ _ _))
  · exact ho.1.1
  · exact ho.1.2
  · exact ho.2.1
  · exact ho.2.2
end H8
end
section
open Go Go.Eng Go.Proofs G1 G2 G3 G4 G5 G6 G7 G10 G11 G16 J1 J5 J9 J10 K2 K5 K6
set_option maxRecDepth 100000
namespace H9
/-! ### The parts of a side, from one stop to the next -/
def cndS (a b p q : Pt) : Bool := (!eqP p a && betV p a b) && decide (distV a p < distV a q)
def stp (c b : Pt) (s : Pts) : Nat → Pt
  | 0 => b
  | k + 1 => if cndS c b (s.p k) (stp c b s k) = true then s.p k else stp c b s k
theorem stp_yes {c b : Pt} {s : Pts} {k : Nat} (h : cndS c b (s.p k) (stp c b s k) = true) : stp c b s (k + 1) = s.p k := by
  show (if _ then _ else _) = _
  rw [if_pos h]
theorem stp_no {c b : Pt} {s : Pts} {k : Nat} (h : cndS c b (s.p k) (stp c b s k) = false) : stp c b s (k + 1) = stp c b s k := by
  show (if _ then _ else _) = _
  rw [if_neg (by rw [h]; decide)]
theorem mem_L {a b u : Pt} {s : Pts} : u ∈ stK a b s s.n ↔ u = a ∨ u = b ∨ (∃ k, k < s.n ∧ s.p k = u) ∧ betV u a b = true := by
  unfold G11.stK
  simp only [List.mem_append, List.mem_cons, List.not_mem_nil, or_false, List.mem_filter, mem_lsR, or_assoc]
section
variable {a b c : Pt} (h0 : ar a b c = 0)
include h0
theorem fp_from (X : Pt) : fp a b b * fp c b X = (fp a b b - fp a b c) * (fp a b X - fp a b c) := by
  unfold fp dot ar crs vec at *
  dsimp only at *
  grind
theorem ar_from (X : Pt) : fp a b b * ar c b X = (fp a b b - fp a b c) * ar a b X := by
  unfold fp dot ar crs vec at *
  dsimp only at *
  grind
end
theorem fp_inj {a b u v : Pt} (hab : a ≠ b) (hu : ar a b u = 0) (hv : ar a b v = 0) (e : fp a b u = fp a b v) : u = v := by
  have hD : 0 < (b.1 - a.1) * (b.1 - a.1) + (b.2 - a.2) * (b.2 - a.2) := nrm_pos fun ⟨e1, e2⟩ => hab (Prod.ext (by omega) (by omega))
  unfold ar crs vec at hu hv
  unfold fp dot vec at e
  dsimp only at hu hv e
  have e1 : ((b.1 - a.1) * (b.1 - a.1) + (b.2 - a.2) * (b.2 - a.2)) * (u.1 - v.1) = 0 := by grind
  have e2 : ((b.1 - a.1) * (b.1 - a.1) + (b.2 - a.2) * (b.2 - a.2)) * (u.2 - v.2) = 0 := by grind
  have f1 := (Int.mul_eq_zero.1 e1).resolve_left (by omega)
  have f2 := (Int.mul_eq_zero.1 e2).resolve_left (by omega)
  exact Prod.ext (by omega) (by omega)
section
variable {a b c : Pt} {s : Pts} (hab : a ≠ b) (ha : onB a = true) (hb : onB b = true) (hc : c ∈ stK a b s s.n) (hcb : c ≠ b)
include hab ha hb hc hcb
theorem lt_end : 0 ≤ fp a b c ∧ fp a b c < fp a b b := by
  have k := fp_on hab (stops_on ha hb c hc).2
  refine ⟨k.1.1, Int.lt_iff_le_and_ne.2 ⟨k.1.2, fun e => hcb (fp_inj hab k.2 ?_ e)⟩⟩
  unfold ar crs vec
  grind
/-- Points behind a stop. -/
theorem behind {p : Pt} : onS p c b = true ↔ onS p a b = true ∧ fp a b c ≤ fp a b p := by
  have l := lt_end hab ha hb hc hcb
  have k := fp_on hab (stops_on ha hb c hc).2
  have D := fp_pos hab
  have e1 := fp_from k.2 p
  have e2 := fp_from k.2 b
  have e3 := ar_from k.2 p
  have pos : 0 < fp a b b - fp a b c := by omega
  constructor
  · intro h
    have q := fp_on hcb h
    have z : ar a b p = 0 := by
      rw [q.2, Int.mul_zero] at e3
      exact (Int.mul_eq_zero.1 e3.symm).resolve_left (by omega)
    have w1 : fp a b c ≤ fp a b p := by
      have := Int.mul_nonneg (Int.le_of_lt D) q.1.1
      rw [e1] at this
      have := mul_le_of pos (x := 0) (y := fp a b p - fp a b c) (by omega)
      omega
    have w2 : fp a b p ≤ fp a b b := by
      have := Int.mul_le_mul_of_nonneg_left q.1.2 (Int.le_of_lt D)
      rw [e1, e2] at this
      have := mul_le_of pos this
      omega
    exact ⟨on_fp hab z (by omega) w2, w1⟩
  · rintro ⟨h, w⟩
    have q := fp_on hab h
    have z : ar c b p = 0 := by
      rw [q.2, Int.mul_zero] at e3
      exact (Int.mul_eq_zero.1 e3).resolve_left (by omega)
    refine on_fp hcb z ?_ ?_
    · refine mul_le_of D ?_
      rw [Int.mul_zero, e1]
      exact Int.mul_nonneg (Int.le_of_lt pos) (by omega)
    · refine mul_le_of D ?_
      rw [e1, e2]
      exact Int.mul_le_mul_of_nonneg_left (by omega) (Int.le_of_lt pos)
theorem dist_from {u v : Pt} (hu : onB u = true ∧ onS u c b = true) (hv : onB v = true ∧ onS v c b = true) : distV c u < distV c v ↔ fp a b u < fp a b v := by
  have l := lt_end hab ha hb hc hcb
  have k := fp_on hab (stops_on ha hb c hc).2
  have D := fp_pos hab
  have e1 := fp_from k.2 u
  have e2 := fp_from k.2 v
  have pos : 0 < fp a b b - fp a b c := by omega
  rw [dist_fp hcb (stops_on ha hb c hc).1 hu hv]
  constructor
  · intro h
    have := Int.mul_lt_mul_of_pos_left h D
    rw [e1, e2] at this
    have := pos_mul pos this
    omega
  · intro h
    refine pos_mul D ?_
    rw [e1, e2]
    exact Int.mul_lt_mul_of_pos_left (by omega) pos
/-- What is found. -/
theorem stp_ok : ∀ k, k ≤ s.n → (stp c b s k ∈ stK a b s s.n ∧ fp a b c < fp a b (stp c b s k)) ∧ ∀ j, j < k → betV (s.p j) a b = true → fp a b c < fp a b (s.p j) → fp a b (stp c b s k) ≤ fp a b (s.p j)
  | 0, _ => ⟨⟨mem_L.2 (Or.inr (Or.inl rfl)), (lt_end hab ha hb hc hcb).2⟩, fun j hj => absurd hj (by omega)⟩
  | k + 1, hk => by
    obtain ⟨⟨m1, m2⟩, m3⟩ := stp_ok k (by omega)
    have kc := stops_on ha hb c hc
    have kv := stops_on ha hb _ m1
    have bv : onS (stp c b s k) c b = true := (behind hab ha hb hc hcb).2 ⟨kv.2, Int.le_of_lt m2⟩
    by_cases h : cndS c b (s.p k) (stp c b s k) = true
    · rw [stp_yes h]
      unfold cndS at h
      rw [Bool.and_eq_true, Bool.and_eq_true, Bool.not_eq_true', decide_eq_true_eq] at h
      obtain ⟨⟨h1, h2⟩, h3⟩ := h
      have h2' := h2
      unfold betV at h2
      simp only [Bool.and_eq_true] at h2
      obtain ⟨⟨⟨q1, _⟩, _⟩, q2⟩ := h2
      have q3 := (behind hab ha hb hc hcb).1 q2
      have q4 := (dist_from hab ha hb hc hcb ⟨q1, q2⟩ ⟨kv.1, bv⟩).1 h3
      have bp : betV (s.p k) a b = true := by
        unfold betV
        rw [q1, ha, hb, q3.1]
        rfl
      have ne : s.p k ≠ c := fun e => by
        rw [eqP_iff.2 e] at h1
        cases h1
      refine ⟨⟨mem_L.2 (Or.inr (Or.inr ⟨⟨k, by omega, rfl⟩, bp⟩)), Int.lt_iff_le_and_ne.2 ⟨q3.2, fun e => ne (fp_inj hab (fp_on hab q3.1).2 (fp_on hab kc.2).2 e.symm)⟩⟩, fun j hj hb' hlt => ?_⟩
      by_cases e : j = k
      · rw [e]; exact Int.le_refl _
      · have := m3 j (by omega) hb' hlt
        omega
    · rw [Bool.not_eq_true] at h
      rw [stp_no h]
      refine ⟨⟨m1, m2⟩, fun j hj hb' hlt => ?_⟩
      by_cases e : j = k
      · subst e
        refine Int.not_lt.1 fun hn => ?_
        have hb2 := hb'
        unfold betV at hb'
        simp only [Bool.and_eq_true] at hb'
        have q2 := (behind hab ha hb hc hcb).2 ⟨hb'.2, Int.le_of_lt hlt⟩
        have q4 := (dist_from hab ha hb hc hcb ⟨hb'.1.1.1, q2⟩ ⟨kv.1, bv⟩).2 hn
        have : cndS c b (s.p j) (stp c b s j) = true := by
          unfold cndS
          rw [Bool.and_eq_true, Bool.and_eq_true, Bool.not_eq_true', decide_eq_true_eq]
          refine ⟨⟨?_, ?_⟩, q4⟩
          · rw [← Bool.not_eq_true, eqP_iff]
            intro e
            rw [e] at hlt
            omega
          · unfold betV
            rw [hb'.1.1.1, kc.1, hb, q2]
            rfl
        rw [h] at this
        cases this
      · exact m3 j (by omega) hb' hlt
theorem stp_nxt : Nxt a b (stK a b s s.n) c (stp c b s s.n) := by
  obtain ⟨⟨m1, m2⟩, m3⟩ := stp_ok hab ha hb hc hcb s.n (Nat.le_refl _)
  have kv := fp_on hab (stops_on ha hb _ m1).2
  have kc := fp_on hab (stops_on ha hb c hc).2
  refine ⟨hc, m1, m2, fun w hw ⟨w1, w2⟩ => ?_⟩
  rcases mem_L.1 hw with e | e | ⟨⟨j, hj, e⟩, hb'⟩
  · rw [e, fp_a] at w1; omega
  · rw [e] at w2; omega
  · have := m3 j hj (by rw [e]; exact hb') (by rw [e]; exact w1)
    rw [e] at this
    omega
end
/-- The middles up to a stop. -/
def MidTo (a b : Pt) (s : Pts) (c m : Pt) : Prop := ∃ u v, Nxt a b (stK a b s s.n) u v ∧ fp a b v ≤ fp a b c ∧ m = ad u v
section
variable {a b : Pt} {s : Pts} (hab : a ≠ b) (ha : onB a = true) (hb : onB b = true)
include hab ha hb
theorem to_first (m : Pt) : ¬MidTo a b s a m := by
  rintro ⟨u, v, x, h, _⟩
  have := (fp_on hab (stops_on ha hb u x.um).2).1.1
  have := x.lt
  rw [fp_a] at h
  omega
theorem to_next {c v : Pt} (x : Nxt a b (stK a b s s.n) c v) (m : Pt) : MidTo a b s v m ↔ MidTo a b s c m ∨ m = ad c v := by
  constructor
  · rintro ⟨u', v', y, h, e⟩
    by_cases k : fp a b v' ≤ fp a b c
    · exact Or.inl ⟨u', v', y, k, e⟩
    · refine Or.inr ?_
      have kv := x.no v' y.vm
      have e1 : fp a b v' = fp a b v := by omega
      have y1 := y.lt
      have x1 := x.lt
      have k1 := x.no u' y.um
      have k2 := y.no c x.um
      have e2 : fp a b u' = fp a b c := by omega
      have on := fun (w : Pt) (hw : w ∈ G11.stK a b s s.n) => (fp_on hab (stops_on ha hb w hw).2).2
      rw [e, fp_inj hab (on _ y.um) (on _ x.um) e2, fp_inj hab (on _ y.vm) (on _ x.vm) e1]
  · rintro (⟨u', v', y, h, e⟩ | e)
    · exact ⟨u', v', y, by have := x.lt; omega, e⟩
    · exact ⟨c, v, x, Int.le_refl _, e⟩
end
theorem to_last {r s : Pts} (vr : valV r = true) {i : Nat} (hi : i < r.n) (m : Pt) : MidTo (r.p i) (nxt r i) s (nxt r i) m ↔ m ∈ midI r s i := by
  have hr := (val_ok vr).1.2
  have ha := hr i hi
  have hb := nxt_on hr hi
  have hab : r.p i ≠ nxt r i := by
    have := ne_val vr i
    rwa [pV_nxt, pV_lt hi, Nat.mod_eq_of_lt hi] at this
  unfold midI stL
  rw [mem_midS]
  constructor
  · rintro ⟨u, v, x, _, e⟩
    have ku := stops_on ha hb u x.um
    have kv := stops_on ha hb v x.vm
    exact ⟨u, v, x.um, x.vm, (dist_fp hab ha ku kv).2 x.lt, fun w hw ⟨w1, w2⟩ => x.no w hw ⟨(dist_fp hab ha ku (stops_on ha hb w hw)).1 w1, (dist_fp hab ha (stops_on ha hb w hw) kv).1 w2⟩, e⟩
  · rintro ⟨u, v, hu, hv, h1, h2, e⟩
    have ku := stops_on ha hb u hu
    have kv := stops_on ha hb v hv
    exact ⟨u, v, ⟨hu, hv, (dist_fp hab ha ku kv).1 h1, fun w hw ⟨w1, w2⟩ => h2 w hw ⟨(dist_fp hab ha ku (stops_on ha hb w hw)).2 w1, (dist_fp hab ha (stops_on ha hb w hw) kv).2 w2⟩⟩, (fp_on hab kv.2).1.2, e⟩
theorem fp_bd {a b c : Pt} (ha : onB a = true) (hb : onB b = true) (hc : onB c = true) : fp a b c ≤ 2147352578 := by
  have k1 := onB_iff.1 ha
  have k2 := onB_iff.1 hb
  have k3 := onB_iff.1 hc
  have m1 := mul_bd (a := b.1 - a.1) (b := c.1 - a.1) (B := 32767) (by omega) (by omega) (by omega) (by omega)
  have m2 := mul_bd (a := b.2 - a.2) (b := c.2 - a.2) (B := 32767) (by omega) (by omega) (by omega) (by omega)
  unfold fp dot vec
  dsimp only
  omega
end H9
end
section
open Go Go.Eng Go.Proofs G1 G2 G3 G4 G5 G6 G7 G8 G10 G11 G12 G16 J9 J10 K5 K6 H1 H2 H3 H4 H7 H9
set_option maxRecDepth 100000
namespace H10
def middlesR : Eng.MSpec where
  X := Pts × Pts
  Y := Pts
  args := fun x => .cons (rgE x.1) (.cons (rgE x.2) .nil)
  pre := fun x => valV x.1 = true ∧ valV x.2 = true
  h0 := fun _ => []
  nx0 := 0
  post := fun x y => y.n ≤ 200000000000 ∧ ∀ m, m ∈ lsR y.p y.n ↔ m ∈ midL x.1 x.2
  res := fun _ y => .slice 2 y.n fun i => ptL (y.p i)
  h1 := fun _ _ => []
  nx1 := 0
structure XA where
  i : Nat
  L : List Pt
structure IA (r s : Pts) (x : XA) : Prop where
  hi : x.i ≤ r.n
  hl : x.L.length ≤ x.i * 2147352578
  mem : ∀ m, m ∈ x.L ↔ m ∈ midK r s x.i
structure XB where
  c : Pt
  L : List Pt
structure IB (r s : Pts) (i : Nat) (x : XB) : Prop where
  hc : x.c ∈ G11.stK (r.p i) (nxt r i) s s.n
  hl : (x.L.length : Int) ≤ i * 2147352578 + fp (r.p i) (nxt r i) x.c
  mem : ∀ m, m ∈ x.L ↔ m ∈ midK r s i ∨ MidTo (r.p i) (nxt r i) s x.c m
/-- gazetteer/gazetteerref08.middles -/
def g70 : List Nat := [16, 0, 7, 29, 34, 1, 8, 58, 12, 11, 10, 9, 6, 5, 4]
def c70 : SCode :=
  .seq (.region g70 [⟨some 4, none, .move (.c (.nilsl)), []⟩]) (.seq (.region g70 [⟨some 5, none, .move (.c (.nilsl)), []⟩]) (.seq (.seq (.region g70 [⟨some 6, none, .move (.c (.int .i64 0)), []⟩]) (.block 0 (.loop 0 [13, 14, 15, 16, 19, 20, 21, 22, 7, 23, 24, 25, 8, 26, 9, 27, 28, 29, 30, 10, 31, 32, 33, 34, 37, 38, 39, 40, 12, 41, 42, 43, 44, 45, 46, 47, 48, 49, 50, 51, 52, 53, 54, 55, 56, 57, 58, 59, 35, 36, 11, 60, 61, 62, 63, 64, 65, 66, 67, 68, 69, 70, 71, 72, 73, 5, 74, 17, 18, 6] (.seq (.seq (.region g70 [⟨some 13, none, .move (.s 6), []⟩, ⟨some 14, none, .move (.s 0), []⟩, ⟨some 15, none, .lenSl (.s 14), []⟩, ⟨some 16, none, .bin (.lss) (.s 13) (.s 15), []⟩]) (.cond (.s 16) .skip (.exit 0))) (.seq (.block 1 (.seq (.region g70 [⟨some 19, none, .move (.s 0), []⟩, ⟨some 20, none, .move (.s 6), []⟩, ⟨some 21, none, .idxSl 2 (.s 19) (.s 20), []⟩, ⟨some 22, none, .load 2 true (.s 21), []⟩, ⟨some 7, none, .alloc 24 (.cons (.int .i64 0) (.cons (.int .i64 0) .nil)), []⟩, ⟨none, none, .store 2 (.s 7) (.s 22), []⟩]) (.seq (.region g70 [⟨some 23, none, .move (.s 0), []⟩, ⟨some 24, none, .move (.s 6), []⟩, ⟨some 25, none, .call (.c (.fn 41)) [.s 23, .s 24], []⟩, ⟨some 8, none, .alloc 24 (.cons (.int .i64 0) (.cons (.int .i64 0) .nil)), []⟩, ⟨none, none, .store 2 (.s 8) (.s 25), []⟩]) (.seq (.region g70 [⟨some 26, none, .load 2 true (.s 7), []⟩, ⟨some 9, none, .alloc 24 (.cons (.int .i64 0) (.cons (.int .i64 0) .nil)), []⟩, ⟨none, none, .store 2 (.s 9) (.s 26), []⟩]) (.block 2 (.loop 1 [27, 28, 29, 30, 10, 31, 32, 33, 34, 37, 38, 39, 40, 12, 41, 42, 43, 44, 45, 46, 47, 48, 49, 50, 51, 52, 53, 54, 55, 56, 57, 58, 59, 35, 36, 11, 60, 61, 62, 63, 64, 65, 66, 67, 68, 69, 70, 71, 72, 73, 5, 74] (.seq (.seq (.region g70 [⟨some 27, none, .load 2 true (.s 9), []⟩, ⟨some 28, none, .load 2 true (.s 8), []⟩, ⟨some 29, none, .eqS true [(0, 1), (1, 1)] (.s 27) (.s 28), []⟩]) (.cond (.s 29) .skip (.exit 2))) (.block 3 (.seq (.region g70 [⟨some 30, none, .load 2 true (.s 8), []⟩, ⟨some 10, none, .alloc 24 (.cons (.int .i64 0) (.cons (.int .i64 0) .nil)), []⟩, ⟨none, none, .store 2 (.s 10) (.s 30), []⟩]) (.seq (.seq (.region g70 [⟨some 11, none, .move (.c (.int .i64 0)), []⟩]) (.block 4 (.loop 2 [31, 32, 33, 34, 37, 38, 39, 40, 12, 41, 42, 43, 44, 45, 46, 47, 48, 49, 50, 51, 52, 53, 54, 55, 56, 57, 58, 59, 35, 36, 11] (.seq (.seq (.region g70 [⟨some 31, none, .move (.s 11), []⟩, ⟨some 32, none, .move (.s 1), []⟩, ⟨some 33, none, .lenSl (.s 32), []⟩, ⟨some 34, none, .bin (.lss) (.s 31) (.s 33), []⟩]) (.cond (.s 34) .skip (.exit 4))) (.seq (.block 5 (.seq (.region g70 [⟨some 37, none, .move (.s 1), []⟩, ⟨some 38, none, .move (.s 11), []⟩, ⟨some 39, none, .idxSl 2 (.s 37) (.s 38), []⟩, ⟨some 40, none, .load 2 true (.s 39), []⟩, ⟨some 12, none, .alloc 24 (.cons (.int .i64 0) (.cons (.int .i64 0) .nil)), []⟩, ⟨none, none, .store 2 (.s 12) (.s 40), []⟩]) (.seq (.drawn g70 (.pure 0 ⟨some 41, none, .load 2 true (.s 12), []⟩ (.pure 1 ⟨some 42, none, .load 2 true (.s 9), []⟩ (.pure 2 ⟨some 43, none, .eqS true [(0, 1), (1, 1)] (.s 41) (.s 42), []⟩ (.pure 3 ⟨some 44, none, .move (.s 43), []⟩ (.pure 4 ⟨some 45, some (44, true), .load 2 true (.s 12), []⟩ (.pure 5 ⟨some 46, some (44, true), .load 2 true (.s 9), []⟩ (.pure 6 ⟨some 47, some (44, true), .load 2 true (.s 8), []⟩ (.pure 7 ⟨some 48, some (44, true), .call (.c (.fn 63)) [.s 45, .s 46, .s 47], []⟩ (.pure 8 ⟨some 49, none, .pick (.s 44) (.s 48) (.c (.bool false)), []⟩ (.pure 9 ⟨some 50, none, .move (.s 49), []⟩ (.pure 10 ⟨some 51, some (50, true), .load 2 true (.s 9), []⟩ (.pure 11 ⟨some 52, some (50, true), .load 2 true (.s 12), []⟩ (.pure 12 ⟨some 53, some (50, true), .call (.c (.fn 76)) [.s 51, .s 52], []⟩ (.pure 13 ⟨some 54, some (50, true), .load 2 true (.s 9), []⟩ (.pure 14 ⟨some 55, some (50, true), .load 2 true (.s 10), []⟩ (.pure 15 ⟨some 56, some (50, true), .call (.c (.fn 76)) [.s 54, .s 55], []⟩ (.pure 16 ⟨some 57, some (50, true), .bin (.lss) (.s 53) (.s 56), []⟩ (.pure 17 ⟨some 58, none, .pick (.s 50) (.s 57) (.c (.bool false)), []⟩ .done))))))))))))))))))) (.cond (.s 58) (.region g70 [⟨some 59, none, .load 2 true (.s 12), []⟩, ⟨none, none, .store 2 (.s 10) (.s 59), []⟩]) .skip)))) (.region g70 [⟨some 35, none, .move (.s 11), []⟩, ⟨some 36, none, .bin (.add) (.s 35) (.c (.int .i64 1)), []⟩, ⟨some 11, none, .move (.s 36), []⟩])))))) (.seq (.region g70 [⟨some 60, none, .move (.s 5), []⟩, ⟨some 61, none, .fldA 0 (.s 9), []⟩, ⟨some 62, none, .load 1 false (.s 61), []⟩, ⟨some 63, none, .fldA 0 (.s 10), []⟩, ⟨some 64, none, .load 1 false (.s 63), []⟩, ⟨some 65, none, .bin (.add) (.s 62) (.s 64), []⟩, ⟨some 66, none, .fldA 1 (.s 9), []⟩, ⟨some 67, none, .load 1 false (.s 66), []⟩, ⟨some 68, none, .fldA 1 (.s 10), []⟩, ⟨some 69, none, .load 1 false (.s 68), []⟩, ⟨some 70, none, .bin (.add) (.s 67) (.s 69), []⟩, ⟨some 71, none, .build (.cons (.int .i64 0) (.cons (.int .i64 0) .nil)) [(0, 1, .s 65), (1, 1, .s 70)], []⟩, ⟨some 72, none, .buildSl 24 2 1 (.cons (.int .i64 0) (.cons (.int .i64 0) .nil)) [(0, 2, .s 71)], []⟩, ⟨some 73, none, .app 24 2 16 (.s 60) (.s 72), []⟩, ⟨some 5, none, .move (.s 73), []⟩]) (.region g70 [⟨some 74, none, .load 2 true (.s 10), []⟩, ⟨none, none, .store 2 (.s 9) (.s 74), []⟩])))))))))))) (.region g70 [⟨some 17, none, .move (.s 6), []⟩, ⟨some 18, none, .bin (.add) (.s 17) (.c (.int .i64 1)), []⟩, ⟨some 6, none, .move (.s 18), []⟩])))))) (.seq (.region g70 [⟨some 75, none, .move (.s 5), []⟩, ⟨some 4, none, .move (.s 75), []⟩]) .ret)))
def r70 : List SRes := [.slot 4]
def k70 : List (Nat × Nat × SCode × Nat) := []
theorem e70 : cFunc Try.prog 70 g70 [] [] k70 = some (c70, r70, 76) := by kernel_rfl
theorem q70 : RgOk Try.prog k70 := RgOk.nil
set_option maxHeartbeats 8000000 in
theorem middles_ok : middlesR.Ok Try.prog 70 := by
  refine Eng.MSpec.ok_of e70 q70 (fun _ => [(2097152, .own), (41, .p nextS), (63, .p Between), (76, .p Dist)]) (fun _ _ => TabOk.o (TabOk.p next_ok (TabOk.p H2.Between_ok (TabOk.p H2.Dist_ok TabOk.nil)))) ?_
  rintro ⟨r, s⟩ ⟨hr0, hs0⟩
  replace hr0 : valV r = true := hr0
  replace hs0 : valV s = true := hs0
  have hn := (val_ok hr0).1.1
  have hr := (val_ok hr0).1.2
  have hsn := (val_ok hs0).1.1
  have hs := (val_ok hs0).1.2
  refine ⟨trivial, ?_⟩
  repeat' (first | refine And.intro ?_ ?_ | exact trivial | exact rfl | exact fun (j : Nat) (hj : j < _) => Or.inl (sub_ptN _ _ _ _))
  refine ⟨⟨XA, IA r s, fun x => [(6, .int .i64 (x.i : Int)), (5, .lsl 20 2 x.L.length)], fun x => [(20, .arr 24 2 x.L.length (lcP x.L))], fun x => r.n - x.i⟩, ⟨0, []⟩, ⟨Nat.zero_le _, Nat.zero_le _, fun _ => Iff.rfl⟩, ?_⟩
  refine And.intro ?_ ?_
  · repeat' (first | refine And.intro ?_ ?_ | exact trivial | exact rfl | exact fun (j : Nat) (hj : j < _) => Or.inl (sub_ptN _ _ _ _))
  rintro ⟨i, L⟩ ⟨hi, hl, hmem⟩
  replace hi : i ≤ r.n := hi
  replace hl : L.length ≤ i * 2147352578 := hl
  replace hmem : ∀ m, m ∈ L ↔ m ∈ midK r s i := hmem
  repeat' (first | refine And.intro ?_ ?_ | exact trivial | exact rfl | exact fun (j : Nat) (hj : j < _) => Or.inl (sub_ptN _ _ _ _))
  · refine fun (h : decide ((i : Int) < (r.n : Int)) = true) => ?_
    have hi1 : (i : Int) < (r.n : Int) := of_decide_eq_true h
    have hil : i < r.n := by omega
    have hi0 : (0 : Int) ≤ (i : Int) := by omega
    have b1 : -9223372036854775808 ≤ (i : Int) + 1 := by omega
    have b2 : (i : Int) + 1 ≤ 9223372036854775807 := by omega
    have ha := hr i hil
    have hb := nxt_on hr hil
    repeat' (first | with_reducible exact hi1 | with_reducible exact hi0 | exact hn | exact hil | refine And.intro ?_ ?_ | exact trivial | exact rfl | exact fun (j : Nat) (hj : j < _) => Or.inl (sub_ptN _ _ _ _))
    have hab : r.p i ≠ nxt r i := by
      have := ne_val hr0 i
      rwa [pV_nxt, pV_lt hil, Nat.mod_eq_of_lt hil] at this
    have hbd := fp_bd (a := r.p i) (b := nxt r i) (c := nxt r i) ha hb hb
    have init : IB r s i ⟨r.p i, L⟩ := by
      refine ⟨mem_L.2 (Or.inl rfl), ?_, fun m => ?_⟩
      · dsimp only
        rw [fp_a]
        omega
      · rw [hmem m]
        exact ⟨Or.inl, fun k => k.elim id fun k => absurd k (to_first hab ha hb m)⟩
    refine ⟨⟨XB, IB r s i, fun x => [(5, .lsl 40 2 x.L.length)], fun x => [(23, .cells 24 (ptL x.c)), (40, .arr 24 2 x.L.length (lcP x.L)), (20, .gone)], fun x => (fp (r.p i) (nxt r i) (nxt r i) - fp (r.p i) (nxt r i) x.c).toNat⟩, ⟨r.p i, L⟩, init, ?_, ?_⟩
    · repeat' (first | refine And.intro ?_ ?_ | exact trivial | exact rfl | exact fun (j : Nat) (hj : j < _) => Or.inl (sub_ptN _ _ _ _) | exact sub_ab | exact sub_apP rfl | exact sub_atP)
    clear hl hmem init
    rintro ⟨c, M⟩ ⟨hc, hl, hmem⟩
    replace hc : c ∈ G11.stK (r.p i) (nxt r i) s s.n := hc
    replace hl : (M.length : Int) ≤ i * 2147352578 + fp (r.p i) (nxt r i) c := hl
    replace hmem : ∀ m, m ∈ M ↔ m ∈ midK r s i ∨ MidTo (r.p i) (nxt r i) s c m := hmem
    repeat' (first | refine And.intro ?_ ?_ | exact trivial | exact rfl | exact fun (j : Nat) (hj : j < _) => Or.inl (sub_ptN _ _ _ _))
    · refine fun (hq : (!eqP c (nxt r i)) = true) => ?_
      have hcb : c ≠ nxt r i := fun e => by
        rw [eqP_iff.2 e] at hq
        cases hq
      have nx := stp_nxt hab ha hb hc hcb
      have gc := stops_on ha hb c hc
      have gv := stops_on ha hb _ nx.vm
      have kc := onB_iff.1 gc.1
      have kv := onB_iff.1 gv.1
      have lt := nx.lt
      have fv := (fp_on hab gv.2).1.2
      have fc := (fp_on hab gc.2).1.2
      repeat' (first | refine And.intro ?_ ?_ | exact trivial | exact rfl | exact fun (j : Nat) (hj : j < _) => Or.inl (sub_ptN _ _ _ _))
      refine ⟨⟨Nat, fun k => k ≤ s.n, fun k => [(11, .int .i64 (k : Int))], fun k => [(41, .cells 24 (ptL (stp c (nxt r i) s k)))], fun k => s.n - k⟩, 0, Nat.zero_le _, ?_, ?_⟩
      · repeat' (first | refine And.intro ?_ ?_ | exact trivial | exact rfl | exact fun (j : Nat) (hj : j < _) => Or.inl (sub_ptN _ _ _ _) | exact sub_ab | exact sub_apP rfl | exact sub_atP)
      rintro (k : Nat) (hk : k ≤ s.n)
      repeat' (first | refine And.intro ?_ ?_ | exact trivial | exact rfl | exact fun (j : Nat) (hj : j < _) => Or.inl (sub_ptN _ _ _ _))
      · refine fun (h : decide ((k : Int) < (s.n : Int)) = true) => ?_
        have ki1 : (k : Int) < (s.n : Int) := of_decide_eq_true h
        have kil : k < s.n := by omega
        have ki0 : (0 : Int) ≤ (k : Int) := by omega
        have c1 : -9223372036854775808 ≤ (k : Int) + 1 := by omega
        have c2 : (k : Int) + 1 ≤ 9223372036854775807 := by omega
        repeat' (first | with_reducible exact ki1 | with_reducible exact ki0 | refine And.intro ?_ ?_ | exact trivial | exact rfl | exact fun (j : Nat) (hj : j < _) => Or.inl (sub_ptN _ _ _ _) | (refine fun (_ : guardP _ _ _ _) => ?_))
        · refine fun (hd : pickB (pickB (!eqP (s.p k) c) (.s 48) (.c (.bool false)) (betV (s.p k) c (nxt r i)) false) (.s 57) (.c (.bool false)) (decide (distV c (s.p k) < distV c (stp c (nxt r i) s k))) false = true) => ?_
          rw [pickB_and, pickB_and] at hd
          have es := (stp_yes hd).symm
          have es1 : (s.p k).1 = (stp c (nxt r i) s (k + 1)).1 := by rw [es]
          have es2 : (s.p k).2 = (stp c (nxt r i) s (k + 1)).2 := by rw [es]
          repeat' (first | with_reducible exact c1 | with_reducible exact c2 | refine And.intro ?_ ?_ | exact trivial | exact rfl | exact fun (j : Nat) (hj : j < _) => Or.inl (sub_ptN _ _ _ _))
          refine Exists.intro (k + 1) ?_
          refine And.intro (show k + 1 ≤ s.n from kil) ?_
          repeat' (first | refine And.intro ?_ ?_ | exact trivial | exact rfl | exact fun (j : Nat) (hj : j < _) => Or.inl (sub_ptN _ _ _ _) | exact es1 | exact es2)
          show s.n - (k + 1) < s.n - k
          omega
        · refine fun (hd : pickB (pickB (!eqP (s.p k) c) (.s 48) (.c (.bool false)) (betV (s.p k) c (nxt r i)) false) (.s 57) (.c (.bool false)) (decide (distV c (s.p k) < distV c (stp c (nxt r i) s k))) false = false) => ?_
          rw [pickB_and, pickB_and] at hd
          have es := (stp_no hd).symm
          have es1 : (stp c (nxt r i) s k).1 = (stp c (nxt r i) s (k + 1)).1 := by rw [es]
          have es2 : (stp c (nxt r i) s k).2 = (stp c (nxt r i) s (k + 1)).2 := by rw [es]
          repeat' (first | with_reducible exact c1 | with_reducible exact c2 | refine And.intro ?_ ?_ | exact trivial | exact rfl | exact fun (j : Nat) (hj : j < _) => Or.inl (sub_ptN _ _ _ _))
          refine Exists.intro (k + 1) ?_
          refine And.intro (show k + 1 ≤ s.n from kil) ?_
          repeat' (first | refine And.intro ?_ ?_ | exact trivial | exact rfl | exact fun (j : Nat) (hj : j < _) => Or.inl (sub_ptN _ _ _ _) | exact es1 | exact es2)
          show s.n - (k + 1) < s.n - k
          omega
      refine fun (h : decide ((k : Int) < (s.n : Int)) = false) => ?_
      have ki1 : ¬ (k : Int) < (s.n : Int) := of_decide_eq_false h
      obtain rfl : k = s.n := by omega
      have x1 : -9223372036854775808 ≤ c.1 + (stp c (nxt r i) s s.n).1 := by omega
      have x2 : c.1 + (stp c (nxt r i) s s.n).1 ≤ 9223372036854775807 := by omega
      have x3 : -9223372036854775808 ≤ c.2 + (stp c (nxt r i) s s.n).2 := by omega
      have x4 : c.2 + (stp c (nxt r i) s s.n).2 ≤ 9223372036854775807 := by omega
      have f1 : M.length + 1 ≤ 9223372036854775807 := by omega
      have f2 : (M.length + 1) * 16 ≤ 140737488355328 := by omega
      have o1 : 0 + 1 ≤ 1 := Nat.le_refl 1
      have g2 : M.length + 1 = (M ++ [addP c (stp c (nxt r i) s s.n)]).length := by simp only [List.length_append, List.length_cons, List.length_nil]
      have next : IB r s i ⟨stp c (nxt r i) s s.n, M ++ [addP c (stp c (nxt r i) s s.n)]⟩ := by
        refine ⟨nx.vm, ?_, fun m => ?_⟩
        · dsimp only
          rw [← g2]
          omega
        · show m ∈ M ++ [addP c (stp c (nxt r i) s s.n)] ↔ _
          rw [List.mem_append, hmem m, to_next hab ha hb nx m, or_assoc, List.mem_singleton]
          exact Iff.rfl
      repeat' (first | with_reducible exact x1 | with_reducible exact x2 | with_reducible exact x3 | with_reducible exact x4 | with_reducible exact f1 | with_reducible exact f2 | with_reducible exact o1 | exact one_all (p := addP c (stp c (nxt r i) s s.n)) | refine And.intro ?_ ?_ | exact trivial | exact rfl | exact fun (j : Nat) (hj : j < _) => Or.inl (sub_ptN _ _ _ _))
      refine Exists.intro (XB.mk (stp c (nxt r i) s s.n) (M ++ [addP c (stp c (nxt r i) s s.n)])) ?_
      refine And.intro next ?_
      repeat' (first | with_reducible exact g2 | exact sub_apQ rfl rfl rfl | refine And.intro ?_ ?_ | exact trivial | exact rfl | exact fun (j : Nat) (hj : j < _) => Or.inl (sub_ptN _ _ _ _))
      show (fp (r.p i) (nxt r i) (nxt r i) - fp (r.p i) (nxt r i) (stp c (nxt r i) s s.n)).toNat < (fp (r.p i) (nxt r i) (nxt r i) - fp (r.p i) (nxt r i) c).toNat
      omega
    · refine fun (hq : (!eqP c (nxt r i)) = false) => ?_
      have ecb : c = nxt r i := eqP_iff.1 (not_f hq)
      have last : IA r s ⟨i + 1, M⟩ := by
        refine ⟨hil, ?_, fun m => ?_⟩
        · dsimp only
          rw [ecb] at hl
          omega
        · rw [midK_succ, List.mem_append, hmem m, ecb, to_last hr0 hil]
      repeat' (first | with_reducible exact b1 | with_reducible exact b2 | refine And.intro ?_ ?_ | exact trivial | exact rfl | exact fun (j : Nat) (hj : j < _) => Or.inl (sub_ptN _ _ _ _))
      refine Exists.intro (XA.mk (i + 1) M) ?_
      refine And.intro last ?_
      repeat' (first | refine And.intro ?_ ?_ | exact trivial | exact rfl | exact fun (j : Nat) (hj : j < _) => Or.inl (sub_ptN _ _ _ _))
      show r.n - (i + 1) < r.n - i
      omega
  · refine fun (h : decide ((i : Int) < (r.n : Int)) = false) => ?_
    have hi1 : ¬ (i : Int) < (r.n : Int) := of_decide_eq_false h
    have e : i = r.n := by omega
    have h0L : 0 + L.length ≤ L.length := by omega
    have hpost : L.length ≤ 200000000000 ∧ ∀ m, m ∈ lsR (fun j => L.getD j (0, 0)) L.length ↔ m ∈ midL r s := by
      refine ⟨by omega, fun m => ?_⟩
      rw [lsR_getD, hmem m, e]
      exact Iff.rfl
    repeat' (first | refine And.intro ?_ ?_ | exact trivial | exact rfl | exact fun (j : Nat) (hj : j < _) => Or.inl (sub_ptN _ _ _ _))
    refine Exists.intro (Pts.mk L.length fun j => L.getD j (0, 0)) ?_
    refine And.intro hpost ?_
    repeat' (first | with_reducible exact h0L | refine And.intro ?_ ?_ | exact trivial | exact rfl | exact fun (j : Nat) (hj : j < _) => Or.inl (sub_ptN _ _ _ _) | exact sub_lcR)
end H10
end
section
open Go Go.Eng Go.Proofs G1 G2 G3 G4 G5 G6 G7 G8 G10 G11 G12 G13 G16 J9 J10 K5 K6 H1 H2 H3 H4 H7 H9 H10
set_option maxRecDepth 100000
namespace H11
structure XC where
  a : Pts
  b : Pts
  kind : Int
def ck (b : Pts) (kind : Int) (y : Pts) (j : Nat) : Int := if plV b (y.p j) = kind then 1 else 0
theorem ck_sum {b : Pts} {kind : Int} {y : Pts} : ∀ n, (0 ≤ sumI (ck b kind y) n ∧ sumI (ck b kind y) n ≤ n) ∧ (sumI (ck b kind y) n = 0 ↔ ∀ j, j < n → plV b (y.p j) ≠ kind)
  | 0 => ⟨⟨Int.le_refl _, Int.le_refl _⟩, ⟨fun _ j hj => absurd hj (by omega), fun _ => rfl⟩⟩
  | n + 1 => by
    obtain ⟨⟨h1, h2⟩, h3⟩ := ck_sum (b := b) (kind := kind) (y := y) n
    have e : sumI (ck b kind y) (n + 1) = sumI (ck b kind y) n + ck b kind y n := rfl
    have c : ck b kind y n = if plV b (y.p n) = kind then 1 else 0 := rfl
    rw [e, c]
    split
    · rename_i hk
      refine ⟨⟨by omega, by omega⟩, ⟨fun k => by omega, fun k => absurd hk (k n (by omega))⟩⟩
    · rename_i hk
      refine ⟨⟨by omega, by omega⟩, ⟨fun k j hj => ?_, fun k => ?_⟩⟩
      · by_cases ej : j = n
        · rw [ej]; exact hk
        · exact h3.1 (by omega) j (by omega)
      · have := h3.2 fun j hj => k j (by omega)
        omega
theorem ck_yes {b : Pts} {kind : Int} {y : Pts} {i : Nat} (h : decide (plV b (y.p i) = kind) = true) : sumI (ck b kind y) i + 1 = sumI (ck b kind y) (i + 1) := by
  have c : sumI (ck b kind y) (i + 1) = sumI (ck b kind y) i + if plV b (y.p i) = kind then 1 else 0 := rfl
  rw [c, if_pos (of_decide_eq_true h)]
theorem ck_no {b : Pts} {kind : Int} {y : Pts} {i : Nat} (h : decide (plV b (y.p i) = kind) = false) : sumI (ck b kind y) i = sumI (ck b kind y) (i + 1) := by
  have c : sumI (ck b kind y) (i + 1) = sumI (ck b kind y) i + if plV b (y.p i) = kind then 1 else 0 := rfl
  rw [c, if_neg (of_decide_eq_false h)]
  omega
def countP (x : XC) (y : Int) : Prop := (0 ≤ y ∧ y ≤ 200000000000) ∧ (y = 0 ↔ ∀ m, m ∈ midL x.a x.b → plV x.b m ≠ x.kind)
def countS : Eng.MSpec where
  X := XC
  Y := Int
  args := fun x => .cons (rgE x.a) (.cons (rgE x.b) (.cons (.int .i64 x.kind) .nil))
  pre := fun x => valV x.a = true ∧ valV x.b = true
  h0 := fun _ => []
  nx0 := 0
  post := countP
  res := fun _ y => .int .i64 y
  h1 := fun _ _ => []
  nx1 := 0
/-- gazetteer/gazetteerref08.count -/
def g51 : List Nat := [0, 16, 1, 7, 2, 26, 9, 8, 6]
def c51 : SCode :=
  .seq (.region g51 [⟨some 6, none, .move (.c (.int .i64 0)), []⟩]) (.seq (.region g51 [⟨some 10, none, .move (.s 0), []⟩, ⟨some 11, none, .move (.s 1), []⟩, ⟨some 12, none, .call (.c (.fn 70)) [.s 10, .s 11], []⟩, ⟨some 7, none, .move (.s 12), []⟩]) (.seq (.region g51 [⟨some 8, none, .move (.c (.int .i64 0)), []⟩]) (.seq (.seq (.region g51 [⟨some 9, none, .move (.c (.int .i64 0)), []⟩]) (.block 0 (.loop 0 [13, 14, 15, 16, 19, 20, 21, 22, 23, 24, 25, 26, 27, 28, 8, 17, 18, 9] (.seq (.seq (.region g51 [⟨some 13, none, .move (.s 9), []⟩, ⟨some 14, none, .move (.s 7), []⟩, ⟨some 15, none, .lenSl (.s 14), []⟩, ⟨some 16, none, .bin (.lss) (.s 13) (.s 15), []⟩]) (.cond (.s 16) .skip (.exit 0))) (.seq (.block 1 (.seq (.region g51 [⟨some 19, none, .move (.s 1), []⟩, ⟨some 20, none, .move (.s 7), []⟩, ⟨some 21, none, .move (.s 9), []⟩, ⟨some 22, none, .idxSl 2 (.s 20) (.s 21), []⟩, ⟨some 23, none, .load 2 true (.s 22), []⟩, ⟨some 24, none, .call (.c (.fn 45)) [.s 19, .s 23], []⟩, ⟨some 25, none, .move (.s 2), []⟩, ⟨some 26, none, .bin (.eql) (.s 24) (.s 25), []⟩]) (.cond (.s 26) (.region g51 [⟨some 27, none, .move (.s 8), []⟩, ⟨some 28, none, .bin (.add) (.s 27) (.c (.int .i64 1)), []⟩, ⟨some 8, none, .move (.s 28), []⟩]) .skip))) (.region g51 [⟨some 17, none, .move (.s 9), []⟩, ⟨some 18, none, .bin (.add) (.s 17) (.c (.int .i64 1)), []⟩, ⟨some 9, none, .move (.s 18), []⟩])))))) (.seq (.region g51 [⟨some 29, none, .move (.s 8), []⟩, ⟨some 6, none, .move (.s 29), []⟩]) .ret))))
def r51 : List SRes := [.slot 6]
def k51 : List (Nat × Nat × SCode × Nat) := []
theorem e51 : cFunc Try.prog 51 g51 [] [] k51 = some (c51, r51, 30) := by kernel_rfl
theorem q51 : RgOk Try.prog k51 := RgOk.nil
set_option maxHeartbeats 4000000 in
theorem count_ok : countS.Ok Try.prog 51 := by
  refine Eng.MSpec.ok_of e51 q51 (fun _ => [(45, .p placeS), (70, .m middlesR)]) (fun _ _ => TabOk.p place_ok (TabOk.m middles_ok TabOk.nil)) ?_
  rintro ⟨a, b, kind⟩ ⟨va, vb⟩
  replace va : valV a = true := va
  replace vb : valV b = true := vb
  refine ⟨trivial, ?_⟩
  repeat' (first | refine And.intro ?_ ?_ | exact trivial | exact rfl | exact fun (j : Nat) (hj : j < _) => Or.inl (sub_ptN _ _ _ _))
  refine Exists.intro (a, b) (Exists.intro [] ?_)
  refine And.intro (And.intro va vb) ?_
  repeat' (first | refine And.intro ?_ ?_ | exact trivial | exact rfl | exact fun (j : Nat) (hj : j < _) => Or.inl (sub_ptN _ _ _ _))
  refine fun (y : Pts) (hy : y.n ≤ 200000000000 ∧ ∀ m, m ∈ lsR y.p y.n ↔ m ∈ midL a b) => ?_
  have hyn := hy.1
  repeat' (first | refine And.intro ?_ ?_ | exact trivial | exact rfl | exact fun (j : Nat) (hj : j < _) => Or.inl (sub_ptN _ _ _ _))
  refine ⟨⟨Nat, fun i => i ≤ y.n, fun i => [(9, .int .i64 (i : Int)), (8, .int .i64 (sumI (ck b kind y) i))], fun i => [], fun i => y.n - i⟩, 0, Nat.zero_le _, ?_, ?_⟩
  · repeat' (first | refine And.intro ?_ ?_ | exact trivial | exact rfl | exact fun (j : Nat) (hj : j < _) => Or.inl (sub_ptN _ _ _ _))
  rintro (i : Nat) (hi : i ≤ y.n)
  have hs := (ck_sum (b := b) (kind := kind) (y := y) i).1
  repeat' (first | refine And.intro ?_ ?_ | exact trivial | exact rfl | exact fun (j : Nat) (hj : j < _) => Or.inl (sub_ptN _ _ _ _))
  · refine fun (h : decide ((i : Int) < (y.n : Int)) = true) => ?_
    have hi1 : (i : Int) < (y.n : Int) := of_decide_eq_true h
    have hil : i < y.n := by omega
    have hi0 : (0 : Int) ≤ (i : Int) := by omega
    have b1 : -9223372036854775808 ≤ (i : Int) + 1 := by omega
    have b2 : (i : Int) + 1 ≤ 9223372036854775807 := by omega
    have c1 : -9223372036854775808 ≤ sumI (ck b kind y) i + 1 := by omega
    have c2 : sumI (ck b kind y) i + 1 ≤ 9223372036854775807 := by omega
    have hm : OnH (y.p i) := mid_on (val_ok va).1.2 ((hy.2 _).1 (mem_lsR.2 ⟨i, hil, rfl⟩))
    repeat' (first | with_reducible exact hi1 | with_reducible exact hi0 | exact vb | refine And.intro ?_ ?_ | exact trivial | exact rfl | exact fun (j : Nat) (hj : j < _) => Or.inl (sub_ptN _ _ _ _))
    · exact hm.1.1
    · exact hm.1.2
    · exact hm.2.1
    · exact hm.2.2
    · refine fun (hc : decide (plV b (y.p i) = kind) = true) => ?_
      have ec := ck_yes hc
      repeat' (first | with_reducible exact b1 | with_reducible exact b2 | with_reducible exact c1 | with_reducible exact c2 | refine And.intro ?_ ?_ | exact trivial | exact rfl | exact fun (j : Nat) (hj : j < _) => Or.inl (sub_ptN _ _ _ _))
      refine Exists.intro (i + 1) ?_
      refine And.intro (show i + 1 ≤ y.n from hil) ?_
      repeat' (first | refine And.intro ?_ ?_ | exact trivial | exact rfl | exact fun (j : Nat) (hj : j < _) => Or.inl (sub_ptN _ _ _ _) | exact ec)
      show y.n - (i + 1) < y.n - i
      omega
    · refine fun (hc : decide (plV b (y.p i) = kind) = false) => ?_
      have ec := ck_no hc
      repeat' (first | with_reducible exact b1 | with_reducible exact b2 | refine And.intro ?_ ?_ | exact trivial | exact rfl | exact fun (j : Nat) (hj : j < _) => Or.inl (sub_ptN _ _ _ _))
      refine Exists.intro (i + 1) ?_
      refine And.intro (show i + 1 ≤ y.n from hil) ?_
      repeat' (first | refine And.intro ?_ ?_ | exact trivial | exact rfl | exact fun (j : Nat) (hj : j < _) => Or.inl (sub_ptN _ _ _ _) | exact ec)
      show y.n - (i + 1) < y.n - i
      omega
  · refine fun (h : decide ((i : Int) < (y.n : Int)) = false) => ?_
    have hi1 : ¬ (i : Int) < (y.n : Int) := of_decide_eq_false h
    have ei : i = y.n := by omega
    have hp : countP ⟨a, b, kind⟩ (sumI (ck b kind y) i) := by
      refine ⟨by omega, ?_⟩
      rw [ei, (ck_sum y.n).2]
      constructor
      · intro k m hm
        obtain ⟨j, hj, e⟩ := mem_lsR.1 ((hy.2 m).2 hm)
        rw [← e]
        exact k j hj
      · intro k j hj
        exact k _ ((hy.2 _).1 (mem_lsR.2 ⟨j, hj, rfl⟩))
    repeat' (first | refine And.intro ?_ ?_ | exact trivial | exact rfl | exact fun (j : Nat) (hj : j < _) => Or.inl (sub_ptN _ _ _ _))
    refine Exists.intro (sumI (ck b kind y) i) ?_
    refine And.intro hp ?_
    repeat' (first | refine And.intro ?_ ?_ | exact trivial | exact rfl | exact fun (j : Nat) (hj : j < _) => Or.inl (sub_ptN _ _ _ _))
/-! ### Within, Apart -/
theorem pl_out {r : Pts} {m : Pt} : plV r m ≠ -1 ↔ outV r m = false := by
  unfold plV insV outV
  cases decide (wdV r m = 0) <;> cases onV r m <;> simp
theorem pl_ins {r : Pts} {m : Pt} : plV r m ≠ 1 ↔ insV r m = false := by
  unfold plV insV outV
  cases decide (wdV r m = 0) <;> cases onV r m <;> simp
theorem cnt_out {a b : Pts} {y : Int} (h : countP ⟨a, b, -1⟩ y) : decide (y = 0) = !(midL a b).any (outV b) := by
  rw [Bool.eq_iff_iff, decide_eq_true_eq, h.2, Bool.not_eq_true', List.any_eq_false]
  exact ⟨fun k m hm => by have := pl_out.1 (k m hm); simp [this], fun k m hm => pl_out.2 (by have := k m hm; simpa using this)⟩
theorem cnt_ins {a b : Pts} {y : Int} (h : countP ⟨a, b, 1⟩ y) : decide (y = 0) = !(midL a b).any (insV b) := by
  rw [Bool.eq_iff_iff, decide_eq_true_eq, h.2, Bool.not_eq_true', List.any_eq_false]
  exact ⟨fun k m hm => by have := pl_ins.1 (k m hm); simp [this], fun k m hm => pl_ins.2 (by have := k m hm; simpa using this)⟩
theorem cnt_pos {a b : Pts} {y : Int} (h : countP ⟨a, b, -1⟩ y) : decide (0 < y) = (midL a b).any (outV b) := by
  have e := cnt_out h
  have b := h.1
  have : decide (0 < y) = !decide (y = 0) := by
    rw [Bool.eq_iff_iff, decide_eq_true_eq, Bool.not_eq_true', decide_eq_false_iff_not]
    omega
  rw [this, e, Bool.not_not]
/-- gazetteer/gazetteerref08.Within -/
def g22 : List Nat := [0, 1, 4]
def c22 : SCode :=
  .seq (.region g22 [⟨some 4, none, .move (.c (.bool false)), []⟩]) (.seq (.region g22 [⟨some 5, none, .move (.s 0), []⟩, ⟨some 6, none, .call (.c (.fn 16)) [.s 5], []⟩, ⟨some 7, none, .move (.s 6), []⟩, ⟨some 8, some (7, true), .move (.s 1), []⟩, ⟨some 9, some (7, true), .call (.c (.fn 16)) [.s 8], []⟩, ⟨some 10, none, .pick (.s 7) (.s 9) (.c (.bool false)), []⟩, ⟨some 11, none, .move (.s 10), []⟩, ⟨some 12, some (11, true), .move (.s 0), []⟩, ⟨some 13, some (11, true), .move (.s 1), []⟩, ⟨some 14, some (11, true), .call (.c (.fn 50)) [.s 12, .s 13], []⟩, ⟨some 15, some (11, true), .not (.s 14), []⟩, ⟨some 16, none, .pick (.s 11) (.s 15) (.c (.bool false)), []⟩, ⟨some 17, none, .move (.s 16), []⟩, ⟨some 18, some (17, true), .move (.s 0), []⟩, ⟨some 19, some (17, true), .move (.s 1), []⟩, ⟨some 20, some (17, true), .call (.c (.fn 51)) [.s 18, .s 19, .c (.int .i64 (-1))], []⟩, ⟨some 21, some (17, true), .bin (.eql) (.s 20) (.c (.int .i64 0)), []⟩, ⟨some 22, none, .pick (.s 17) (.s 21) (.c (.bool false)), []⟩, ⟨some 4, none, .move (.s 22), []⟩]) .ret)
def r22 : List SRes := [.slot 4]
def k22 : List (Nat × Nat × SCode × Nat) := []
theorem e22 : cFunc Try.prog 22 g22 [] [] k22 = some (c22, r22, 23) := by kernel_rfl
theorem q22 : RgOk Try.prog k22 := RgOk.nil
theorem Within_ok : Within.Ok Try.prog 22 := by
  refine Eng.Spec.ok_of e22 q22 (fun _ => [(16, .p Valid), (50, .p crosses), (51, .m countS)]) (fun _ _ => TabOk.p H5.Valid_ok (TabOk.p H6.crossed_ok (TabOk.m count_ok TabOk.nil))) ?_
  rintro ⟨a, b⟩ ⟨ha, hb⟩
  replace ha : (a.n : Int) ≤ 9223372036854775806 := ha
  replace hb : (b.n : Int) ≤ 9223372036854775806 := hb
  refine ⟨trivial, ?_⟩
  repeat' (first | exact ha | exact hb | refine And.intro ?_ ?_ | exact trivial | exact rfl | exact fun (j : Nat) (hj : j < _) => Or.inl (sub_ptN _ _ _ _))
  · refine fun (_ : guardP _ _ _ _) => ?_
    repeat' (first | exact hb | refine And.intro ?_ ?_ | exact trivial | exact rfl | exact fun (j : Nat) (hj : j < _) => Or.inl (sub_ptN _ _ _ _))
  · refine fun (h : pickB (valV a) _ _ (valV b) _ = true) => ?_
    rw [pickB_and] at h
    simp only [Bool.and_eq_true] at h
    have v1 := (val_ok h.1).1
    have v2 := (val_ok h.2).1
    repeat' (first | exact v1 | exact v2 | refine And.intro ?_ ?_ | exact trivial | exact rfl | exact fun (j : Nat) (hj : j < _) => Or.inl (sub_ptN _ _ _ _))
  · refine fun (h : pickB (pickB (valV a) _ _ (valV b) _) _ _ (!crossB a b) _ = true) => ?_
    rw [pickB_and, pickB_and] at h
    simp only [Bool.and_eq_true] at h
    repeat' (first | refine And.intro ?_ ?_ | exact trivial | exact rfl | exact fun (j : Nat) (hj : j < _) => Or.inl (sub_ptN _ _ _ _))
    refine Exists.intro (XC.mk a b (-1)) (Exists.intro [] ?_)
    refine And.intro (And.intro h.1.1 h.1.2) ?_
    repeat' (first | refine And.intro ?_ ?_ | exact trivial | exact rfl | exact fun (j : Nat) (hj : j < _) => Or.inl (sub_ptN _ _ _ _))
    refine fun (y : Int) (hy : countP ⟨a, b, -1⟩ y) => ?_
    have e : ∀ i j, pickB (pickB (pickB (valV a) (.s 9) (.c (.bool false)) (valV b) false) (.s 15) (.c (.bool false)) (!crossB a b) false) (.s i) (.c (.bool false)) (decide (y = 0)) j = witV a b := fun i j => by
      rw [pickB_and, pickB_and, pickB_and, cnt_out hy]
      rfl
    repeat' (first | refine And.intro ?_ ?_ | exact trivial | exact rfl | exact fun (j : Nat) (hj : j < _) => Or.inl (sub_ptN _ _ _ _))
    exact e _ _
  refine fun (h : pickB (pickB (valV a) _ _ (valV b) _) _ _ (!crossB a b) _ = !true) => ?_
  have h0 : pickB (pickB (valV a) (.s 9) (.c (.bool false)) (valV b) false) (.s 15) (.c (.bool false)) (!crossB a b) false = false := h
  have e : pickB (pickB (valV a) (.s 9) (.c (.bool false)) (valV b) false) (.s 15) (.c (.bool false)) (!crossB a b) false = witV a b := by
    rw [pickB_and, pickB_and] at h0 ⊢
    unfold witV
    rw [h0]
    rfl
  have e2 : false = witV a b := h0.symm.trans e
  repeat' (first | exact h0 | exact e2 | exact fun (h : guardP _ _ _ _) => no_tf h0 h | refine And.intro ?_ ?_ | exact trivial | exact rfl | exact fun (j : Nat) (hj : j < _) => Or.inl (sub_ptN _ _ _ _))
/-- gazetteer/gazetteerref08.Apart -/
def g24 : List Nat := [17, 0, 1, 4]
def c24 : SCode :=
  .seq (.region g24 [⟨some 4, none, .move (.c (.bool false)), []⟩]) (.seq (.seq (.region g24 [⟨some 5, none, .move (.s 0), []⟩, ⟨some 6, none, .call (.c (.fn 16)) [.s 5], []⟩, ⟨some 7, none, .not (.s 6), []⟩, ⟨some 8, none, .move (.s 7), []⟩, ⟨some 9, some (8, false), .move (.s 1), []⟩, ⟨some 10, some (8, false), .call (.c (.fn 16)) [.s 9], []⟩, ⟨some 11, some (8, false), .not (.s 10), []⟩, ⟨some 12, none, .pick (.s 8) (.c (.bool true)) (.s 11), []⟩, ⟨some 13, none, .move (.s 12), []⟩, ⟨some 14, some (13, false), .move (.s 0), []⟩, ⟨some 15, some (13, false), .move (.s 1), []⟩, ⟨some 16, some (13, false), .call (.c (.fn 50)) [.s 14, .s 15], []⟩, ⟨some 17, none, .pick (.s 13) (.c (.bool true)) (.s 16), []⟩]) (.cond (.s 17) (.seq (.region g24 [⟨some 4, none, .move (.c (.bool false)), []⟩]) .ret) .skip)) (.seq (.region g24 [⟨some 18, none, .move (.s 0), []⟩, ⟨some 19, none, .move (.s 1), []⟩, ⟨some 20, none, .call (.c (.fn 51)) [.s 18, .s 19, .c (.int .i64 1)], []⟩, ⟨some 21, none, .bin (.eql) (.s 20) (.c (.int .i64 0)), []⟩, ⟨some 22, none, .move (.s 21), []⟩, ⟨some 23, some (22, true), .move (.s 1), []⟩, ⟨some 24, some (22, true), .move (.s 0), []⟩, ⟨some 25, some (22, true), .call (.c (.fn 51)) [.s 23, .s 24, .c (.int .i64 1)], []⟩, ⟨some 26, some (22, true), .bin (.eql) (.s 25) (.c (.int .i64 0)), []⟩, ⟨some 27, none, .pick (.s 22) (.s 26) (.c (.bool false)), []⟩, ⟨some 28, none, .move (.s 27), []⟩, ⟨some 29, some (28, true), .move (.s 0), []⟩, ⟨some 30, some (28, true), .move (.s 1), []⟩, ⟨some 31, some (28, true), .call (.c (.fn 51)) [.s 29, .s 30, .c (.int .i64 (-1))], []⟩, ⟨some 32, some (28, true), .bin (.gtr) (.s 31) (.c (.int .i64 0)), []⟩, ⟨some 33, none, .pick (.s 28) (.s 32) (.c (.bool false)), []⟩, ⟨some 4, none, .move (.s 33), []⟩]) .ret))
def r24 : List SRes := [.slot 4]
def k24 : List (Nat × Nat × SCode × Nat) := []
theorem e24 : cFunc Try.prog 24 g24 [] [] k24 = some (c24, r24, 34) := by kernel_rfl
theorem q24 : RgOk Try.prog k24 := RgOk.nil
set_option maxHeartbeats 1000000 in
theorem Apart_ok : Apart.Ok Try.prog 24 := by
  refine Eng.Spec.ok_of e24 q24 (fun _ => [(16, .p Valid), (50, .p crosses), (51, .m countS)]) (fun _ _ => TabOk.p H5.Valid_ok (TabOk.p H6.crossed_ok (TabOk.m count_ok TabOk.nil))) ?_
  rintro ⟨a, b⟩ ⟨ha, hb⟩
  replace ha : (a.n : Int) ≤ 9223372036854775806 := ha
  replace hb : (b.n : Int) ≤ 9223372036854775806 := hb
  refine ⟨trivial, ?_⟩
  repeat' (first | exact ha | exact hb | refine And.intro ?_ ?_ | exact trivial | exact rfl | exact fun (j : Nat) (hj : j < _) => Or.inl (sub_ptN _ _ _ _))
  · refine fun (_ : guardP _ _ _ _) => ?_
    repeat' (first | exact hb | refine And.intro ?_ ?_ | exact trivial | exact rfl | exact fun (j : Nat) (hj : j < _) => Or.inl (sub_ptN _ _ _ _))
  · refine fun (h : pickB (!valV a) _ _ _ (!valV b) = false) => ?_
    rw [pickB_or] at h
    simp only [Bool.or_eq_false_iff] at h
    have v1 := (val_ok (not_f h.1)).1
    have v2 := (val_ok (not_f h.2)).1
    repeat' (first | exact v1 | exact v2 | refine And.intro ?_ ?_ | exact trivial | exact rfl | exact fun (j : Nat) (hj : j < _) => Or.inl (sub_ptN _ _ _ _))
  · refine fun (h : pickB (pickB (!valV a) _ _ _ (!valV b)) _ _ _ (crossB a b) = true) => ?_
    rw [pickB_or, pickB_or] at h
    have e : false = apaV a b := by
      unfold apaV
      cases ea : valV a <;> cases eb : valV b <;> cases ec : crossB a b <;> simp [ea, eb, ec] at h ⊢
    repeat' (first | exact e | refine And.intro ?_ ?_ | exact trivial | exact rfl | exact fun (j : Nat) (hj : j < _) => Or.inl (sub_ptN _ _ _ _))
  refine fun (h : pickB (pickB (!valV a) _ _ _ (!valV b)) _ _ _ (crossB a b) = false) => ?_
  rw [pickB_or, pickB_or] at h
  simp only [Bool.or_eq_false_iff] at h
  have va := not_f h.1.1
  have vb := not_f h.1.2
  have e0 : apaV a b = (((midL a b).any (outV b) && !(midL a b).any (insV b)) && !(midL b a).any (insV a)) := by
    unfold apaV
    rw [va, vb, h.2]
    rfl
  repeat' (first | refine And.intro ?_ ?_ | exact trivial | exact rfl | exact fun (j : Nat) (hj : j < _) => Or.inl (sub_ptN _ _ _ _))
  refine Exists.intro (XC.mk a b 1) (Exists.intro [] ?_)
  refine And.intro (And.intro va vb) ?_
  repeat' (first | refine And.intro ?_ ?_ | exact trivial | exact rfl | exact fun (j : Nat) (hj : j < _) => Or.inl (sub_ptN _ _ _ _))
  refine fun (y : Int) (hy : countP ⟨a, b, 1⟩ y) => ?_
  have a1 := cnt_ins hy
  repeat' (first | refine And.intro ?_ ?_ | exact trivial | exact rfl | exact fun (j : Nat) (hj : j < _) => Or.inl (sub_ptN _ _ _ _))
  · refine fun (_ : decide (y = 0) = true) => ?_
    repeat' (first | refine And.intro ?_ ?_ | exact trivial | exact rfl | exact fun (j : Nat) (hj : j < _) => Or.inl (sub_ptN _ _ _ _))
    refine Exists.intro (XC.mk b a 1) (Exists.intro [] ?_)
    refine And.intro (And.intro vb va) ?_
    repeat' (first | refine And.intro ?_ ?_ | exact trivial | exact rfl | exact fun (j : Nat) (hj : j < _) => Or.inl (sub_ptN _ _ _ _))
    refine fun (z : Int) (hz : countP ⟨b, a, 1⟩ z) => ?_
    have a2 := cnt_ins hz
    repeat' (first | refine And.intro ?_ ?_ | exact trivial | exact rfl | exact fun (j : Nat) (hj : j < _) => Or.inl (sub_ptN _ _ _ _))
    · refine fun (_ : pickB (decide (y = 0)) (.s 26) (.c (.bool false)) (decide (z = 0)) false = true) => ?_
      repeat' (first | refine And.intro ?_ ?_ | exact trivial | exact rfl | exact fun (j : Nat) (hj : j < _) => Or.inl (sub_ptN _ _ _ _))
      refine Exists.intro (XC.mk a b (-1)) (Exists.intro [] ?_)
      refine And.intro (And.intro va vb) ?_
      repeat' (first | refine And.intro ?_ ?_ | exact trivial | exact rfl | exact fun (j : Nat) (hj : j < _) => Or.inl (sub_ptN _ _ _ _))
      refine fun (w : Int) (hw : countP ⟨a, b, -1⟩ w) => ?_
      have a3 := cnt_pos hw
      have e : pickB (pickB (decide (y = 0)) (.s 26) (.c (.bool false)) (decide (z = 0)) false) (.s 32) (.c (.bool false)) (decide (0 < w)) false = apaV a b := by
        rw [pickB_and, pickB_and, a1, a2, a3, e0]
        cases (midL a b).any (outV b) <;> cases (midL a b).any (insV b) <;> cases (midL b a).any (insV a) <;> rfl
      repeat' (first | refine And.intro ?_ ?_ | exact trivial | exact rfl | exact fun (j : Nat) (hj : j < _) => Or.inl (sub_ptN _ _ _ _))
      exact e
    · refine fun (h1 : pickB (decide (y = 0)) (.s 26) (.c (.bool false)) (decide (z = 0)) false = !true) => ?_
      have h0 : pickB (decide (y = 0)) (.s 26) (.c (.bool false)) (decide (z = 0)) false = false := h1
      have e2 : false = apaV a b := by
        rw [pickB_and, a1, a2] at h0
        rw [e0]
        revert h0
        cases (midL a b).any (outV b) <;> cases (midL a b).any (insV b) <;> cases (midL b a).any (insV a) <;> simp
      repeat' (first | exact h0 | exact e2 | exact fun (h : guardP _ _ _ _) => no_tf h0 h | refine And.intro ?_ ?_ | exact trivial | exact rfl | exact fun (j : Nat) (hj : j < _) => Or.inl (sub_ptN _ _ _ _))
  · refine fun (h1 : decide (y = 0) = !true) => ?_
    have h0 : decide (y = 0) = false := h1
    have e2 : false = apaV a b := by
      rw [a1] at h0
      rw [e0]
      revert h0
      cases (midL a b).any (outV b) <;> cases (midL a b).any (insV b) <;> cases (midL b a).any (insV a) <;> simp
    repeat' (first | exact h0 | exact e2 | exact fun (h : guardP _ _ _ _) => no_tf h0 h | refine And.intro ?_ ?_ | exact trivial | exact rfl | exact fun (j : Nat) (hj : j < _) => Or.inl (sub_ptN _ _ _ _))
    · exact fun (k : false = true) => Bool.noConfusion k
    refine fun (_ : false = !true) => ?_
    have ff : false = false := rfl
    repeat' (first | exact h0 | exact e2 | exact fun (h : guardP _ _ _ _) => no_tf ff h | refine And.intro ?_ ?_ | exact trivial | exact rfl | exact fun (j : Nat) (hj : j < _) => Or.inl (sub_ptN _ _ _ _))
end H11
end
section
open Go Go.Eng Go.Proofs G1 G2 G3 G4 G5 G6 G7 G8 G10 G11 G12 G13 G14 G15 G16
set_option maxRecDepth 100000
namespace H12
theorem ValidR_ok : ValidX.Ok Try.prog 16 := by unfold ValidX; rw [valX_eq]; exact ⟨H5.Valid_ok.call, H5.Valid_ok.does⟩
theorem TwiceR_ok : TwiceX.Ok Try.prog 18 := by unfold TwiceX; rw [twiX_eq]; exact ⟨H6.Twice_ok.call, H6.Twice_ok.does⟩
theorem WhereR_ok : WhereX.Ok Try.prog 20 := by unfold WhereX; rw [wheX_eq]; exact ⟨H8.Where_ok.call, H8.Where_ok.does⟩
theorem BoxR_ok : BoxX.Ok Try.prog 14 := by unfold BoxX; rw [boxX_eq]; exact ⟨H6.Box_ok.call, H6.Box_ok.does⟩
theorem WithinR_ok : WithinX.Ok Try.prog 22 := by unfold WithinX; rw [witX_eq]; exact ⟨H11.Within_ok.call, H11.Within_ok.does⟩
theorem ApartR_ok : ApartX.Ok Try.prog 24 := by unfold ApartX; rw [apaX_eq]; exact ⟨H11.Apart_ok.call, H11.Apart_ok.does⟩
structure X3 where
  a : Pts
  b : Pts
  p : Pt
def law3 : Eng.Spec where
  X := X3
  args := fun x => .cons (rgE x.a) (.cons (rgE x.b) (.cons (ptE x.p) .nil))
  pre := fun x => (x.a.n : Int) ≤ 9223372036854775806 ∧ (x.b.n : Int) ≤ 9223372036854775806
  res := fun _ => .bool true
  inst := fun _ => none
/-- gazetteer/gazetteerlaw08.PolygonMatchesReference -/
def g3 : List Nat := [2, 19, 5, 8, 11, 9, 12, 10, 13, 7, 14, 0, 1, 6]
def c3 : SCode :=
  .seq (.region g3 [⟨some 5, none, .box 24 (.s 2), []⟩, ⟨some 6, none, .move (.c (.bool false)), []⟩]) (.seq (.region g3 [⟨some 15, none, .call (.c (.fn 11)) [], []⟩, ⟨some 7, none, .move (.s 15), []⟩]) (.seq (.seq (.region g3 [⟨some 16, none, .move (.s 0), []⟩, ⟨some 17, none, .move (.s 1), []⟩, ⟨some 18, none, .call (.c (.fn 12)) [.s 16, .s 17], []⟩, ⟨some 19, none, .not (.s 18), []⟩]) (.cond (.s 19) (.seq (.region g3 [⟨some 20, none, .move (.s 7), []⟩, ⟨some 6, none, .move (.s 20), []⟩]) .ret) .skip)) (.seq (.region g3 [⟨some 22, none, .move (.s 0), []⟩, ⟨some 23, none, .call (.c (.fn 13)) [.s 22], []⟩, ⟨some 21, none, .move (.s 23), []⟩, ⟨some 24, none, .extract 0 (.s 21), []⟩, ⟨some 25, none, .extract 1 (.s 21), []⟩, ⟨some 26, none, .extract 2 (.s 21), []⟩, ⟨some 8, none, .alloc 24 (.cons (.int .i64 0) (.cons (.int .i64 0) .nil)), []⟩, ⟨some 9, none, .alloc 24 (.cons (.int .i64 0) (.cons (.int .i64 0) .nil)), []⟩, ⟨none, none, .store 2 (.s 8) (.s 24), []⟩, ⟨none, none, .store 2 (.s 9) (.s 25), []⟩, ⟨some 10, none, .move (.s 26), []⟩]) (.seq (.region g3 [⟨some 28, none, .move (.s 0), []⟩, ⟨some 29, none, .call (.c (.fn 14)) [.s 28], []⟩, ⟨some 27, none, .move (.s 29), []⟩, ⟨some 30, none, .extract 0 (.s 27), []⟩, ⟨some 31, none, .extract 1 (.s 27), []⟩, ⟨some 32, none, .extract 2 (.s 27), []⟩, ⟨some 11, none, .alloc 24 (.cons (.int .i64 0) (.cons (.int .i64 0) .nil)), []⟩, ⟨some 12, none, .alloc 24 (.cons (.int .i64 0) (.cons (.int .i64 0) .nil)), []⟩, ⟨none, none, .store 2 (.s 11) (.s 30), []⟩, ⟨none, none, .store 2 (.s 12) (.s 31), []⟩, ⟨some 13, none, .move (.s 32), []⟩]) (.seq (.drawn g3 (.pure 0 ⟨some 33, none, .move (.s 0), []⟩ (.pure 1 ⟨some 34, none, .call (.c (.fn 15)) [.s 33], []⟩ (.pure 2 ⟨some 35, none, .move (.s 0), []⟩ (.pure 3 ⟨some 36, none, .call (.c (.fn 16)) [.s 35], []⟩ (.pure 4 ⟨some 37, none, .eqB false (.s 34) (.s 36), []⟩ (.pure 5 ⟨some 38, none, .move (.s 37), []⟩ (.pure 6 ⟨some 39, some (38, true), .move (.s 0), []⟩ (.pure 7 ⟨some 40, some (38, true), .call (.c (.fn 17)) [.s 39], []⟩ (.pure 8 ⟨some 41, some (38, true), .move (.s 0), []⟩ (.pure 9 ⟨some 42, some (38, true), .call (.c (.fn 18)) [.s 41], []⟩ (.pure 10 ⟨some 43, some (38, true), .bin (.eql) (.s 40) (.s 42), []⟩ (.pure 11 ⟨some 44, none, .pick (.s 38) (.s 43) (.c (.bool false)), []⟩ (.pure 12 ⟨some 45, none, .move (.s 44), []⟩ (.pure 13 ⟨some 46, some (45, true), .move (.s 0), []⟩ (.pure 14 ⟨some 47, some (45, true), .load 2 true (.s 5), []⟩ (.pure 15 ⟨some 48, some (45, true), .call (.c (.fn 19)) [.s 46, .s 47], []⟩ (.pure 16 ⟨some 49, some (45, true), .move (.s 0), []⟩ (.pure 17 ⟨some 50, some (45, true), .load 2 true (.s 5), []⟩ (.pure 18 ⟨some 51, some (45, true), .call (.c (.fn 20)) [.s 49, .s 50], []⟩ (.pure 19 ⟨some 52, some (45, true), .bin (.eql) (.s 48) (.s 51), []⟩ (.pure 20 ⟨some 53, none, .pick (.s 45) (.s 52) (.c (.bool false)), []⟩ (.pure 21 ⟨some 54, none, .move (.s 53), []⟩ (.pure 22 ⟨some 55, some (54, true), .load 2 true (.s 8), []⟩ (.pure 23 ⟨some 56, some (54, true), .load 2 true (.s 11), []⟩ (.pure 24 ⟨some 57, some (54, true), .eqS false [(0, 1), (1, 1)] (.s 55) (.s 56), []⟩ (.pure 25 ⟨some 58, none, .pick (.s 54) (.s 57) (.c (.bool false)), []⟩ (.pure 26 ⟨some 59, none, .move (.s 58), []⟩ (.pure 27 ⟨some 60, some (59, true), .load 2 true (.s 9), []⟩ (.pure 28 ⟨some 61, some (59, true), .load 2 true (.s 12), []⟩ (.pure 29 ⟨some 62, some (59, true), .eqS false [(0, 1), (1, 1)] (.s 60) (.s 61), []⟩ (.pure 30 ⟨some 63, none, .pick (.s 59) (.s 62) (.c (.bool false)), []⟩ (.pure 31 ⟨some 64, none, .move (.s 63), []⟩ (.pure 32 ⟨some 65, some (64, true), .move (.s 10), []⟩ (.pure 33 ⟨some 66, some (64, true), .move (.s 13), []⟩ (.pure 34 ⟨some 67, some (64, true), .bin (.eql) (.s 65) (.s 66), []⟩ (.pure 35 ⟨some 68, none, .pick (.s 64) (.s 67) (.c (.bool false)), []⟩ (.pure 36 ⟨some 14, none, .move (.s 68), []⟩ .done)))))))))))))))))))))))))))))))))))))) (.seq (.region g3 [⟨some 69, none, .move (.s 7), []⟩, ⟨some 70, none, .move (.s 69), []⟩, ⟨some 71, some (70, true), .move (.s 14), []⟩, ⟨some 72, none, .pick (.s 70) (.s 71) (.c (.bool false)), []⟩, ⟨some 73, none, .move (.s 72), []⟩, ⟨some 74, some (73, true), .move (.s 0), []⟩, ⟨some 75, some (73, true), .move (.s 1), []⟩, ⟨some 76, some (73, true), .call (.c (.fn 21)) [.s 74, .s 75], []⟩, ⟨some 77, some (73, true), .move (.s 0), []⟩, ⟨some 78, some (73, true), .move (.s 1), []⟩, ⟨some 79, some (73, true), .call (.c (.fn 22)) [.s 77, .s 78], []⟩, ⟨some 80, some (73, true), .eqB false (.s 76) (.s 79), []⟩, ⟨some 81, none, .pick (.s 73) (.s 80) (.c (.bool false)), []⟩, ⟨some 82, none, .move (.s 81), []⟩, ⟨some 83, some (82, true), .move (.s 0), []⟩, ⟨some 84, some (82, true), .move (.s 1), []⟩, ⟨some 85, some (82, true), .call (.c (.fn 23)) [.s 83, .s 84], []⟩, ⟨some 86, some (82, true), .move (.s 0), []⟩, ⟨some 87, some (82, true), .move (.s 1), []⟩, ⟨some 88, some (82, true), .call (.c (.fn 24)) [.s 86, .s 87], []⟩, ⟨some 89, some (82, true), .eqB false (.s 85) (.s 88), []⟩, ⟨some 90, none, .pick (.s 82) (.s 89) (.c (.bool false)), []⟩, ⟨some 6, none, .move (.s 90), []⟩]) .ret))))))
def r3 : List SRes := [.slot 6]
def k3 : List (Nat × Nat × SCode × Nat) := []
theorem e3 : cFunc Try.prog 3 g3 [] [] k3 = some (c3, r3, 91) := by kernel_rfl
theorem q3 : RgOk Try.prog k3 := RgOk.nil
set_option maxHeartbeats 4000000 in
theorem law3_ok : law3.Ok Try.prog 3 := by
  refine Eng.Spec.ok_of e3 q3 (fun _ => [(11, .p headS), (12, .p Few), (13, .p BoxX), (14, .p BoxX), (15, .p ValidX), (16, .p ValidX), (17, .p TwiceX), (18, .p TwiceX), (19, .p WhereX), (20, .p WhereX), (21, .p WithinX), (22, .p WithinX), (23, .p ApartX), (24, .p ApartX)])
    (fun _ _ => TabOk.p head_ok (TabOk.p Few_ok (TabOk.p BoxX_ok (TabOk.p BoxR_ok (TabOk.p ValidX_ok (TabOk.p ValidR_ok (TabOk.p TwiceX_ok (TabOk.p TwiceR_ok (TabOk.p WhereX_ok (TabOk.p WhereR_ok (TabOk.p WithinX_ok (TabOk.p WithinR_ok (TabOk.p ApartX_ok (TabOk.p ApartR_ok TabOk.nil)))))))))))))) ?_
  rintro ⟨a, b, p⟩ ⟨ha, hb⟩
  replace ha : (a.n : Int) ≤ 9223372036854775806 := ha
  replace hb : (b.n : Int) ≤ 9223372036854775806 := hb
  have c1 : (valX a == valX a) = true := beq_self_eq_true _
  have c2 : decide (twiX a = twiX a) = true := decide_eq_true rfl
  have c3 : decide (wheX a p = wheX a p) = true := decide_eq_true rfl
  have c4 : eqP (boxX a).1 (boxX a).1 = true := eqP_iff.2 rfl
  have c5 : eqP (boxX a).2.1 (boxX a).2.1 = true := eqP_iff.2 rfl
  have c6 : decide ((boxX a).2.2 = (boxX a).2.2) = true := decide_eq_true rfl
  have c7 : (witX a b == witX a b) = true := beq_self_eq_true _
  have c8 : (apaX a b == apaX a b) = true := beq_self_eq_true _
  refine ⟨trivial, ?_⟩
  repeat' (first | exact ha | exact hb | refine And.intro ?_ ?_ | exact trivial | exact rfl | exact fun (j : Nat) (hj : j < _) => Or.inl (sub_ptN _ _ _ _) | (refine fun (_ : guardP _ _ _ _) => ?_))
  · refine fun (_ : (!few a b) = true) => ?_
    repeat' (first | refine And.intro ?_ ?_ | exact trivial | exact rfl | exact fun (j : Nat) (hj : j < _) => Or.inl (sub_ptN _ _ _ _))
  refine fun (_ : (!few a b) = false) => ?_
  have d1 := pand (pand (pand (pand (pand c1 c2 (i := 43)) c3 (i := 52)) c4 (i := 57)) c5 (i := 62)) c6 (i := 67)
  have d2 := pand (pand (pand (show true = true from rfl) d1 (i := 71)) c7 (i := 80)) c8 (i := 89)
  repeat' (first | exact ha | exact hb | refine And.intro ?_ ?_ | exact trivial | exact rfl | exact fun (j : Nat) (hj : j < _) => Or.inl (sub_ptN _ _ _ _) | (refine fun (_ : guardP _ _ _ _) => ?_))
  exact d2
end H12
end
