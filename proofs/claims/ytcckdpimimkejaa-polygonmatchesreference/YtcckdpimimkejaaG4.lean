/- A part of the proof: see the last text. -/
import Derived.Test.YtcckdpimimkejaaG3
open Go Go.Eng Go.Proofs G1 G2 G3
set_option maxRecDepth 100000
namespace G4
/-- Twice a point, less another one. -/
def dbl (a p : Pt) : Pt := (2 * a.1 - p.1, 2 * a.2 - p.2)
/-- How a side goes round the origin. -/
def wnd (A B : Pt) : Int := if A.2 ≤ 0 ∧ 0 < B.2 ∧ 0 < crs A B then 1 else if 0 < A.2 ∧ B.2 ≤ 0 ∧ crs A B < 0 then -1 else 0
def onE (A B : Pt) : Bool := decide (crs A B = 0) && decide (dot A B ≤ 0)
def orB (f : Nat → Bool) : Nat → Bool
  | 0 => false
  | n + 1 => orB f n || f n
def wdI (r : Pts) (p : Pt) (i : Nat) : Int := wnd (dbl (r.p i) p) (dbl (nxt r i) p)
def onI (r : Pts) (p : Pt) (i : Nat) : Bool := onE (dbl (r.p i) p) (dbl (nxt r i) p)
def wdV (r : Pts) (p : Pt) : Int := sumI (wdI r p) r.n
def onV (r : Pts) (p : Pt) : Bool := orB (onI r p) r.n
/-- A point of the grid of halves. -/
def OnH (p : Pt) : Prop := (0 ≤ p.1 ∧ p.1 ≤ 65534) ∧ (0 ≤ p.2 ∧ p.2 ≤ 65534)
def ptsPt : SV → Option (Pts × Pt)
  | .cons a (.cons b .nil) => match ptsD a, ptD b with
    | some r, some p => some (r, p)
    | _, _ => none
  | _ => none
def half : Eng.Spec where
  X := Pts × Pt
  args := fun x => .cons (rgE x.1) (.cons (ptE x.2) .nil)
  pre := fun x => (x.1.n ≤ 50 ∧ OnR x.1) ∧ OnH x.2
  res := fun x => .tup (.cons (.int .i64 (wdV x.1 x.2)) (.cons (.bool (onV x.1 x.2)) .nil))
  inst := ptsPt
theorem dbl_bd {a p : Pt} (h : onB a = true) (hp : OnH p) : bd 65534 (dbl a p) := by
  have := onB_iff.1 h
  obtain ⟨⟨h1, h2⟩, ⟨h3, h4⟩⟩ := hp
  unfold bd dbl
  dsimp only
  omega
def I64 (x : Int) : Prop := -9223372036854775808 ≤ x ∧ x ≤ 9223372036854775807
theorem wnd_bd (A B : Pt) : -1 ≤ wnd A B ∧ wnd A B ≤ 1 := by
  unfold wnd
  split
  · omega
  · split <;> omega
/-- (gazetteer/polygon.ring).half -/
def g64 : List Nat := [1, 0, 14, 15, 16, 6, 7, 3, 8, 10, 63, 9, 11, 12, 76, 4, 5]
def c64 : SCode :=
  .seq (.region g64 [⟨some 3, none, .box 24 (.s 1), []⟩, ⟨some 4, none, .alloc 3 (.cons (.int .i64 0) .nil), []⟩, ⟨some 5, none, .alloc 4 (.cons (.bool false) .nil), []⟩]) (.seq (.seq (.region g64 [⟨some 13, none, .move (.s 0), []⟩, ⟨some 14, none, .call (.c (.fn 58)) [.s 13], []⟩]) (.block 0 (.range 0 (.s 14) 72 (c72) 25 [15, 16] (.seq (.region g64 [⟨some 6, none, .alloc 24 (.cons (.int .i64 0) (.cons (.int .i64 0) .nil)), []⟩, ⟨none, none, .store 2 (.s 6) (.s 15), []⟩]) (.region g64 [⟨some 7, none, .alloc 24 (.cons (.int .i64 0) (.cons (.int .i64 0) .nil)), []⟩, ⟨none, none, .store 2 (.s 7) (.s 16), []⟩])) (.block 1 (.seq (.drawn g64 (.pure 0 ⟨some 17, none, .fldA 0 (.s 6), []⟩ (.pure 1 ⟨some 18, none, .load 1 false (.s 17), []⟩ (.pure 2 ⟨some 19, none, .bin (.mul) (.c (.int .i64 2)) (.s 18), []⟩ (.pure 3 ⟨some 20, none, .fldA 0 (.s 3), []⟩ (.pure 4 ⟨some 21, none, .load 1 false (.s 20), []⟩ (.pure 5 ⟨some 22, none, .bin (.sub) (.s 19) (.s 21), []⟩ (.pure 6 ⟨some 23, none, .fldA 1 (.s 6), []⟩ (.pure 7 ⟨some 24, none, .load 1 false (.s 23), []⟩ (.pure 8 ⟨some 25, none, .bin (.mul) (.c (.int .i64 2)) (.s 24), []⟩ (.pure 9 ⟨some 26, none, .fldA 1 (.s 3), []⟩ (.pure 10 ⟨some 27, none, .load 1 false (.s 26), []⟩ (.pure 11 ⟨some 28, none, .bin (.sub) (.s 25) (.s 27), []⟩ (.pure 12 ⟨some 29, none, .fldA 0 (.s 7), []⟩ (.pure 13 ⟨some 30, none, .load 1 false (.s 29), []⟩ (.pure 14 ⟨some 31, none, .bin (.mul) (.c (.int .i64 2)) (.s 30), []⟩ (.pure 15 ⟨some 32, none, .fldA 0 (.s 3), []⟩ (.pure 16 ⟨some 33, none, .load 1 false (.s 32), []⟩ (.pure 17 ⟨some 34, none, .bin (.sub) (.s 31) (.s 33), []⟩ (.pure 18 ⟨some 35, none, .fldA 1 (.s 7), []⟩ (.pure 19 ⟨some 36, none, .load 1 false (.s 35), []⟩ (.pure 20 ⟨some 37, none, .bin (.mul) (.c (.int .i64 2)) (.s 36), []⟩ (.pure 21 ⟨some 38, none, .fldA 1 (.s 3), []⟩ (.pure 22 ⟨some 39, none, .load 1 false (.s 38), []⟩ (.pure 23 ⟨some 40, none, .bin (.sub) (.s 37) (.s 39), []⟩ (.pure 24 ⟨some 8, none, .move (.s 22), []⟩ (.pure 25 ⟨some 9, none, .move (.s 28), []⟩ (.pure 26 ⟨some 10, none, .move (.s 34), []⟩ (.pure 27 ⟨some 11, none, .move (.s 40), []⟩ .done))))))))))))))))))))))))))))) (.seq (.region g64 [⟨some 41, none, .move (.s 8), []⟩, ⟨some 42, none, .move (.s 11), []⟩, ⟨some 43, none, .bin (.mul) (.s 41) (.s 42), []⟩, ⟨some 44, none, .move (.s 9), []⟩, ⟨some 45, none, .move (.s 10), []⟩, ⟨some 46, none, .bin (.mul) (.s 44) (.s 45), []⟩, ⟨some 47, none, .bin (.sub) (.s 43) (.s 46), []⟩, ⟨some 12, none, .move (.s 47), []⟩]) (.seq (.region g64 [⟨some 48, none, .load 1 false (.s 5), []⟩, ⟨some 49, none, .move (.s 48), []⟩, ⟨some 50, some (49, false), .move (.s 12), []⟩, ⟨some 51, some (49, false), .bin (.eql) (.s 50) (.c (.int .i64 0)), []⟩, ⟨some 52, some (49, false), .move (.s 51), []⟩, ⟨some 53, some (52, true), .move (.s 8), []⟩, ⟨some 54, some (52, true), .move (.s 10), []⟩, ⟨some 55, some (52, true), .bin (.mul) (.s 53) (.s 54), []⟩, ⟨some 56, some (52, true), .move (.s 9), []⟩, ⟨some 57, some (52, true), .move (.s 11), []⟩, ⟨some 58, some (52, true), .bin (.mul) (.s 56) (.s 57), []⟩, ⟨some 59, some (52, true), .bin (.add) (.s 55) (.s 58), []⟩, ⟨some 60, some (52, true), .bin (.leq) (.s 59) (.c (.int .i64 0)), []⟩, ⟨some 61, some (49, false), .pick (.s 52) (.s 60) (.c (.bool false)), []⟩, ⟨some 62, none, .pick (.s 49) (.c (.bool true)) (.s 61), []⟩, ⟨none, none, .store 1 (.s 5) (.s 62), []⟩]) (.block 2 (.seq (.region g64 [⟨some 64, none, .move (.s 9), []⟩, ⟨some 65, none, .bin (.leq) (.s 64) (.c (.int .i64 0)), []⟩, ⟨some 66, none, .move (.s 65), []⟩, ⟨some 67, some (66, true), .move (.s 11), []⟩, ⟨some 68, some (66, true), .bin (.gtr) (.s 67) (.c (.int .i64 0)), []⟩, ⟨some 69, none, .pick (.s 66) (.s 68) (.c (.bool false)), []⟩, ⟨some 70, none, .move (.s 69), []⟩, ⟨some 71, some (70, true), .move (.s 12), []⟩, ⟨some 72, some (70, true), .bin (.gtr) (.s 71) (.c (.int .i64 0)), []⟩, ⟨some 73, none, .pick (.s 70) (.s 72) (.c (.bool false)), []⟩, ⟨some 63, none, .move (.s 73), []⟩]) (.cond (.s 63) (.region g64 [⟨some 74, none, .load 1 false (.s 4), []⟩, ⟨some 75, none, .bin (.add) (.s 74) (.c (.int .i64 1)), []⟩, ⟨none, none, .store 1 (.s 4) (.s 75), []⟩]) (.seq (.region g64 [⟨some 77, none, .move (.s 9), []⟩, ⟨some 78, none, .bin (.gtr) (.s 77) (.c (.int .i64 0)), []⟩, ⟨some 79, none, .move (.s 78), []⟩, ⟨some 80, some (79, true), .move (.s 11), []⟩, ⟨some 81, some (79, true), .bin (.leq) (.s 80) (.c (.int .i64 0)), []⟩, ⟨some 82, none, .pick (.s 79) (.s 81) (.c (.bool false)), []⟩, ⟨some 83, none, .move (.s 82), []⟩, ⟨some 84, some (83, true), .move (.s 12), []⟩, ⟨some 85, some (83, true), .bin (.lss) (.s 84) (.c (.int .i64 0)), []⟩, ⟨some 86, none, .pick (.s 83) (.s 85) (.c (.bool false)), []⟩, ⟨some 76, none, .move (.s 86), []⟩]) (.cond (.s 76) (.region g64 [⟨some 87, none, .load 1 false (.s 4), []⟩, ⟨some 88, none, .bin (.sub) (.s 87) (.c (.int .i64 1)), []⟩, ⟨none, none, .store 1 (.s 4) (.s 88), []⟩]) .skip)))))))))))) (.seq (.drawn g64 (.pure 0 ⟨some 89, none, .load 1 false (.s 4), []⟩ (.pure 1 ⟨some 90, none, .load 1 false (.s 5), []⟩ (.eff 2 ⟨none, none, .store 1 (.s 4) (.s 89), []⟩ [⟨some 90, none, .load 1 false (.s 5), []⟩] (.eff 3 ⟨none, none, .store 1 (.s 5) (.s 90), []⟩ [] .done .none) .none)))) .ret))
def r64 : List SRes := [.cell 4 1 false, .cell 5 1 false]
def k64 : List (Nat × Nat × SCode × Nat) := [(0, 72, c72, 25)]
theorem e64 : cFunc Try.prog 64 g64 [] [] k64 = some (c64, r64, 91) := by kernel_rfl
theorem q64 : RgOk Try.prog k64 := RgOk.cons (RgOk.nil) q72 e72
set_option maxHeartbeats 4000000 in
theorem half_ok : half.Ok Try.prog 64 := by
  refine Eng.Spec.ok_of e64 q64 (fun _ => [(58, .p sides)]) (fun _ _ => TabOk.p sides_ok TabOk.nil) ?_
  rintro ⟨r, p⟩ ⟨⟨hn, hr⟩, hp⟩
  replace hn : r.n ≤ 50 := hn
  replace hr : OnR r := hr
  replace hp : OnH p := hp
  refine ⟨trivial, ?_⟩
  repeat' (first | refine And.intro ?_ ?_ | exact trivial | exact rfl | exact fun (j : Nat) (hj : j < _) => Or.inl (sub_ptN _ _ _ _))
  refine ⟨⟨Nat, fun i => i ≤ r.n, fun i => [(7, .int .i64 (i : Int))], fun i => [(1, .cells 3 (.cons (.int .i64 (sumI (wdI r p) i)) .nil)), (2, .cells 4 (.cons (.bool (orB (onI r p) i)) .nil))], fun i => r.n - i⟩, 0, Nat.zero_le _, ?_, ?_⟩
  · repeat' (first | refine And.intro ?_ ?_ | exact trivial | exact rfl | exact fun (j : Nat) (hj : j < _) => Or.inl (sub_ptN _ _ _ _))
  rintro (i : Nat) (hi : i ≤ r.n)
  repeat' (first | refine And.intro ?_ ?_ | exact trivial | exact rfl | exact fun (j : Nat) (hj : j < _) => Or.inl (sub_ptN _ _ _ _))
  · refine fun (h : decide ((i : Int) < (r.n : Int)) = true) => ?_
    have hi1 : (i : Int) < (r.n : Int) := of_decide_eq_true h
    have hil : i < r.n := by omega
    have hi0 : (0 : Int) ≤ (i : Int) := by omega
    have b1 : -9223372036854775808 ≤ (i : Int) + 1 := by omega
    have b2 : (i : Int) + 1 ≤ 9223372036854775807 := by omega
    have hnz : (r.n : Int) ≠ 0 := by omega
    have hm := tmod_nx (i := i) (n := r.n) (by omega)
    have hq : r.p (((i : Int) + 1).tmod (r.n : Int)).toNat = nxt r i := by rw [hm]; rfl
    have hm1 : 0 ≤ ((i : Int) + 1).tmod (r.n : Int) := by rw [hm]; omega
    have hm2 : ((i : Int) + 1).tmod (r.n : Int) < (r.n : Int) := by rw [hm]; have := Nat.mod_lt (i + 1) (show 0 < r.n by omega); omega
    have hqb : onB (r.p (((i : Int) + 1).tmod (r.n : Int)).toNat) = true := by rw [hq]; exact nxt_on hr hil
    have ka := onB_iff.1 (hr i hil)
    have kq := onB_iff.1 hqb
    have bA := dbl_bd (hr i hil) hp
    have bB := dbl_bd hqb hp
    have kc := crs_bd bA bB
    have kd := dot_bd bA bB
    have bA' := bA
    have bB' := bB
    unfold bd at bA' bB'
    obtain ⟨⟨p1, p2⟩, ⟨p3, p4⟩⟩ := hp
    have f1 : I64 (2 * (r.p i).1) := ⟨by omega, by omega⟩
    have f2 : I64 (dbl (r.p i) p).1 := ⟨by omega, by omega⟩
    have f3 : I64 (2 * (r.p i).2) := ⟨by omega, by omega⟩
    have f4 : I64 (dbl (r.p i) p).2 := ⟨by omega, by omega⟩
    have f5 : I64 (2 * (r.p (((i : Int) + 1).tmod (r.n : Int)).toNat).1) := ⟨by omega, by omega⟩
    have f6 : I64 (dbl (r.p (((i : Int) + 1).tmod (r.n : Int)).toNat) p).1 := ⟨by omega, by omega⟩
    have f7 : I64 (2 * (r.p (((i : Int) + 1).tmod (r.n : Int)).toNat).2) := ⟨by omega, by omega⟩
    have f8 : I64 (dbl (r.p (((i : Int) + 1).tmod (r.n : Int)).toNat) p).2 := ⟨by omega, by omega⟩
    have f9 : I64 ((dbl (r.p i) p).1 * (dbl (r.p (((i : Int) + 1).tmod (r.n : Int)).toNat) p).2) := ⟨by omega, by omega⟩
    have f10 : I64 ((dbl (r.p i) p).2 * (dbl (r.p (((i : Int) + 1).tmod (r.n : Int)).toNat) p).1) := ⟨by omega, by omega⟩
    have f11 : I64 (crs (dbl (r.p i) p) (dbl (r.p (((i : Int) + 1).tmod (r.n : Int)).toNat) p)) := ⟨by unfold crs; omega, by unfold crs; omega⟩
    have f12 : I64 ((dbl (r.p i) p).1 * (dbl (r.p (((i : Int) + 1).tmod (r.n : Int)).toNat) p).1) := ⟨by omega, by omega⟩
    have f13 : I64 ((dbl (r.p i) p).2 * (dbl (r.p (((i : Int) + 1).tmod (r.n : Int)).toNat) p).2) := ⟨by omega, by omega⟩
    have f14 : I64 (dot (dbl (r.p i) p) (dbl (r.p (((i : Int) + 1).tmod (r.n : Int)).toNat) p)) := ⟨by unfold dot; omega, by unfold dot; omega⟩
    have hws := sum_bd (f := wdI r p) (B := 1) (n := i) fun j _ => wnd_bd _ _
    have ew : wdI r p i = wnd (dbl (r.p i) p) (dbl (r.p (((i : Int) + 1).tmod (r.n : Int)).toNat) p) := by rw [hq]; rfl
    have eo : onI r p i = onE (dbl (r.p i) p) (dbl (r.p (((i : Int) + 1).tmod (r.n : Int)).toNat) p) := by rw [hq]; rfl
    have eon : ∀ a b c d, pickB (orB (onI r p) i) (.c (.bool true)) (.s a) b (pickB (decide (crs (dbl (r.p i) p) (dbl (r.p (((i : Int) + 1).tmod (r.n : Int)).toNat) p) = 0)) (.s c) (.c (.bool false)) (decide (dot (dbl (r.p i) p) (dbl (r.p (((i : Int) + 1).tmod (r.n : Int)).toNat) p) ≤ 0)) d) = orB (onI r p) (i + 1) := fun a b c d => by
      simp only [orB]
      rw [eo]
      unfold onE
      rw [pickB_and, pickB_or]
    repeat' (first | with_reducible exact hi1 | with_reducible exact hi0 | with_reducible exact b1 | with_reducible exact b2 | with_reducible exact hnz | exact hm1 | exact hm2 | refine And.intro ?_ ?_ | exact trivial | exact rfl | exact fun (j : Nat) (hj : j < _) => Or.inl (sub_ptN _ _ _ _) | exact fun (h : (!true) = true) => Bool.noConfusion h | (refine fun (_ : (!true) = false) => ?_))
    · exact f1.1
    · exact f1.2
    · exact f2.1
    · exact f2.2
    · exact f3.1
    · exact f3.2
    · exact f4.1
    · exact f4.2
    · exact f5.1
    · exact f5.2
    · exact f6.1
    · exact f6.2
    · exact f7.1
    · exact f7.2
    · exact f8.1
    · exact f8.2
    · exact f9.1
    · exact f9.2
    · exact f10.1
    · exact f10.2
    · exact f11.1
    · exact f11.2
    · exact fun (_ : guardP _ _ _ _) => f12
    · exact fun (_ : guardP _ _ _ _) => f13
    · exact fun (_ : guardP _ _ _ _) => f14
    · refine fun (h1 : pickB (pickB (decide ((dbl (r.p i) p).2 ≤ 0)) _ _ (decide (0 < (dbl (r.p (((i : Int) + 1).tmod (r.n : Int)).toNat) p).2)) _) _ _ (decide (0 < crs (dbl (r.p i) p) (dbl (r.p (((i : Int) + 1).tmod (r.n : Int)).toNat) p))) _ = true) => ?_
      rw [pickB_and, pickB_and] at h1
      simp only [Bool.and_eq_true, decide_eq_true_eq] at h1
      have e1 : wdI r p i = 1 := by rw [ew]; unfold wnd; rw [if_pos ⟨h1.1.1, h1.1.2, h1.2⟩]
      have es : sumI (wdI r p) i + 1 = sumI (wdI r p) (i + 1) := by simp only [sumI]; rw [e1]
      have g1 : -9223372036854775808 ≤ sumI (wdI r p) i + 1 := by omega
      have g2 : sumI (wdI r p) i + 1 ≤ 9223372036854775807 := by omega
      repeat' (first | with_reducible exact g1 | with_reducible exact g2 | with_reducible exact b1 | with_reducible exact b2 | refine And.intro ?_ ?_ | exact trivial | exact rfl | exact fun (j : Nat) (hj : j < _) => Or.inl (sub_ptN _ _ _ _) | exact fun (h : (!true) = true) => Bool.noConfusion h | (refine fun (_ : (!true) = false) => ?_))
      refine Exists.intro (i + 1) ?_
      refine And.intro (show i + 1 ≤ r.n from hil) ?_
      repeat' (first | with_reducible exact es | exact eon _ _ _ _ | refine And.intro ?_ ?_ | exact trivial | exact rfl | exact fun (j : Nat) (hj : j < _) => Or.inl (sub_ptN _ _ _ _))
      show r.n - (i + 1) < r.n - i
      omega
    refine fun (h1 : pickB (pickB (decide ((dbl (r.p i) p).2 ≤ 0)) _ _ (decide (0 < (dbl (r.p (((i : Int) + 1).tmod (r.n : Int)).toNat) p).2)) _) _ _ (decide (0 < crs (dbl (r.p i) p) (dbl (r.p (((i : Int) + 1).tmod (r.n : Int)).toNat) p))) _ = false) => ?_
    rw [pickB_and, pickB_and] at h1
    have h1' : ¬ ((dbl (r.p i) p).2 ≤ 0 ∧ 0 < (dbl (r.p (((i : Int) + 1).tmod (r.n : Int)).toNat) p).2 ∧ 0 < crs (dbl (r.p i) p) (dbl (r.p (((i : Int) + 1).tmod (r.n : Int)).toNat) p)) := by
      rintro ⟨q1, q2, q3⟩
      rw [decide_eq_true q1, decide_eq_true q2, decide_eq_true q3] at h1
      cases h1
    repeat' (first | with_reducible exact b1 | with_reducible exact b2 | refine And.intro ?_ ?_ | exact trivial | exact rfl | exact fun (j : Nat) (hj : j < _) => Or.inl (sub_ptN _ _ _ _) | exact fun (h : (!true) = true) => Bool.noConfusion h | (refine fun (_ : (!true) = false) => ?_))
    · refine fun (h2 : pickB (pickB (decide (0 < (dbl (r.p i) p).2)) _ _ (decide ((dbl (r.p (((i : Int) + 1).tmod (r.n : Int)).toNat) p).2 ≤ 0)) _) _ _ (decide (crs (dbl (r.p i) p) (dbl (r.p (((i : Int) + 1).tmod (r.n : Int)).toNat) p) < 0)) _ = true) => ?_
      rw [pickB_and, pickB_and] at h2
      simp only [Bool.and_eq_true, decide_eq_true_eq] at h2
      have e1 : wdI r p i = -1 := by rw [ew]; unfold wnd; rw [if_neg h1', if_pos ⟨h2.1.1, h2.1.2, h2.2⟩]
      have es : sumI (wdI r p) i - 1 = sumI (wdI r p) (i + 1) := by simp only [sumI]; rw [e1]; omega
      have g1 : -9223372036854775808 ≤ sumI (wdI r p) i - 1 := by omega
      have g2 : sumI (wdI r p) i - 1 ≤ 9223372036854775807 := by omega
      repeat' (first | with_reducible exact g1 | with_reducible exact g2 | with_reducible exact b1 | with_reducible exact b2 | refine And.intro ?_ ?_ | exact trivial | exact rfl | exact fun (j : Nat) (hj : j < _) => Or.inl (sub_ptN _ _ _ _) | exact fun (h : (!true) = true) => Bool.noConfusion h | (refine fun (_ : (!true) = false) => ?_))
      refine Exists.intro (i + 1) ?_
      refine And.intro (show i + 1 ≤ r.n from hil) ?_
      repeat' (first | with_reducible exact es | exact eon _ _ _ _ | refine And.intro ?_ ?_ | exact trivial | exact rfl | exact fun (j : Nat) (hj : j < _) => Or.inl (sub_ptN _ _ _ _))
      show r.n - (i + 1) < r.n - i
      omega
    refine fun (h2 : pickB (pickB (decide (0 < (dbl (r.p i) p).2)) _ _ (decide ((dbl (r.p (((i : Int) + 1).tmod (r.n : Int)).toNat) p).2 ≤ 0)) _) _ _ (decide (crs (dbl (r.p i) p) (dbl (r.p (((i : Int) + 1).tmod (r.n : Int)).toNat) p) < 0)) _ = false) => ?_
    rw [pickB_and, pickB_and] at h2
    have h2' : ¬ (0 < (dbl (r.p i) p).2 ∧ (dbl (r.p (((i : Int) + 1).tmod (r.n : Int)).toNat) p).2 ≤ 0 ∧ crs (dbl (r.p i) p) (dbl (r.p (((i : Int) + 1).tmod (r.n : Int)).toNat) p) < 0) := by
      rintro ⟨q1, q2, q3⟩
      rw [decide_eq_true q1, decide_eq_true q2, decide_eq_true q3] at h2
      cases h2
    have e1 : wdI r p i = 0 := by rw [ew]; unfold wnd; rw [if_neg h1', if_neg h2']
    have es : sumI (wdI r p) i = sumI (wdI r p) (i + 1) := by simp only [sumI]; rw [e1]; omega
    repeat' (first | with_reducible exact b1 | with_reducible exact b2 | refine And.intro ?_ ?_ | exact trivial | exact rfl | exact fun (j : Nat) (hj : j < _) => Or.inl (sub_ptN _ _ _ _) | exact fun (h : (!true) = true) => Bool.noConfusion h | (refine fun (_ : (!true) = false) => ?_))
    refine Exists.intro (i + 1) ?_
    refine And.intro (show i + 1 ≤ r.n from hil) ?_
    repeat' (first | with_reducible exact es | exact eon _ _ _ _ | refine And.intro ?_ ?_ | exact trivial | exact rfl | exact fun (j : Nat) (hj : j < _) => Or.inl (sub_ptN _ _ _ _))
    show r.n - (i + 1) < r.n - i
    omega
  · refine fun (h : decide ((i : Int) < (r.n : Int)) = false) => ?_
    have hi1 : ¬ (i : Int) < (r.n : Int) := of_decide_eq_false h
    have e : i = r.n := by omega
    subst e
    repeat' (first | refine And.intro ?_ ?_ | exact trivial | exact rfl | exact fun (j : Nat) (hj : j < _) => Or.inl (sub_ptN _ _ _ _))
end G4
