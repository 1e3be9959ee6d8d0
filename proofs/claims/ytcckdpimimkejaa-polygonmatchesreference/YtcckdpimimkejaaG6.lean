/- A part of the proof: see the last text. -/
import Derived.Test.YtcckdpimimkejaaG5
open Go Go.Eng Go.Proofs G1 G2 G3 G4 G5
set_option maxRecDepth 100000
namespace G6
/-! ### Simple rings -/
def bad0 (r : Pts) (i : Nat) : Bool := decide (turnV (r.p i) (nxt r i) (r.p ((i + 2) % r.n)) = 0)
def bad1 (r : Pts) (i k : Nat) : Bool := decide (0 < crV (r.p i) (nxt r i) (r.p k) (nxt r k))
def badK (r : Pts) (i : Nat) : Nat := min r.n (i + r.n - 1) - (i + 2)
def bad (r : Pts) (i : Nat) : Bool := bad0 r i || orB (fun j => bad1 r i (i + 2 + j)) (badK r i)
def simV (r : Pts) : Bool := !orB (bad r) r.n
def simple : Eng.Spec where
  X := Pts
  args := fun r => .cons (rgE r) .nil
  pre := fun r => r.n ≤ 50 ∧ OnR r
  res := fun r => .bool (simV r)
  inst := fun
    | .cons a .nil => ptsD a
    | _ => none
/-- (gazetteer/polygon.ring).simple -/
def g36 : List Nat := [11, 13, 36, 4, 46, 5, 6, 0, 3, 63, 7, 12, 2]
def c36 : SCode :=
  .seq (.region g36 [⟨some 2, none, .move (.c (.bool false)), []⟩]) (.seq (.region g36 [⟨some 8, none, .move (.s 0), []⟩, ⟨some 9, none, .lenSl (.s 8), []⟩, ⟨some 3, none, .move (.s 9), []⟩]) (.seq (.seq (.region g36 [⟨some 10, none, .move (.s 0), []⟩, ⟨some 11, none, .lenSl (.s 10), []⟩, ⟨some 12, none, .move (.c (.int .i64 0)), []⟩]) (.block 0 (.loop 0 [13, 14, 4, 15, 16, 17, 18, 19, 20, 21, 22, 23, 24, 25, 5, 6, 26, 27, 28, 29, 30, 31, 32, 33, 34, 35, 36, 37, 38, 39, 40, 41, 42, 43, 44, 45, 46, 49, 50, 51, 52, 53, 54, 55, 56, 57, 58, 59, 60, 61, 62, 63, 2, 47, 48, 7, 64, 12] (.seq (.region g36 [⟨some 13, none, .bin (.lss) (.s 12) (.s 11), []⟩]) (.seq (.cond (.s 13) .skip (.exit 0)) (.seq (.block 1 (.seq (.region g36 [⟨some 14, none, .move (.s 12), []⟩, ⟨some 4, none, .move (.s 14), []⟩]) (.seq (.drawn g36 (.pure 0 ⟨some 15, none, .move (.s 0), []⟩ (.pure 1 ⟨some 16, none, .move (.s 4), []⟩ (.pure 2 ⟨some 17, none, .idxSl 2 (.s 15) (.s 16), []⟩ (.pure 3 ⟨some 18, none, .load 2 true (.s 17), []⟩ (.pure 4 ⟨some 19, none, .move (.s 0), []⟩ (.pure 5 ⟨some 20, none, .move (.s 4), []⟩ (.pure 6 ⟨some 21, none, .bin (.add) (.s 20) (.c (.int .i64 1)), []⟩ (.pure 7 ⟨some 22, none, .move (.s 3), []⟩ (.pure 8 ⟨some 23, none, .bin (.rem) (.s 21) (.s 22), []⟩ (.pure 9 ⟨some 24, none, .idxSl 2 (.s 19) (.s 23), []⟩ (.pure 10 ⟨some 25, none, .load 2 true (.s 24), []⟩ (.eff 11 ⟨some 5, none, .alloc 24 (.cons (.int .i64 0) (.cons (.int .i64 0) .nil)), []⟩ [⟨some 25, none, .load 2 true (.s 24), []⟩, ⟨some 18, none, .load 2 true (.s 17), []⟩] (.eff 12 ⟨some 6, none, .alloc 24 (.cons (.int .i64 0) (.cons (.int .i64 0) .nil)), []⟩ [⟨some 25, none, .load 2 true (.s 24), []⟩, ⟨some 18, none, .load 2 true (.s 17), []⟩] (.eff 13 ⟨none, none, .store 2 (.s 5) (.s 18), []⟩ [⟨some 25, none, .load 2 true (.s 24), []⟩] (.eff 14 ⟨none, none, .store 2 (.s 6) (.s 25), []⟩ [] .done .none) .none) .none) (.eff 12 ⟨some 6, none, .alloc 24 (.cons (.int .i64 0) (.cons (.int .i64 0) .nil)), []⟩ [⟨some 25, none, .load 2 true (.s 24), []⟩, ⟨some 18, none, .load 2 true (.s 17), []⟩] (.eff 11 ⟨some 5, none, .alloc 24 (.cons (.int .i64 0) (.cons (.int .i64 0) .nil)), []⟩ [⟨some 25, none, .load 2 true (.s 24), []⟩, ⟨some 18, none, .load 2 true (.s 17), []⟩] (.eff 13 ⟨none, none, .store 2 (.s 5) (.s 18), []⟩ [⟨some 25, none, .load 2 true (.s 24), []⟩] (.eff 14 ⟨none, none, .store 2 (.s 6) (.s 25), []⟩ [] .done .none) .none) .none) .none)))))))))))))) (.seq (.seq (.drawn g36 (.pure 0 ⟨some 26, none, .load 2 true (.s 5), []⟩ (.pure 1 ⟨some 27, none, .load 2 true (.s 6), []⟩ (.pure 2 ⟨some 28, none, .move (.s 0), []⟩ (.pure 3 ⟨some 29, none, .move (.s 4), []⟩ (.pure 4 ⟨some 30, none, .bin (.add) (.s 29) (.c (.int .i64 2)), []⟩ (.pure 5 ⟨some 31, none, .move (.s 3), []⟩ (.pure 6 ⟨some 32, none, .bin (.rem) (.s 30) (.s 31), []⟩ (.pure 7 ⟨some 33, none, .idxSl 2 (.s 28) (.s 32), []⟩ (.pure 8 ⟨some 34, none, .load 2 true (.s 33), []⟩ (.pure 9 ⟨some 35, none, .call (.c (.fn 59)) [.s 26, .s 27, .s 34], []⟩ (.pure 10 ⟨some 36, none, .bin (.eql) (.s 35) (.c (.int .i64 0)), []⟩ .done)))))))))))) (.cond (.s 36) (.seq (.region g36 [⟨some 2, none, .move (.c (.bool false)), []⟩]) .ret) .skip)) (.seq (.region g36 [⟨some 37, none, .move (.s 4), []⟩, ⟨some 38, none, .bin (.add) (.s 37) (.c (.int .i64 2)), []⟩, ⟨some 7, none, .move (.s 38), []⟩]) (.block 2 (.loop 1 [39, 40, 41, 42, 43, 44, 45, 46, 49, 50, 51, 52, 53, 54, 55, 56, 57, 58, 59, 60, 61, 62, 63, 2, 47, 48, 7] (.seq (.seq (.region g36 [⟨some 39, none, .move (.s 7), []⟩, ⟨some 40, none, .move (.s 3), []⟩, ⟨some 41, none, .move (.s 4), []⟩, ⟨some 42, none, .move (.s 3), []⟩, ⟨some 43, none, .bin (.add) (.s 41) (.s 42), []⟩, ⟨some 44, none, .bin (.sub) (.s 43) (.c (.int .i64 1)), []⟩, ⟨some 45, none, .mm false (.s 40) (.s 44), []⟩, ⟨some 46, none, .bin (.lss) (.s 39) (.s 45), []⟩]) (.cond (.s 46) .skip (.exit 2))) (.seq (.block 3 (.seq (.drawn g36 (.pure 0 ⟨some 49, none, .load 2 true (.s 5), []⟩ (.pure 1 ⟨some 50, none, .load 2 true (.s 6), []⟩ (.pure 2 ⟨some 51, none, .move (.s 0), []⟩ (.pure 3 ⟨some 52, none, .move (.s 7), []⟩ (.pure 4 ⟨some 53, none, .idxSl 2 (.s 51) (.s 52), []⟩ (.pure 5 ⟨some 54, none, .load 2 true (.s 53), []⟩ (.pure 6 ⟨some 55, none, .move (.s 0), []⟩ (.pure 7 ⟨some 56, none, .move (.s 7), []⟩ (.pure 8 ⟨some 57, none, .bin (.add) (.s 56) (.c (.int .i64 1)), []⟩ (.pure 9 ⟨some 58, none, .move (.s 3), []⟩ (.pure 10 ⟨some 59, none, .bin (.rem) (.s 57) (.s 58), []⟩ (.pure 11 ⟨some 60, none, .idxSl 2 (.s 55) (.s 59), []⟩ (.pure 12 ⟨some 61, none, .load 2 true (.s 60), []⟩ (.pure 13 ⟨some 62, none, .call (.c (.fn 60)) [.s 49, .s 50, .s 54, .s 61], []⟩ (.pure 14 ⟨some 63, none, .bin (.gtr) (.s 62) (.c (.int .i64 0)), []⟩ .done)))))))))))))))) (.cond (.s 63) (.seq (.region g36 [⟨some 2, none, .move (.c (.bool false)), []⟩]) .ret) .skip))) (.region g36 [⟨some 47, none, .move (.s 7), []⟩, ⟨some 48, none, .bin (.add) (.s 47) (.c (.int .i64 1)), []⟩, ⟨some 7, none, .move (.s 48), []⟩])))))))))) (.region g36 [⟨some 64, none, .bin (.add) (.s 12) (.c (.int .i64 1)), []⟩, ⟨some 12, none, .move (.s 64), []⟩]))))))) (.seq (.region g36 [⟨some 2, none, .move (.c (.bool true)), []⟩]) .ret)))
def r36 : List SRes := [.slot 2]
def k36 : List (Nat × Nat × SCode × Nat) := []
theorem e36 : cFunc Try.prog 36 g36 [] [] k36 = some (c36, r36, 65) := by kernel_rfl
theorem q36 : RgOk Try.prog k36 := RgOk.nil
theorem tmod_nx2 {i n : Nat} (_ : 0 < n) : ((i : Int) + 2).tmod (n : Int) = (((i + 2) % n : Nat) : Int) := by
  rw [Int.tmod_eq_emod_of_nonneg (by omega)]
  rfl
set_option maxHeartbeats 4000000 in
theorem simple_ok : simple.Ok Try.prog 36 := by
  refine Eng.Spec.ok_of e36 q36 (fun _ => [(59, .p Turn), (60, .p Cross)]) (fun _ _ => TabOk.p Turn_ok (TabOk.p Cross_ok TabOk.nil)) ?_
  rintro r ⟨hn, hr⟩
  replace hn : r.n ≤ 50 := hn
  replace hr : OnR r := hr
  refine ⟨trivial, ?_⟩
  repeat' (first | refine And.intro ?_ ?_ | exact trivial | exact rfl | exact fun (j : Nat) (hj : j < _) => Or.inl (sub_ptN _ _ _ _))
  refine ⟨⟨Nat, fun i => i ≤ r.n ∧ orB (bad r) i = false, fun i => [(12, .int .i64 (i : Int))], fun _ => [], fun i => r.n - i⟩, 0, ⟨Nat.zero_le _, rfl⟩, ?_, ?_⟩
  · repeat' (first | refine And.intro ?_ ?_ | exact trivial | exact rfl | exact fun (j : Nat) (hj : j < _) => Or.inl (sub_ptN _ _ _ _))
  rintro (i : Nat) ⟨(hi : i ≤ r.n), (hf : orB (bad r) i = false)⟩
  repeat' (first | refine And.intro ?_ ?_ | exact trivial | exact rfl | exact fun (j : Nat) (hj : j < _) => Or.inl (sub_ptN _ _ _ _))
  · refine fun (h : decide ((i : Int) < (r.n : Int)) = true) => ?_
    have hi1 : (i : Int) < (r.n : Int) := of_decide_eq_true h
    have hil : i < r.n := by omega
    have hi0 : (0 : Int) ≤ (i : Int) := by omega
    have b1 : -9223372036854775808 ≤ (i : Int) + 1 := by omega
    have b2 : (i : Int) + 1 ≤ 9223372036854775807 := by omega
    have b3 : -9223372036854775808 ≤ (i : Int) + 2 := by omega
    have b4 : (i : Int) + 2 ≤ 9223372036854775807 := by omega
    have b5 : -9223372036854775808 ≤ (i : Int) + (r.n : Int) := by omega
    have b6 : (i : Int) + (r.n : Int) ≤ 9223372036854775807 := by omega
    have b7 : -9223372036854775808 ≤ (i : Int) + (r.n : Int) - 1 := by omega
    have b8 : (i : Int) + (r.n : Int) - 1 ≤ 9223372036854775807 := by omega
    have hnz : (r.n : Int) ≠ 0 := by omega
    have hm := tmod_nx (i := i) (n := r.n) (by omega)
    have hq : r.p (((i : Int) + 1).tmod (r.n : Int)).toNat = nxt r i := by rw [hm]; rfl
    have hm1 : 0 ≤ ((i : Int) + 1).tmod (r.n : Int) := by rw [hm]; omega
    have hm2 : ((i : Int) + 1).tmod (r.n : Int) < (r.n : Int) := by rw [hm]; have := Nat.mod_lt (i + 1) (show 0 < r.n by omega); omega
    have hmm := tmod_nx2 (i := i) (n := r.n) (by omega)
    have hqq : r.p (((i : Int) + 2).tmod (r.n : Int)).toNat = r.p ((i + 2) % r.n) := by rw [hmm]; rfl
    have hm3 : 0 ≤ ((i : Int) + 2).tmod (r.n : Int) := by rw [hmm]; omega
    have hm4 : ((i : Int) + 2).tmod (r.n : Int) < (r.n : Int) := by rw [hmm]; have := Nat.mod_lt (i + 2) (show 0 < r.n by omega); omega
    have h1 := hr i hil
    have h2 : onB (r.p (((i : Int) + 1).tmod (r.n : Int)).toNat) = true := by rw [hq]; exact nxt_on hr hil
    have e0 : bad0 r i = decide (turnV (r.p i) (r.p (((i : Int) + 1).tmod (r.n : Int)).toNat) (r.p (((i : Int) + 2).tmod (r.n : Int)).toNat) = 0) := by rw [hq, hqq]; rfl
    repeat' (first | with_reducible exact hi1 | with_reducible exact hi0 | with_reducible exact b1 | with_reducible exact b2 | with_reducible exact b3 | with_reducible exact b4 | with_reducible exact hnz | exact hm1 | exact hm2 | exact hm3 | exact hm4 | refine And.intro ?_ ?_ | exact trivial | exact rfl | exact fun (j : Nat) (hj : j < _) => Or.inl (sub_ptN _ _ _ _))
    · refine fun (hc : decide (turnV (r.p i) (r.p (((i : Int) + 1).tmod (r.n : Int)).toNat) (r.p (((i : Int) + 2).tmod (r.n : Int)).toNat) = 0) = true) => ?_
      have ef : false = simV r := by
        unfold simV
        have hb : bad r i = true := by unfold bad; rw [e0, hc]; rfl
        rw [orB_true.2 ⟨i, hil, hb⟩]
        rfl
      repeat' (first | exact ef | refine And.intro ?_ ?_ | exact trivial | exact rfl | exact fun (j : Nat) (hj : j < _) => Or.inl (sub_ptN _ _ _ _))
    · refine fun (hc : decide (turnV (r.p i) (r.p (((i : Int) + 1).tmod (r.n : Int)).toNat) (r.p (((i : Int) + 2).tmod (r.n : Int)).toNat) = 0) = false) => ?_
      have hst : (i : Int) + 2 = (i : Int) + 2 + ((0 : Nat) : Int) := by omega
      repeat' (first | with_reducible exact b3 | with_reducible exact b4 | refine And.intro ?_ ?_ | exact trivial | exact rfl | exact fun (j : Nat) (hj : j < _) => Or.inl (sub_ptN _ _ _ _))
      refine ⟨⟨Nat, fun j => (j ≤ r.n ∧ j ≤ badK r i) ∧ orB (fun j => bad1 r i (i + 2 + j)) j = false, fun j => [(7, .int .i64 ((i : Int) + 2 + (j : Int)))], fun _ => [], fun j => r.n - j⟩, 0, ⟨⟨Nat.zero_le _, Nat.zero_le _⟩, rfl⟩, ?_, ?_⟩
      · repeat' (first | exact hst | refine And.intro ?_ ?_ | exact trivial | exact rfl | exact fun (j : Nat) (hj : j < _) => Or.inl (sub_ptN _ _ _ _))
      rintro (j : Nat) ⟨⟨(hj : j ≤ r.n), (hjk : j ≤ badK r i)⟩, (hfj : orB (fun j => bad1 r i (i + 2 + j)) j = false)⟩
      repeat' (first | with_reducible exact b5 | with_reducible exact b6 | with_reducible exact b7 | with_reducible exact b8 | refine And.intro ?_ ?_ | exact trivial | exact rfl | exact fun (j : Nat) (hj : j < _) => Or.inl (sub_ptN _ _ _ _))
      · refine fun (h : decide ((i : Int) + 2 + (j : Int) < min (r.n : Int) ((i : Int) + (r.n : Int) - 1)) = true) => ?_
        have hlt : (i : Int) + 2 + (j : Int) < min (r.n : Int) ((i : Int) + (r.n : Int) - 1) := of_decide_eq_true h
        have hk1 : 0 ≤ (i : Int) + 2 + (j : Int) := by omega
        have hk2 : (i : Int) + 2 + (j : Int) < (r.n : Int) := by omega
        have hkt : ((i : Int) + 2 + (j : Int)).toNat = i + 2 + j := by omega
        have hkn : i + 2 + j < r.n := by omega
        have hjk' : j < badK r i := by unfold badK; omega
        have d1 : -9223372036854775808 ≤ (i : Int) + 2 + (j : Int) + 1 := by omega
        have d2 : (i : Int) + 2 + (j : Int) + 1 ≤ 9223372036854775807 := by omega
        have km : ((i : Int) + 2 + (j : Int) + 1).tmod (r.n : Int) = (((i + 2 + j + 1) % r.n : Nat) : Int) := by
          have := tmod_nx (i := i + 2 + j) (n := r.n) (by omega)
          rw [← this]
          congr 1
        have kq : r.p (((i : Int) + 2 + (j : Int) + 1).tmod (r.n : Int)).toNat = nxt r (i + 2 + j) := by rw [km]; rfl
        have km1 : 0 ≤ ((i : Int) + 2 + (j : Int) + 1).tmod (r.n : Int) := by rw [km]; omega
        have km2 : ((i : Int) + 2 + (j : Int) + 1).tmod (r.n : Int) < (r.n : Int) := by rw [km]; have := Nat.mod_lt (i + 2 + j + 1) (show 0 < r.n by omega); omega
        have h3 : onB (r.p ((i : Int) + 2 + (j : Int)).toNat) = true := by rw [hkt]; exact hr _ hkn
        have h4 : onB (r.p (((i : Int) + 2 + (j : Int) + 1).tmod (r.n : Int)).toNat) = true := by rw [kq]; exact nxt_on hr hkn
        have e1 : bad1 r i (i + 2 + j) = decide (0 < crV (r.p i) (r.p (((i : Int) + 1).tmod (r.n : Int)).toNat) (r.p ((i : Int) + 2 + (j : Int)).toNat) (r.p (((i : Int) + 2 + (j : Int) + 1).tmod (r.n : Int)).toNat)) := by rw [hq, kq, hkt]; rfl
        repeat' (first | with_reducible exact hk1 | with_reducible exact hk2 | with_reducible exact d1 | with_reducible exact d2 | with_reducible exact hnz | exact km1 | exact km2 | exact h1 | exact h2 | exact h3 | exact h4 | refine And.intro ?_ ?_ | exact trivial | exact rfl | exact fun (j : Nat) (hj : j < _) => Or.inl (sub_ptN _ _ _ _))
        · refine fun (hc : decide (0 < crV (r.p i) (r.p (((i : Int) + 1).tmod (r.n : Int)).toNat) (r.p ((i : Int) + 2 + (j : Int)).toNat) (r.p (((i : Int) + 2 + (j : Int) + 1).tmod (r.n : Int)).toNat)) = true) => ?_
          have ef : false = simV r := by
            unfold simV
            have hb : bad r i = true := by
              unfold bad
              rw [(orB_true (f := fun j => bad1 r i (i + 2 + j))).2 ⟨j, hjk', e1.trans hc⟩, Bool.or_true]
            rw [orB_true.2 ⟨i, hil, hb⟩]
            rfl
          repeat' (first | exact ef | refine And.intro ?_ ?_ | exact trivial | exact rfl | exact fun (j : Nat) (hj : j < _) => Or.inl (sub_ptN _ _ _ _))
        · refine fun (hc : decide (0 < crV (r.p i) (r.p (((i : Int) + 1).tmod (r.n : Int)).toNat) (r.p ((i : Int) + 2 + (j : Int)).toNat) (r.p (((i : Int) + 2 + (j : Int) + 1).tmod (r.n : Int)).toNat)) = false) => ?_
          have hfj1 : orB (fun j => bad1 r i (i + 2 + j)) (j + 1) = false := by
            simp only [orB]
            rw [hfj, e1, hc]
            rfl
          have est : (i : Int) + 2 + (j : Int) + 1 = (i : Int) + 2 + ((j + 1 : Nat) : Int) := by omega
          repeat' (first | with_reducible exact d1 | with_reducible exact d2 | refine And.intro ?_ ?_ | exact trivial | exact rfl | exact fun (j : Nat) (hj : j < _) => Or.inl (sub_ptN _ _ _ _))
          refine Exists.intro (j + 1) ?_
          refine And.intro (And.intro (And.intro (by omega) hjk') hfj1) ?_
          repeat' (first | exact est | refine And.intro ?_ ?_ | exact trivial | exact rfl | exact fun (j : Nat) (hj : j < _) => Or.inl (sub_ptN _ _ _ _))
          show r.n - (j + 1) < r.n - j
          omega
      · refine fun (h : decide ((i : Int) + 2 + (j : Int) < min (r.n : Int) ((i : Int) + (r.n : Int) - 1)) = false) => ?_
        have hlt : ¬ (i : Int) + 2 + (j : Int) < min (r.n : Int) ((i : Int) + (r.n : Int) - 1) := of_decide_eq_false h
        have ej : j = badK r i := by
          have := hjk
          unfold badK at this ⊢
          omega
        have hfi : orB (bad r) (i + 1) = false := by
          simp only [orB]
          rw [hf]
          unfold bad
          rw [e0, hc, ← ej, hfj]
          rfl
        repeat' (first | with_reducible exact b1 | with_reducible exact b2 | refine And.intro ?_ ?_ | exact trivial | exact rfl | exact fun (j : Nat) (hj : j < _) => Or.inl (sub_ptN _ _ _ _))
        refine Exists.intro (i + 1) ?_
        refine And.intro (And.intro hil hfi) ?_
        repeat' (first | refine And.intro ?_ ?_ | exact trivial | exact rfl | exact fun (j : Nat) (hj : j < _) => Or.inl (sub_ptN _ _ _ _))
        show r.n - (i + 1) < r.n - i
        omega
    · refine fun (hc : decide (turnV (r.p i) (r.p (((i : Int) + 1).tmod (r.n : Int)).toNat) (r.p (((i : Int) + 2).tmod (r.n : Int)).toNat) = 0) = true) => ?_
      have ef : false = simV r := by
        unfold simV
        have hb : bad r i = true := by unfold bad; rw [e0, hc]; rfl
        rw [orB_true.2 ⟨i, hil, hb⟩]
        rfl
      repeat' (first | exact ef | refine And.intro ?_ ?_ | exact trivial | exact rfl | exact fun (j : Nat) (hj : j < _) => Or.inl (sub_ptN _ _ _ _))
    · refine fun (hc : decide (turnV (r.p i) (r.p (((i : Int) + 1).tmod (r.n : Int)).toNat) (r.p (((i : Int) + 2).tmod (r.n : Int)).toNat) = 0) = false) => ?_
      have hst : (i : Int) + 2 = (i : Int) + 2 + ((0 : Nat) : Int) := by omega
      repeat' (first | with_reducible exact b3 | with_reducible exact b4 | refine And.intro ?_ ?_ | exact trivial | exact rfl | exact fun (j : Nat) (hj : j < _) => Or.inl (sub_ptN _ _ _ _))
      refine ⟨⟨Nat, fun j => (j ≤ r.n ∧ j ≤ badK r i) ∧ orB (fun j => bad1 r i (i + 2 + j)) j = false, fun j => [(7, .int .i64 ((i : Int) + 2 + (j : Int)))], fun _ => [], fun j => r.n - j⟩, 0, ⟨⟨Nat.zero_le _, Nat.zero_le _⟩, rfl⟩, ?_, ?_⟩
      · repeat' (first | exact hst | refine And.intro ?_ ?_ | exact trivial | exact rfl | exact fun (j : Nat) (hj : j < _) => Or.inl (sub_ptN _ _ _ _))
      rintro (j : Nat) ⟨⟨(hj : j ≤ r.n), (hjk : j ≤ badK r i)⟩, (hfj : orB (fun j => bad1 r i (i + 2 + j)) j = false)⟩
      repeat' (first | with_reducible exact b5 | with_reducible exact b6 | with_reducible exact b7 | with_reducible exact b8 | refine And.intro ?_ ?_ | exact trivial | exact rfl | exact fun (j : Nat) (hj : j < _) => Or.inl (sub_ptN _ _ _ _))
      · refine fun (h : decide ((i : Int) + 2 + (j : Int) < min (r.n : Int) ((i : Int) + (r.n : Int) - 1)) = true) => ?_
        have hlt : (i : Int) + 2 + (j : Int) < min (r.n : Int) ((i : Int) + (r.n : Int) - 1) := of_decide_eq_true h
        have hk1 : 0 ≤ (i : Int) + 2 + (j : Int) := by omega
        have hk2 : (i : Int) + 2 + (j : Int) < (r.n : Int) := by omega
        have hkt : ((i : Int) + 2 + (j : Int)).toNat = i + 2 + j := by omega
        have hkn : i + 2 + j < r.n := by omega
        have hjk' : j < badK r i := by unfold badK; omega
        have d1 : -9223372036854775808 ≤ (i : Int) + 2 + (j : Int) + 1 := by omega
        have d2 : (i : Int) + 2 + (j : Int) + 1 ≤ 9223372036854775807 := by omega
        have km : ((i : Int) + 2 + (j : Int) + 1).tmod (r.n : Int) = (((i + 2 + j + 1) % r.n : Nat) : Int) := by
          have := tmod_nx (i := i + 2 + j) (n := r.n) (by omega)
          rw [← this]
          congr 1
        have kq : r.p (((i : Int) + 2 + (j : Int) + 1).tmod (r.n : Int)).toNat = nxt r (i + 2 + j) := by rw [km]; rfl
        have km1 : 0 ≤ ((i : Int) + 2 + (j : Int) + 1).tmod (r.n : Int) := by rw [km]; omega
        have km2 : ((i : Int) + 2 + (j : Int) + 1).tmod (r.n : Int) < (r.n : Int) := by rw [km]; have := Nat.mod_lt (i + 2 + j + 1) (show 0 < r.n by omega); omega
        have h3 : onB (r.p ((i : Int) + 2 + (j : Int)).toNat) = true := by rw [hkt]; exact hr _ hkn
        have h4 : onB (r.p (((i : Int) + 2 + (j : Int) + 1).tmod (r.n : Int)).toNat) = true := by rw [kq]; exact nxt_on hr hkn
        have e1 : bad1 r i (i + 2 + j) = decide (0 < crV (r.p i) (r.p (((i : Int) + 1).tmod (r.n : Int)).toNat) (r.p ((i : Int) + 2 + (j : Int)).toNat) (r.p (((i : Int) + 2 + (j : Int) + 1).tmod (r.n : Int)).toNat)) := by rw [hq, kq, hkt]; rfl
        repeat' (first | with_reducible exact hk1 | with_reducible exact hk2 | with_reducible exact d1 | with_reducible exact d2 | with_reducible exact hnz | exact km1 | exact km2 | exact h1 | exact h2 | exact h3 | exact h4 | refine And.intro ?_ ?_ | exact trivial | exact rfl | exact fun (j : Nat) (hj : j < _) => Or.inl (sub_ptN _ _ _ _))
        · refine fun (hc : decide (0 < crV (r.p i) (r.p (((i : Int) + 1).tmod (r.n : Int)).toNat) (r.p ((i : Int) + 2 + (j : Int)).toNat) (r.p (((i : Int) + 2 + (j : Int) + 1).tmod (r.n : Int)).toNat)) = true) => ?_
          have ef : false = simV r := by
            unfold simV
            have hb : bad r i = true := by
              unfold bad
              rw [(orB_true (f := fun j => bad1 r i (i + 2 + j))).2 ⟨j, hjk', e1.trans hc⟩, Bool.or_true]
            rw [orB_true.2 ⟨i, hil, hb⟩]
            rfl
          repeat' (first | exact ef | refine And.intro ?_ ?_ | exact trivial | exact rfl | exact fun (j : Nat) (hj : j < _) => Or.inl (sub_ptN _ _ _ _))
        · refine fun (hc : decide (0 < crV (r.p i) (r.p (((i : Int) + 1).tmod (r.n : Int)).toNat) (r.p ((i : Int) + 2 + (j : Int)).toNat) (r.p (((i : Int) + 2 + (j : Int) + 1).tmod (r.n : Int)).toNat)) = false) => ?_
          have hfj1 : orB (fun j => bad1 r i (i + 2 + j)) (j + 1) = false := by
            simp only [orB]
            rw [hfj, e1, hc]
            rfl
          have est : (i : Int) + 2 + (j : Int) + 1 = (i : Int) + 2 + ((j + 1 : Nat) : Int) := by omega
          repeat' (first | with_reducible exact d1 | with_reducible exact d2 | refine And.intro ?_ ?_ | exact trivial | exact rfl | exact fun (j : Nat) (hj : j < _) => Or.inl (sub_ptN _ _ _ _))
          refine Exists.intro (j + 1) ?_
          refine And.intro (And.intro (And.intro (by omega) hjk') hfj1) ?_
          repeat' (first | exact est | refine And.intro ?_ ?_ | exact trivial | exact rfl | exact fun (j : Nat) (hj : j < _) => Or.inl (sub_ptN _ _ _ _))
          show r.n - (j + 1) < r.n - j
          omega
      · refine fun (h : decide ((i : Int) + 2 + (j : Int) < min (r.n : Int) ((i : Int) + (r.n : Int) - 1)) = false) => ?_
        have hlt : ¬ (i : Int) + 2 + (j : Int) < min (r.n : Int) ((i : Int) + (r.n : Int) - 1) := of_decide_eq_false h
        have ej : j = badK r i := by
          have := hjk
          unfold badK at this ⊢
          omega
        have hfi : orB (bad r) (i + 1) = false := by
          simp only [orB]
          rw [hf]
          unfold bad
          rw [e0, hc, ← ej, hfj]
          rfl
        repeat' (first | with_reducible exact b1 | with_reducible exact b2 | refine And.intro ?_ ?_ | exact trivial | exact rfl | exact fun (j : Nat) (hj : j < _) => Or.inl (sub_ptN _ _ _ _))
        refine Exists.intro (i + 1) ?_
        refine And.intro (And.intro hil hfi) ?_
        repeat' (first | refine And.intro ?_ ?_ | exact trivial | exact rfl | exact fun (j : Nat) (hj : j < _) => Or.inl (sub_ptN _ _ _ _))
        show r.n - (i + 1) < r.n - i
        omega
  · refine fun (h : decide ((i : Int) < (r.n : Int)) = false) => ?_
    have hi1 : ¬ (i : Int) < (r.n : Int) := of_decide_eq_false h
    have e : i = r.n := by omega
    have ef : true = simV r := by
      unfold simV
      rw [← e, hf]
      rfl
    repeat' (first | exact ef | refine And.intro ?_ ?_ | exact trivial | exact rfl | exact fun (j : Nat) (hj : j < _) => Or.inl (sub_ptN _ _ _ _))
end G6
