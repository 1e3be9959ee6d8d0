/- A part of the proof: see the last text. -/
import Derived.Test.YtnkkbbjljmbjbaaA15
open Go Go.Eng Go.Proofs A0 A1 A2 A3 A4 A5 A6 A7 A8 A9 A10 A11 A12 A13 A14 A15
set_option maxRecDepth 100000
namespace A16
def prB (F : Fx) (i : Nat) : Bool := decide ((1 ≤ F.n ∧ F.n ≤ 8) ∧ ∀ j, j < i → F.k j = F.k 0 ∧ F.k j ≤ 8)
theorem pr_0 {F : Fx} {i : Nat} : pickB (decide ((1 : Int) ≤ (F.n : Int))) (.s i) (.c (.bool false)) (decide ((F.n : Int) ≤ 8)) false = prB F 0 := by
  rw [pickB_and]
  unfold prB
  rw [Bool.eq_iff_iff]
  simp only [Bool.and_eq_true, decide_eq_true_eq]
  constructor
  · intro h
    exact ⟨by omega, fun j hj => absurd hj (Nat.not_lt_zero j)⟩
  · intro h
    omega
theorem pr_next {F : Fx} {i a b : Nat} : pickB (pickB (prB F i) (.s a) (.c (.bool false)) (decide ((F.k i : Int) = (F.k 0 : Int))) false) (.s b) (.c (.bool false)) (decide ((F.k i : Int) ≤ 8)) false = prB F (i + 1) := by
  rw [pickB_and, pickB_and]
  unfold prB
  rw [Bool.eq_iff_iff]
  simp only [Bool.and_eq_true, decide_eq_true_eq]
  constructor
  · rintro ⟨⟨⟨h1, h2⟩, h3⟩, h4⟩
    refine ⟨h1, fun j hj => ?_⟩
    by_cases e : j = i
    · subst e
      omega
    · exact h2 j (by omega)
  · rintro ⟨h1, h2⟩
    have := h2 i (by omega)
    exact ⟨⟨⟨h1, fun j hj => h2 j (by omega)⟩, by omega⟩, by omega⟩
theorem pr_all {F : Fx} : prB F F.n = properB F := by
  unfold prB properB
  rw [decide_eq_decide]
  constructor
  · rintro ⟨⟨h1, h2⟩, h3⟩
    exact ⟨h1, h2, (h3 0 (by omega)).2, fun j hj => (h3 j hj).1⟩
  · rintro ⟨h1, h2, h3, h4⟩
    exact ⟨⟨h1, h2⟩, fun j hj => ⟨h4 j hj, by rw [h4 j hj]; exact h3⟩⟩
/-- gazetteer/gazetteerlaw38.AskTwice -/
def g5 : List Nat := [12, 31, 8, 7, 56, 3, 6, 0, 2]
def c5 : SCode :=
  .seq (.region g5 [⟨some 2, none, .move (.c (.bool false)), []⟩]) (.seq (.region g5 [⟨some 9, none, .call (.c (.fn 7)) [], []⟩, ⟨some 3, none, .move (.s 9), []⟩]) (.seq (.seq (.region g5 [⟨some 10, none, .move (.s 0), []⟩, ⟨some 11, none, .call (.c (.fn 8)) [.s 10], []⟩, ⟨some 12, none, .not (.s 11), []⟩]) (.cond (.s 12) (.seq (.region g5 [⟨some 13, none, .move (.s 3), []⟩, ⟨some 2, none, .move (.s 13), []⟩]) .ret) .skip)) (.seq (.region g5 [⟨some 15, none, .move (.s 0), []⟩, ⟨some 16, none, .call (.c (.fn 9)) [.s 15], []⟩, ⟨some 14, none, .move (.s 16), []⟩, ⟨some 17, none, .extract 0 (.s 14), []⟩, ⟨some 18, none, .extract 1 (.s 14), []⟩, ⟨some 19, none, .extract 2 (.s 14), []⟩, ⟨some 4, none, .alloc 28 (.cons (.int .i64 0) (.cons (.int .i64 0) (.cons (.nilsl) (.cons (.nilsl) .nil)))), []⟩, ⟨none, none, .store 4 (.s 4) (.s 17), []⟩, ⟨some 5, none, .move (.s 18), []⟩, ⟨some 6, none, .move (.s 19), []⟩]) (.seq (.region g5 [⟨some 20, none, .move (.s 0), []⟩, ⟨some 21, none, .lenSl (.s 20), []⟩, ⟨some 22, none, .bin (.geq) (.s 21) (.c (.int .i64 1)), []⟩, ⟨some 23, none, .move (.s 22), []⟩, ⟨some 24, some (23, true), .move (.s 0), []⟩, ⟨some 25, some (23, true), .lenSl (.s 24), []⟩, ⟨some 26, some (23, true), .bin (.leq) (.s 25) (.c (.int .i64 8)), []⟩, ⟨some 27, none, .pick (.s 23) (.s 26) (.c (.bool false)), []⟩, ⟨some 7, none, .move (.s 27), []⟩]) (.seq (.seq (.region g5 [⟨some 8, none, .move (.c (.int .i64 0)), []⟩]) (.block 0 (.loop 0 [28, 29, 30, 31, 34, 35, 36, 37, 38, 39, 40, 41, 42, 43, 44, 45, 46, 47, 48, 49, 50, 51, 52, 53, 54, 7, 32, 33, 8] (.seq (.seq (.region g5 [⟨some 28, none, .move (.s 8), []⟩, ⟨some 29, none, .move (.s 0), []⟩, ⟨some 30, none, .lenSl (.s 29), []⟩, ⟨some 31, none, .bin (.lss) (.s 28) (.s 30), []⟩]) (.cond (.s 31) .skip (.exit 0))) (.seq (.block 1 (.seq (.drawn [12, 31, 8, 7, 56, 3, 6, 0, 2, 54] (.pure 0 ⟨some 34, none, .move (.s 7), []⟩ (.pure 1 ⟨some 35, none, .move (.s 34), []⟩ (.pure 2 ⟨some 36, some (35, true), .move (.s 0), []⟩ (.pure 3 ⟨some 37, some (35, true), .move (.s 8), []⟩ (.pure 4 ⟨some 38, some (35, true), .idxSl 1 (.s 36) (.s 37), []⟩ (.pure 5 ⟨some 39, some (35, true), .load 1 false (.s 38), []⟩ (.pure 6 ⟨some 40, some (35, true), .lenSl (.s 39), []⟩ (.pure 7 ⟨some 41, some (35, true), .move (.s 0), []⟩ (.pure 8 ⟨some 42, some (35, true), .idxSl 1 (.s 41) (.c (.int .i64 0)), []⟩ (.pure 9 ⟨some 43, some (35, true), .load 1 false (.s 42), []⟩ (.pure 10 ⟨some 44, some (35, true), .lenSl (.s 43), []⟩ (.pure 11 ⟨some 45, some (35, true), .bin (.eql) (.s 40) (.s 44), []⟩ (.pure 12 ⟨some 46, none, .pick (.s 35) (.s 45) (.c (.bool false)), []⟩ (.pure 13 ⟨some 47, none, .move (.s 46), []⟩ (.pure 14 ⟨some 48, some (47, true), .move (.s 0), []⟩ (.pure 15 ⟨some 49, some (47, true), .move (.s 8), []⟩ (.pure 16 ⟨some 50, some (47, true), .idxSl 1 (.s 48) (.s 49), []⟩ (.pure 17 ⟨some 51, some (47, true), .load 1 false (.s 50), []⟩ (.pure 18 ⟨some 52, some (47, true), .lenSl (.s 51), []⟩ (.pure 19 ⟨some 53, some (47, true), .bin (.leq) (.s 52) (.c (.int .i64 8)), []⟩ (.pure 20 ⟨some 54, none, .pick (.s 47) (.s 53) (.c (.bool false)), []⟩ .done)))))))))))))))))))))) (.region g5 [⟨some 7, none, .move (.s 54), []⟩]))) (.region g5 [⟨some 32, none, .move (.s 8), []⟩, ⟨some 33, none, .bin (.add) (.s 32) (.c (.int .i64 1)), []⟩, ⟨some 8, none, .move (.s 33), []⟩])))))) (.seq (.seq (.region g5 [⟨some 55, none, .move (.s 7), []⟩, ⟨some 56, none, .not (.s 55), []⟩]) (.cond (.s 56) (.seq (.region g5 [⟨some 57, none, .move (.s 3), []⟩, ⟨some 58, none, .move (.s 57), []⟩, ⟨some 59, some (58, true), .move (.s 6), []⟩, ⟨some 60, some (58, true), .bin (.eql) (.s 59) (.c (.int .i64 1)), []⟩, ⟨some 61, none, .pick (.s 58) (.s 60) (.c (.bool false)), []⟩, ⟨some 2, none, .move (.s 61), []⟩]) .ret) .skip)) (.seq (.region g5 [⟨some 62, none, .move (.s 3), []⟩, ⟨some 63, none, .move (.s 62), []⟩, ⟨some 64, some (63, true), .move (.s 6), []⟩, ⟨some 65, some (63, true), .bin (.eql) (.s 64) (.c (.int .i64 8)), []⟩, ⟨some 66, some (63, true), .move (.s 0), []⟩, ⟨some 67, some (63, true), .call (.c (.fn 13)) [.s 66], []⟩, ⟨some 68, some (63, true), .eqB false (.s 65) (.s 67), []⟩, ⟨some 69, none, .pick (.s 63) (.s 68) (.c (.bool false)), []⟩, ⟨some 70, none, .move (.s 69), []⟩, ⟨some 71, some (70, true), .move (.s 6), []⟩, ⟨some 72, some (70, true), .bin (.eql) (.s 71) (.c (.int .i64 0)), []⟩, ⟨some 73, some (70, true), .move (.s 0), []⟩, ⟨some 74, some (70, true), .call (.c (.fn 13)) [.s 73], []⟩, ⟨some 75, some (70, true), .not (.s 74), []⟩, ⟨some 76, some (70, true), .eqB false (.s 72) (.s 75), []⟩, ⟨some 77, none, .pick (.s 70) (.s 76) (.c (.bool false)), []⟩, ⟨some 2, none, .move (.s 77), []⟩]) .ret)))))))
def r5 : List SRes := [.slot 2]
def k5 : List (Nat × Nat × SCode × Nat) := []
theorem e5 : cFunc Try.prog 5 g5 [] [] k5 = some (c5, r5, 78) := by kernel_rfl
theorem q5 : RgOk Try.prog k5 := RgOk.nil
def law5 : Eng.Spec where
  X := Fx
  args := fun F => .cons (fxE F) .nil
  pre := fun F => (F.n : Int) ≤ 9223372036854775806 ∧ ∀ i, i < F.n → (F.k i : Int) ≤ 9223372036854775806
  res := fun _ => .bool true
  inst := fun _ => none
theorem fin5 {c : Int} {e : Bool} {i j : Nat} (h8 : decide (c = 8) = e) (h0 : decide (c = 0) = !e) : pickB (pickB true (.s i) (.c (.bool false)) (decide (c = 8) == e) false) (.s j) (.c (.bool false)) (decide (c = 0) == !e) false = true := by
  rw [pickB_and, pickB_and, h8, h0]
  simp
set_option maxHeartbeats 4000000 in
theorem law5_ok : law5.Ok Try.prog 5 := by
  refine Eng.Spec.ok_of e5 q5 (fun _ => [(7, .p headS), (8, .m Few), (9, .m makeH), (13, .p equal)]) (fun _ _ => TabOk.p head_ok (TabOk.m Few_ok (TabOk.m makeH_ok (TabOk.p equal_ok TabOk.nil)))) ?_
  rintro F ⟨hn, hk⟩
  replace hn : (F.n : Int) ≤ 9223372036854775806 := hn
  replace hk : ∀ i, i < F.n → (F.k i : Int) ≤ 9223372036854775806 := hk
  refine ⟨trivial, ?_⟩
  repeat' (first | refine And.intro ?_ ?_ | exact trivial | exact rfl)
  refine Exists.intro F (Exists.intro [] ?_)
  refine And.intro (And.intro hn hk) ?_
  repeat' (first | refine And.intro ?_ ?_ | exact trivial | exact rfl | exact sub_lc (fun a => sub_strN _ _ _ a) | exact sub_lc0 (fun a => sub_strN _ _ _ a) | exact fun (j : Nat) (hj : j < _) => Or.inl (sub_strN _ _ _ _) | exact sub_lc (fun a => sub_natN _ _ _ a) | exact fun (j : Nat) (hj : j < _) => Or.inl (sub_fx _ _ _ _ rfl hj))
  refine fun (b : Bool) (_ : True) => ?_
  repeat' (first | refine And.intro ?_ ?_ | exact trivial | exact rfl)
  · refine fun (_ : (!b) = true) => ?_
    repeat' (first | refine And.intro ?_ ?_ | exact trivial | exact rfl)
  refine fun (_ : (!b) = false) => ?_
  repeat' (first | refine And.intro ?_ ?_ | exact trivial | exact rfl)
  refine Exists.intro F (Exists.intro [] ?_)
  refine And.intro hn ?_
  repeat' (first | refine And.intro ?_ ?_ | exact trivial | exact rfl | exact sub_lc (fun a => sub_strN _ _ _ a) | exact sub_lc0 (fun a => sub_strN _ _ _ a) | exact fun (j : Nat) (hj : j < _) => Or.inl (sub_strN _ _ _ _) | exact sub_lc (fun a => sub_natN _ _ _ a) | exact fun (j : Nat) (hj : j < _) => Or.inl (sub_fx _ _ _ _ rfl hj))
  refine fun (y : Known × Int) (hy : y = makeV F) => ?_
  repeat' (first | refine And.intro ?_ ?_ | exact trivial | exact rfl)
  refine ⟨⟨Nat, fun i => i ≤ F.n, fun i => [(8, .int .i64 (i : Int)), (7, .bool (prB F i))], fun _ => [], fun i => F.n - i⟩, 0, Nat.zero_le _, ?_, ?_⟩
  · repeat' (first | exact pr_0 | refine And.intro ?_ ?_ | exact trivial | exact rfl | exact sub_lc (fun a => sub_strN _ _ _ a) | exact sub_lc0 (fun a => sub_strN _ _ _ a) | exact fun (j : Nat) (hj : j < _) => Or.inl (sub_strN _ _ _ _) | exact sub_lc (fun a => sub_natN _ _ _ a) | exact fun (j : Nat) (hj : j < _) => Or.inl (sub_fx _ _ _ _ rfl hj) | exact sub_pTT rfl | exact sub_pCT rfl | exact sub_pTC rfl | exact sub_pCC rfl | exact sub_pRC rfl | exact sub_pRT rfl)
  rintro (i : Nat) hi
  replace hi : i ≤ F.n := hi
  repeat' (first | refine And.intro ?_ ?_ | exact trivial | exact rfl)
  · refine fun (h : decide ((i : Int) < (F.n : Int)) = true) => ?_
    have hil : i < F.n := by have := of_decide_eq_true h; omega
    have hx0 : (0 : Int) ≤ 0 ∧ (0 : Int) < (F.n : Int) := by omega
    have hxi : (0 : Int) ≤ (i : Int) ∧ (i : Int) < (F.n : Int) := by omega
    have hin1 : -9223372036854775808 ≤ (i : Int) + 1 := by omega
    have hin2 : (i : Int) + 1 ≤ 9223372036854775807 := by omega
    repeat' (first | exact fun (_ : guardP _ _ _ _) => hx0 | exact fun (_ : guardP _ _ _ _) => hxi | refine And.intro ?_ ?_ | exact trivial | exact rfl)
    · exact hin1
    · exact hin2
    refine Exists.intro (i + 1) (And.intro hil (And.intro ?_ ?_))
    · repeat' (first | exact pr_next | refine And.intro ?_ ?_ | exact trivial | exact rfl | exact sub_lc (fun a => sub_strN _ _ _ a) | exact sub_lc0 (fun a => sub_strN _ _ _ a) | exact fun (j : Nat) (hj : j < _) => Or.inl (sub_strN _ _ _ _) | exact sub_lc (fun a => sub_natN _ _ _ a) | exact fun (j : Nat) (hj : j < _) => Or.inl (sub_fx _ _ _ _ rfl hj) | exact sub_pTT rfl | exact sub_pCT rfl | exact sub_pTC rfl | exact sub_pCC rfl | exact sub_pRC rfl | exact sub_pRT rfl)
    · show F.n - (i + 1) < F.n - i
      omega
  · refine fun (h : decide ((i : Int) < (F.n : Int)) = false) => ?_
    have hil : i = F.n := by have := of_decide_eq_false h; omega
    have hpr : prB F i = properB F := by rw [hil]; exact pr_all
    repeat' (first | refine And.intro ?_ ?_ | exact trivial | exact rfl)
    · refine fun (h1 : (!prB F i) = true) => ?_
      have h2 : properB F = false := by rw [← hpr]; simpa using h1
      have hc := make_bad h2
      rw [← hy] at hc
      have hd : decide (y.2 = 1) = true := decide_eq_true hc
      repeat' (first | exact pand rfl hd | refine And.intro ?_ ?_ | exact trivial | exact rfl)
    · refine fun (h1 : (!prB F i) = false) => ?_
      have h2 : properB F = true := by rw [← hpr]; simpa using h1
      have hc := make_code h2
      rw [← hy] at hc
      have h8 : decide (y.2 = 8) = eqC F := by
        cases he : eqC F with
        | true => exact decide_eq_true (hc.1.2 he)
        | false => exact decide_eq_false fun h => by rw [hc.1.1 h] at he; cases he
      have h0 : decide (y.2 = 0) = !eqC F := by
        cases he : eqC F with
        | true => exact decide_eq_false fun h => by rw [hc.2.1 h] at he; cases he
        | false => exact decide_eq_true (hc.2.2 he)
      repeat' (first | (refine fun (_ : guardP _ _ _ _) => ?_) | exact hn | exact hk | refine And.intro ?_ ?_ | exact trivial | exact rfl | exact sub_lc (fun a => sub_strN _ _ _ a) | exact sub_lc0 (fun a => sub_strN _ _ _ a) | exact fun (j : Nat) (hj : j < _) => Or.inl (sub_strN _ _ _ _) | exact sub_lc (fun a => sub_natN _ _ _ a) | exact fun (j : Nat) (hj : j < _) => Or.inl (sub_fx _ _ _ _ rfl hj))
      exact fin5 h8 h0
end A16
