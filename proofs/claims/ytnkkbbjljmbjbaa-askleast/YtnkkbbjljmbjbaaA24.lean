/- A part of the proof: see the last text. -/
import Derived.Test.YtnkkbbjljmbjbaaA14
import Derived.Test.YtnkkbbjljmbjbaaA20
open Go Go.Eng Go.Proofs A0 A1 A2 A3 A4 A5 A6 A7 A8 A9 A10 A11 A12 A13 A14 A20
set_option maxRecDepth 100000
namespace A24
/-- All lengths within a plan are bounded. -/
def PlanB : Plan → Prop
  | .leaf _ _ n _ => n ≤ BP
  | .node _ _ n _ m next => n ≤ BP ∧ m ≤ BP ∧ ∀ i, i < m → PlanB (next i)
theorem PlanB.m {p : Plan} (h : PlanB p) : p.m ≤ BP := by
  cases p with
  | leaf q c n ans => exact Nat.zero_le _
  | node q c n ans m next => exact h.2.1
theorem PlanB.n {p : Plan} (h : PlanB p) : p.n ≤ BP := by
  cases p with
  | leaf q c n ans => exact h
  | node q c n ans m next => exact h.1
theorem PlanB.kid {p : Plan} (h : PlanB p) {i : Nat} (hi : i < p.m) : PlanB (p.kid i) := by
  cases p with
  | leaf q c n ans => exact absurd hi (Nat.not_lt_zero _)
  | node q c n ans m next => exact h.2.2 i hi
structure XS where
  p : Plan
  most : Nat
def sizeS (k : Nat) : Eng.MSpec where
  X := XS
  Y := Nat
  args := fun x => .cons (.agg (planU x.p)) (.cons (.int .i64 (x.most : Int)) .nil)
  pre := fun x => PlanB x.p ∧ x.most < k
  h0 := fun _ => []
  nx0 := 0
  post := fun x y => 1 ≤ y ∧ y ≤ x.most + 1 ∧ (y ≤ x.most → PlanOk y x.p)
  res := fun _ y => .int .i64 (y : Int)
  h1 := fun _ _ => []
  nx1 := 0
structure XI where
  i : Nat
  n : Nat
structure IV (p : Plan) (most : Nat) (x : XI) : Prop where
  lo : 1 ≤ x.n
  hi : x.n ≤ most + 1
  im : x.i ≤ p.m
  ok : x.n ≤ most → ∀ l, l < x.i → PlanOk (x.n - 1) (p.kid l)
/-- gazetteer/gazetteerref38.size -/
def g21 : List Nat := [0, 16, 2, 1, 6, 5, 4]
def c21 : SCode :=
  .seq (.region g21 [⟨some 2, none, .box 28 (.s 0), []⟩, ⟨some 4, none, .move (.c (.int .i64 0)), []⟩]) (.seq (.region g21 [⟨some 5, none, .move (.c (.int .i64 1)), []⟩]) (.seq (.seq (.region g21 [⟨some 6, none, .move (.c (.int .i64 0)), []⟩]) (.block 0 (.loop 0 [7, 8, 9, 10, 11, 12, 13, 14, 15, 16, 19, 20, 21, 22, 23, 24, 25, 26, 27, 28, 29, 5, 17, 18, 6] (.seq (.seq (.region g21 [⟨some 7, none, .move (.s 6), []⟩, ⟨some 8, none, .fldA 3 (.s 2), []⟩, ⟨some 9, none, .load 1 false (.s 8), []⟩, ⟨some 10, none, .lenSl (.s 9), []⟩, ⟨some 11, none, .bin (.lss) (.s 7) (.s 10), []⟩, ⟨some 12, none, .move (.s 11), []⟩, ⟨some 13, some (12, true), .move (.s 5), []⟩, ⟨some 14, some (12, true), .move (.s 1), []⟩, ⟨some 15, some (12, true), .bin (.leq) (.s 13) (.s 14), []⟩, ⟨some 16, none, .pick (.s 12) (.s 15) (.c (.bool false)), []⟩]) (.cond (.s 16) .skip (.exit 0))) (.seq (.block 1 (.region g21 [⟨some 19, none, .move (.s 5), []⟩, ⟨some 20, none, .fldA 3 (.s 2), []⟩, ⟨some 21, none, .load 1 false (.s 20), []⟩, ⟨some 22, none, .move (.s 6), []⟩, ⟨some 23, none, .idxSl 4 (.s 21) (.s 22), []⟩, ⟨some 24, none, .load 4 true (.s 23), []⟩, ⟨some 25, none, .move (.s 1), []⟩, ⟨some 26, none, .move (.s 5), []⟩, ⟨some 27, none, .bin (.sub) (.s 25) (.s 26), []⟩, ⟨some 28, none, .call (.c (.fn 21)) [.s 24, .s 27], []⟩, ⟨some 29, none, .bin (.add) (.s 19) (.s 28), []⟩, ⟨some 5, none, .move (.s 29), []⟩])) (.region g21 [⟨some 17, none, .move (.s 6), []⟩, ⟨some 18, none, .bin (.add) (.s 17) (.c (.int .i64 1)), []⟩, ⟨some 6, none, .move (.s 18), []⟩])))))) (.seq (.region g21 [⟨some 30, none, .move (.s 5), []⟩, ⟨some 4, none, .move (.s 30), []⟩]) .ret)))
def r21 : List SRes := [.slot 4]
def k21 : List (Nat × Nat × SCode × Nat) := []
theorem e21 : cFunc Try.prog 21 g21 [] [] k21 = some (c21, r21, 31) := by kernel_rfl
theorem q21 : RgOk Try.prog k21 := RgOk.nil
theorem size_ok : ∀ k, k ≤ 1000 → (sizeS k).Ok Try.prog 21 := by
  intro k
  induction k with
  | zero =>
    intro _
    refine Eng.MSpec.ok_of e21 q21 (fun _ => []) (fun _ _ => TabOk.nil) ?_
    intro x hx
    exact absurd hx.2 (Nat.not_lt_zero _)
  | succ k ih =>
    intro hh
    refine Eng.MSpec.ok_of e21 q21 (fun _ => [(21, .m (sizeS k))]) (fun _ _ => TabOk.m (ih (by omega)) TabOk.nil) ?_
    rintro ⟨p, most⟩ ⟨hp, hm⟩
    have hpm : p.m ≤ BP := PlanB.m hp
    have hpn : p.n ≤ BP := PlanB.n hp
    unfold BP at hpm hpn
    refine ⟨trivial, ?_⟩
    refine ⟨⟨XI, IV p most, fun x => [(6, .int .i64 (x.i : Int)), (5, .int .i64 (x.n : Int))], fun _ => [], fun x => p.m - x.i⟩, ⟨0, 1⟩, ⟨Nat.le_refl _, Nat.le_add_left _ _, Nat.zero_le _, fun _ l hl => absurd hl (Nat.not_lt_zero l)⟩, ?_, ?_⟩
    · repeat' (first | refine And.intro ?_ ?_ | exact trivial | exact rfl | exact sub_lc (fun a => sub_strN _ _ _ a) | exact sub_lc0 (fun a => sub_strN _ _ _ a) | exact fun (j : Nat) (hj : j < _) => Or.inl (sub_strN _ _ _ _) | exact sub_lc (fun a => sub_natN _ _ _ a) | exact fun (j : Nat) (hj : j < _) => Or.inl (sub_fx _ _ _ _ rfl hj) | exact sub_pTT rfl | exact sub_pCT rfl | exact sub_pTC rfl | exact sub_pCC rfl | exact sub_pRC rfl | exact sub_pRT rfl)
    rintro ⟨i, n⟩ ⟨h1, h2, h3, h4⟩
    replace h1 : 1 ≤ n := h1
    replace h2 : n ≤ most + 1 := h2
    replace h3 : i ≤ p.m := h3
    replace h4 : n ≤ most → ∀ l, l < i → PlanOk (n - 1) (p.kid l) := h4
    replace hm : most < k + 1 := hm
    repeat' (first | refine And.intro ?_ ?_ | exact trivial | exact rfl)
    · refine fun (h : pickB _ _ _ _ _ = true) => ?_
      replace h : (decide ((i : Int) < (p.m : Int)) && decide ((n : Int) ≤ (most : Int))) = true := (pickB_and _ _ _ _).symm.trans h
      rw [Bool.and_eq_true] at h
      have hi : (i : Int) < (p.m : Int) := of_decide_eq_true h.1
      have hnm : (n : Int) ≤ (most : Int) := of_decide_eq_true h.2
      have i0 : (0 : Int) ≤ (i : Int) := by omega
      have b1 : -9223372036854775808 ≤ (most : Int) - (n : Int) := by omega
      have b2 : (most : Int) - (n : Int) ≤ 9223372036854775807 := by omega
      repeat' (first | with_reducible exact hi | with_reducible exact i0 | with_reducible exact b1 | with_reducible exact b2 | refine And.intro ?_ ?_ | exact trivial | exact rfl | exact sub_lc (fun a => sub_strN _ _ _ a) | exact sub_lc0 (fun a => sub_strN _ _ _ a) | exact fun (j : Nat) (hj : j < _) => Or.inl (sub_strN _ _ _ _) | exact sub_lc (fun a => sub_natN _ _ _ a) | exact fun (j : Nat) (hj : j < _) => Or.inl (sub_fx _ _ _ _ rfl hj) | exact sub_pTT rfl | exact sub_pCT rfl | exact sub_pTC rfl | exact sub_pCC rfl | exact sub_pRC rfl | exact sub_pRT rfl)
      have hsub : (most : Int) - (n : Int) = ((most - n : Nat) : Int) := by omega
      refine Exists.intro (XS.mk (p.kid (i : Int).toNat) (most - n)) (Exists.intro [] ?_)
      refine And.intro (And.intro (show PlanB (p.kid i) from PlanB.kid hp (show i < p.m by omega)) (show most - n < k by omega)) ?_
      repeat' (first | with_reducible exact hsub | refine And.intro ?_ ?_ | exact trivial | exact rfl | exact sub_lc (fun a => sub_strN _ _ _ a) | exact sub_lc0 (fun a => sub_strN _ _ _ a) | exact fun (j : Nat) (hj : j < _) => Or.inl (sub_strN _ _ _ _) | exact sub_lc (fun a => sub_natN _ _ _ a) | exact fun (j : Nat) (hj : j < _) => Or.inl (sub_fx _ _ _ _ rfl hj) | exact sub_pTT rfl | exact sub_pCT rfl | exact sub_pTC rfl | exact sub_pCC rfl | exact sub_pRC rfl | exact sub_pRT rfl)
      refine fun (y : Nat) (hy : 1 ≤ y ∧ y ≤ most - n + 1 ∧ (y ≤ most - n → PlanOk y (p.kid i))) => ?_
      have hy1 := hy.1
      have hy2 := hy.2.1
      have b3 : -9223372036854775808 ≤ (n : Int) + (y : Int) := by omega
      have b4 : (n : Int) + (y : Int) ≤ 9223372036854775807 := by omega
      have b5 : -9223372036854775808 ≤ (i : Int) + 1 := by omega
      have b6 : (i : Int) + 1 ≤ 9223372036854775807 := by omega
      repeat' (first | with_reducible exact b3 | with_reducible exact b4 | with_reducible exact b5 | with_reducible exact b6 | refine And.intro ?_ ?_ | exact trivial | exact rfl | exact sub_lc (fun a => sub_strN _ _ _ a) | exact sub_lc0 (fun a => sub_strN _ _ _ a) | exact fun (j : Nat) (hj : j < _) => Or.inl (sub_strN _ _ _ _) | exact sub_lc (fun a => sub_natN _ _ _ a) | exact fun (j : Nat) (hj : j < _) => Or.inl (sub_fx _ _ _ _ rfl hj) | exact sub_pTT rfl | exact sub_pCT rfl | exact sub_pTC rfl | exact sub_pCC rfl | exact sub_pRC rfl | exact sub_pRT rfl)
      refine Exists.intro (XI.mk (i + 1) (n + y)) ?_
      refine And.intro ⟨show 1 ≤ n + y by omega, show n + y ≤ most + 1 by omega, show i + 1 ≤ p.m by omega, fun hle l hl => ?_⟩ ?_
      · replace hle : n + y ≤ most := hle
        replace hl : l < i + 1 := hl
        show PlanOk (n + y - 1) (p.kid l)
        by_cases e : l = i
        · rw [e]
          exact plan_le (by omega) (hy.2.2 (by omega))
        · exact plan_le (by omega) (h4 (by omega) l (by omega))
      repeat' (first | refine And.intro ?_ ?_ | exact trivial | exact rfl | exact sub_lc (fun a => sub_strN _ _ _ a) | exact sub_lc0 (fun a => sub_strN _ _ _ a) | exact fun (j : Nat) (hj : j < _) => Or.inl (sub_strN _ _ _ _) | exact sub_lc (fun a => sub_natN _ _ _ a) | exact fun (j : Nat) (hj : j < _) => Or.inl (sub_fx _ _ _ _ rfl hj) | exact sub_pTT rfl | exact sub_pCT rfl | exact sub_pTC rfl | exact sub_pCC rfl | exact sub_pRC rfl | exact sub_pRT rfl)
      show p.m - (i + 1) < p.m - i
      omega
    · refine fun (h : pickB _ _ _ _ _ = false) => ?_
      replace h : (decide ((i : Int) < (p.m : Int)) && decide ((n : Int) ≤ (most : Int))) = false := (pickB_and _ _ _ _).symm.trans h
      refine Exists.intro n ?_
      refine And.intro ⟨h1, h2, fun hnm => ?_⟩ ?_
      · replace hnm : n ≤ most := hnm
        have hip : i = p.m := by
          rw [decide_eq_true (by omega : (n : Int) ≤ (most : Int)), Bool.and_true] at h
          have := of_decide_eq_false h
          omega
        obtain ⟨j, rfl⟩ : ∃ j, n = j + 1 := ⟨n - 1, by omega⟩
        refine ⟨by unfold BP; exact hpm, by unfold BP; exact hpn, fun l hl => ?_⟩
        exact h4 hnm l (by replace hl : l < p.m := hl; omega)
      repeat' (first | refine And.intro ?_ ?_ | exact trivial | exact rfl | exact sub_lc (fun a => sub_strN _ _ _ a) | exact sub_lc0 (fun a => sub_strN _ _ _ a) | exact fun (j : Nat) (hj : j < _) => Or.inl (sub_strN _ _ _ _) | exact sub_lc (fun a => sub_natN _ _ _ a) | exact fun (j : Nat) (hj : j < _) => Or.inl (sub_fx _ _ _ _ rfl hj) | exact sub_pTT rfl | exact sub_pCT rfl | exact sub_pTC rfl | exact sub_pCC rfl | exact sub_pRC rfl | exact sub_pRT rfl)
end A24
