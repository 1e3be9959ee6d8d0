/- A part of the proof: see the last text. -/
import Derived.Test.YtnkkbbjljmbjbaaA17
open Go Go.Eng Go.Proofs A0 A1 A2 A3 A4 A5 A6 A7 A8 A9 A10 A11 A12 A13 A14 A15 A17
set_option maxRecDepth 100000
namespace A20
/-! What the best plan looks like -/
def ksA (F : Fx) (s q : Nat) : List Known := (ansQ F s q).map fun a => bestV F (partQ F s q a)
def Form (F : Fx) (s : Nat) (k : Known) : Prop :=
  ((candL s).length = 1 ∧ k = ⟨-1, ((candL s).getD 0 0 : Nat), [], [], 0⟩) ∨ ∃ q, q < F.k 0 ∧ 2 ≤ (ansQ F s q).length ∧ allD (ksA F s q) = true ∧ k = ⟨(q : Int), -1, ansQ F s q, (ksA F s q).map Known.plan, maxD (ksA F s q)⟩
theorem best_form {F : Fx} {s : Nat} (h : 0 ≤ (bestV F s).d) : Form F s (bestV F s) := by
  revert h
  rw [best_eq]
  refine fold_inv (p := fun k : Known => 0 ≤ k.d → Form F s k) ?_ fun k q hq hk => ?_
  · intro h
    by_cases hl : (candL s).length = 1
    · exact .inl ⟨hl, out0_1 hl⟩
    · rw [out0_0 hl] at h
      exact absurd h (by decide)
  · show 0 ≤ (stepQ F (bestV F) s k q).d → Form F s (stepQ F (bestV F) s k q)
    unfold stepQ
    split
    · exact hk
    · rename_i h2
      unfold stepW
      split
      · rename_i h3
        intro _
        exact .inr ⟨q, List.mem_range.1 hq, by omega, h3.1, rfl⟩
      · exact hk
theorem accD_all {r : Nat → Int × Bool} {ks : List Known} : ∀ {n : Nat}, n ≤ ks.length → (∀ i, i < n → r i = ((ks.getD i kn0).d, true)) → accD r n = (maxD (ks.take n), true) := by
  intro n
  induction n with
  | zero => intro _ _; rfl
  | succ n ih =>
    intro hn h
    have h1 := ih (by omega) fun i hi => h i (by omega)
    rw [accD_yes (by rw [h1]) (by rw [h n (by omega)])]
    rw [h1, h n (by omega)]
    have : ks.take (n + 1) = ks.take n ++ [ks.getD n kn0] := by
      rw [List.take_add_one, List.getD_eq_getElem?_getD, List.getElem?_eq_getElem (by omega : n < ks.length)]
      rfl
    rw [this, maxD_app]
theorem getD_map {α β : Type} {f : α → β} {l : List α} {d : α} {e : β} {i : Nat} (h : i < l.length) : (l.map f).getD i e = f (l.getD i d) := by
  rw [List.getD_eq_getElem?_getD, List.getD_eq_getElem?_getD, List.getElem?_map, List.getElem?_eq_getElem h]
  rfl
/-- The best plan is right, with its depth. -/
theorem best_right {F : Fx} : ∀ {n s : Nat}, (candL s).length ≤ n → 0 ≤ (bestV F s).d → depthV F (bestV F s).plan s = ((bestV F s).d, true) := by
  intro n
  induction n with
  | zero =>
    intro s hs h0
    exact absurd ((good_iff F 0 s hs).1 h0).1 (by omega)
  | succ n ih =>
    intro s hs h0
    rw [depth_eq]
    rcases best_form h0 with ⟨h1, h2⟩ | ⟨q, hq, h2, h3, h4⟩
    · rw [h2]
      unfold depthR
      rw [if_pos (show (Known.plan ⟨-1, ((candL s).getD 0 0 : Nat), [], [], 0⟩).q = -1 from rfl)]
      show ((0 : Int), decide ((candL s).length = 1) && decide ((((candL s).getD 0 0 : Nat) : Int) = (((candL s).getD 0 0 : Nat) : Int)) && decide (0 + 0 = 0)) = (0, true)
      rw [h1, decide_eq_true rfl, decide_eq_true rfl]
      rfl
    · have hlen : (ksA F s q).length = (ansQ F s q).length := by unfold ksA; rw [List.length_map]
      rw [h4]
      unfold depthR
      have hq0 : (Known.plan ⟨(q : Int), -1, ansQ F s q, (ksA F s q).map Known.plan, maxD (ksA F s q)⟩).q = (q : Int) := rfl
      rw [if_neg (by rw [hq0]; omega), if_neg (by
        rintro (h | h | h)
        · rw [hq0] at h; omega
        · rw [hq0] at h; omega
        · exact h rfl)]
      have hqn : ((Known.plan ⟨(q : Int), -1, ansQ F s q, (ksA F s q).map Known.plan, maxD (ksA F s q)⟩).q).toNat = q := by rw [hq0]; omega
      rw [hqn, if_neg (by
        rintro (h | h)
        · have he : eqT ⟨txD (ansQ F s q), ⟨(ansQ F s q).length, fun i => (ansQ F s q).getD i []⟩⟩ = true := decide_eq_true ⟨rfl, fun _ _ => rfl⟩
          rw [show eqT ⟨txD (ansQ F s q), ⟨(ansQ F s q).length, fun i => (ansQ F s q).getD i []⟩⟩ = false from h] at he
          cases he
        · refine h ?_
          show (List.map Known.plan (ksA F s q)).length = _
          rw [List.length_map, hlen])]
      have hr : ∀ i, i < (ansQ F s q).length → depthV F ((Known.plan ⟨(q : Int), -1, ansQ F s q, (ksA F s q).map Known.plan, maxD (ksA F s q)⟩).kid i) (partQ F s q ((ansQ F s q).getD i [])) = (((ksA F s q).getD i kn0).d, true) := by
        intro i hi
        show depthV F (((ksA F s q).map Known.plan).getD i dP) _ = _
        rw [getD_map (d := kn0) (by rw [hlen]; exact hi)]
        have hg : (ksA F s q).getD i kn0 = bestV F (partQ F s q ((ansQ F s q).getD i [])) := getD_map (d := []) hi
        rw [hg]
        have hl := part_less (F := F) (s := s) (q := q) (a := (ansQ F s q).getD i []) h2
        exact ih (by omega) (allD_map.1 h3 _ (getD_memS hi))
      have := accD_all (r := fun i => depthV F ((Known.plan ⟨(q : Int), -1, ansQ F s q, (ksA F s q).map Known.plan, maxD (ksA F s q)⟩).kid i) (partQ F s q ((ansQ F s q).getD i []))) (ks := ksA F s q) (n := (ansQ F s q).length) (by omega) hr
      rw [this, ← hlen, List.take_length]
end A20
