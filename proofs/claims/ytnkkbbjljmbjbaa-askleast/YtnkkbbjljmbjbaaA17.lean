/- A part of the proof: see the last text. -/
import Derived.Test.YtnkkbbjljmbjbaaA16
open Go Go.Eng Go.Proofs A0 A1 A2 A3 A4 A5 A6 A7 A8 A9 A10 A11 A12 A13 A14 A15
set_option maxRecDepth 100000
namespace A17
/-! The least depth -/
def Sol (F : Fx) : Nat → Nat → Prop
  | 0, s => (candL s).length = 1
  | D + 1, s => (candL s).length = 1 ∨ ∃ q, q < F.k 0 ∧ 2 ≤ (ansQ F s q).length ∧ ∀ a ∈ ansQ F s q, Sol F D (partQ F s q a)
theorem sol_one {F : Fx} {D s : Nat} (h : (candL s).length = 1) : Sol F D s := by
  cases D with
  | zero => exact h
  | succ D => exact .inl h
theorem sol_mono {F : Fx} : ∀ {D s : Nat}, Sol F D s → Sol F (D + 1) s := by
  intro D
  induction D with
  | zero => intro s h; exact .inl h
  | succ D ih =>
    rintro s (h | ⟨q, h1, h2, h3⟩)
    · exact .inl h
    · exact .inr ⟨q, h1, h2, fun a ha => ih (h3 a ha)⟩
theorem step_less {F : Fx} {b : Nat → Known} {s : Nat} {D : Int} (k : Known) (q : Nat) (h : 0 ≤ k.d ∧ k.d ≤ D) : 0 ≤ (stepQ F b s k q).d ∧ (stepQ F b s k q).d ≤ D := by
  unfold stepQ
  split
  · exact h
  · unfold stepW
    split
    · rename_i h2
      refine ⟨maxD_0 _, ?_⟩
      show maxD _ ≤ D
      rcases h2.2 with h3 | h3 <;> omega
    · exact h
theorem best_one {F : Fx} {s : Nat} (h : (candL s).length = 1) : (bestV F s).d = 0 := by
  rw [best_eq]
  have : ∀ k : Known, (0 ≤ k.d ∧ k.d ≤ 0) → k.d = 0 := fun k hk => by omega
  refine this _ (fold_inv (p := fun k : Known => 0 ≤ k.d ∧ k.d ≤ 0) ?_ fun k q _ hk => step_less k q hk)
  rw [out0_1 h]
  exact ⟨Int.le_refl _, Int.le_refl _⟩
theorem sol_best {F : Fx} : ∀ {D s : Nat}, Sol F D s → 0 ≤ (bestV F s).d ∧ (bestV F s).d ≤ D := by
  intro D
  induction D with
  | zero =>
    intro s h
    rw [best_one h]
    omega
  | succ D ih =>
    rintro s (h | ⟨q, h1, h2, h3⟩)
    · rw [best_one h]
      omega
    · rw [best_eq]
      refine fold_once (p := fun k : Known => 0 ≤ k.d ∧ k.d ≤ ((D + 1 : Nat) : Int)) (fun k q hk => step_less k q hk) ⟨q, List.mem_range.2 h1, fun k => ?_⟩
      have hall : allD ((ansQ F s q).map fun a => bestV F (partQ F s q a)) = true := allD_map.2 fun a ha => (ih (h3 a ha)).1
      have hmax : maxD ((ansQ F s q).map fun a => bestV F (partQ F s q a)) ≤ ((D + 1 : Nat) : Int) := by
        refine maxD_le (by omega) fun k hk => ?_
        obtain ⟨a, ha, rfl⟩ := List.mem_map.1 hk
        have := (ih (h3 a ha)).2
        omega
      show 0 ≤ (stepQ F (bestV F) s k q).d ∧ (stepQ F (bestV F) s k q).d ≤ ((D + 1 : Nat) : Int)
      unfold stepQ
      rw [if_neg (by omega)]
      unfold stepW
      split
      · exact ⟨maxD_0 _, hmax⟩
      · rename_i hn
        have hk : ¬ (k.d < 0 ∨ maxD ((ansQ F s q).map fun a => bestV F (partQ F s q a)) < k.d) := fun h => hn ⟨hall, h⟩
        omega
theorem le_maxD {ks : List Known} {k : Known} (hk : k ∈ ks) : k.d + 1 ≤ maxD ks := by
  have key : ∀ {ks : List Known} {m : Int}, (∀ k ∈ ks, k.d + 1 ≤ ks.foldl (fun m k => max m (k.d + 1)) m) := by
    intro ks
    induction ks with
    | nil => intro m k hk; cases hk
    | cons x r ih =>
      intro m k hk
      rw [List.foldl_cons]
      rcases List.mem_cons.1 hk with e | e
      · rw [e]
        exact Int.le_trans (Int.le_max_right _ _) fold_max.1
      · exact ih k e
  exact key k hk
theorem best_sol {F : Fx} : ∀ {n s D : Nat}, (candL s).length ≤ n → 0 ≤ (bestV F s).d → (bestV F s).d ≤ D → Sol F D s := by
  intro n
  induction n with
  | zero =>
    intro s D hs h0 _
    have := (good_iff F 0 s hs).1 h0
    exact absurd this.1 (by omega)
  | succ n ih =>
    intro s D hs h0 hD
    rw [best_eq] at h0 hD
    rcases fold_why (p := fun k : Known => 0 ≤ k.d ∧ k.d ≤ (D : Int)) ⟨h0, hD⟩ with h1 | ⟨q, hq, k, hk, h1⟩
    · refine sol_one (Classical.byContradiction fun hne => ?_)
      rw [out0_0 hne] at h1
      exact absurd h1.1 (by decide)
    · have h1' : 0 ≤ (stepQ F (bestV F) s k q).d ∧ (stepQ F (bestV F) s k q).d ≤ (D : Int) := h1
      unfold stepQ at h1'
      split at h1'
      · exact absurd h1' hk
      · rename_i h2
        unfold stepW at h1'
        split at h1'
        · rename_i h3
          have hall := allD_map.1 h3.1
          have hm : maxD ((ansQ F s q).map fun a => bestV F (partQ F s q a)) ≤ (D : Int) := h1'.2
          have hA : 2 ≤ (ansQ F s q).length := by omega
          cases D with
          | zero =>
            obtain ⟨a, ha⟩ := List.exists_mem_of_length_pos (show 0 < (ansQ F s q).length by omega)
            have h4 := le_maxD (List.mem_map.2 ⟨a, ha, rfl⟩ : bestV F (partQ F s q a) ∈ (ansQ F s q).map fun a => bestV F (partQ F s q a))
            have h5 := hall a ha
            omega
          | succ D =>
            refine .inr ⟨q, List.mem_range.1 hq, hA, fun a ha => ?_⟩
            have h4 := le_maxD (List.mem_map.2 ⟨a, ha, rfl⟩ : bestV F (partQ F s q a) ∈ (ansQ F s q).map fun a => bestV F (partQ F s q a))
            have h5 := part_less (F := F) (s := s) (q := q) (a := a) hA
            exact ih (by omega) (hall a ha) (by omega)
        · exact absurd h1' hk
theorem cand_nodup (s : Nat) : (candL s).Nodup := (List.nodup_range).filter _
/-- A set that goes into another one, with no fewer questions, needs no greater depth. -/
theorem sol_into {F F' : Fx} (hk : F.k 0 ≤ F'.k 0) {φ : Nat → Nat} (hφ : ∀ i j, φ i = φ j → i = j) :
    ∀ {D s s' : Nat}, (∀ i ∈ candL s', φ i ∈ candL s ∧ ∀ q, q < F.k 0 → F'.a i q = F.a (φ i) q) → 0 < (candL s').length → Sol F D s → Sol F' D s' := by
  have one : ∀ {s s' : Nat}, (∀ i ∈ candL s', φ i ∈ candL s ∧ ∀ q, q < F.k 0 → F'.a i q = F.a (φ i) q) → 0 < (candL s').length → (candL s).length = 1 → (candL s').length = 1 := by
    intro s s' h h0 h1
    match hc : candL s', h0 with
    | [_], _ => rfl
    | x :: y :: r, _ =>
      have hn := cand_nodup s'
      rw [hc] at hn h
      have hx := (h x (by simp)).1
      have hy := (h y (by simp)).1
      match hs : candL s, h1 with
      | [z], _ =>
        rw [hs] at hx hy
        have : x = y := hφ _ _ ((List.mem_singleton.1 hx).trans (List.mem_singleton.1 hy).symm)
        exact absurd (by rw [this]; simp) (List.nodup_cons.1 hn).1
  intro D
  induction D with
  | zero => intro s s' h h0 h1; exact one h h0 h1
  | succ D ih =>
    rintro s s' h h0 (h1 | ⟨q, hq, h2, h3⟩)
    · exact .inl (one h h0 h1)
    · have part : ∀ a, a ∈ ansQ F' s' q → a ∈ ansQ F s q ∧ (∀ i ∈ candL (partQ F' s' q a), φ i ∈ candL (partQ F s q a) ∧ ∀ q, q < F.k 0 → F'.a i q = F.a (φ i) q) ∧ 0 < (candL (partQ F' s' q a)).length := by
        intro a ha
        obtain ⟨i, hi, he⟩ := mem_ansQ.1 ha
        refine ⟨mem_ansQ.2 ⟨φ i, (h i hi).1, by rw [← (h i hi).2 q hq, he]⟩, fun j hj => ?_, List.length_pos_of_mem (mem_part.2 ⟨hi, he⟩)⟩
        have hj' := mem_part.1 hj
        exact ⟨mem_part.2 ⟨(h j hj'.1).1, by rw [← (h j hj'.1).2 q hq, hj'.2]⟩, (h j hj'.1).2⟩
      by_cases hA : 2 ≤ (ansQ F' s' q).length
      · refine .inr ⟨q, by omega, hA, fun a ha => ?_⟩
        obtain ⟨p1, p2, p3⟩ := part a ha
        exact ih p2 p3 (h3 a p1)
      · obtain ⟨i, hi⟩ := List.exists_mem_of_length_pos h0
        have ha : F'.a i q ∈ ansQ F' s' q := mem_ansQ.2 ⟨i, hi, rfl⟩
        obtain ⟨p1, _, _⟩ := part _ ha
        refine sol_mono (ih (s := partQ F s q (F'.a i q)) (fun j hj => ⟨mem_part.2 ⟨(h j hj).1, ?_⟩, (h j hj).2⟩) h0 (h3 _ p1))
        rw [← (h j hj).2 q hq]
        refine Classical.byContradiction fun hne => hA ?_
        exact two_of (mem_ansQ.2 ⟨j, hj, rfl⟩) ha hne
/-- The depth is less than the number of candidates, and 0 only for one. -/
theorem best_bound {F : Fx} : ∀ {n s : Nat}, (candL s).length ≤ n → 0 < (candL s).length → (bestV F s).d < (candL s).length := by
  intro n
  induction n with
  | zero => intro s hs h0; omega
  | succ n ih =>
    intro s hs h0
    rw [best_eq]
    refine fold_inv (p := fun k : Known => k.d < ((candL s).length : Int)) ?_ fun k q _ hk => ?_
    · unfold out0 kn0
      split <;> dsimp only <;> omega
    · show (stepQ F (bestV F) s k q).d < _
      unfold stepQ
      split
      · exact hk
      · rename_i h2
        unfold stepW
        split
        · show maxD _ < _
          have : maxD ((ansQ F s q).map fun a => bestV F (partQ F s q a)) ≤ ((candL s).length : Int) - 1 := by
            refine maxD_le (by omega) fun k hk => ?_
            obtain ⟨a, ha, rfl⟩ := List.mem_map.1 hk
            have h3 := part_less (F := F) (s := s) (q := q) (a := a) (by omega)
            obtain ⟨i, hi, he⟩ := mem_ansQ.1 ha
            have h4 := ih (s := partQ F s q a) (by omega) (List.length_pos_of_mem (mem_part.2 ⟨hi, he⟩))
            omega
          omega
        · exact hk
theorem best_zero {F : Fx} {s : Nat} (h : (bestV F s).d = 0) : (candL s).length = 1 := by
  have := best_sol (F := F) (D := 0) (Nat.le_refl _) (by omega) (by omega : (bestV F s).d ≤ ((0 : Nat) : Int))
  exact this
end A17
