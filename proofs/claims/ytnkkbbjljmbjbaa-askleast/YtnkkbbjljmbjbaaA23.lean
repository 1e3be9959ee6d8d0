/- A part of the proof: see the last text. -/
import Derived.Test.YtnkkbbjljmbjbaaA18
import Derived.Test.YtnkkbbjljmbjbaaA12
open Go Go.Eng Go.Proofs A0 A1 A2 A3 A4 A5 A6 A7 A8 A9 A10 A11 A12 A15 A17 A18
namespace A23
theorem accD_all {r : Nat → Int × Bool} : ∀ {n : Nat}, (accD r n).2 = true → ∀ i, i < n → (r i).2 = true ∧ (r i).1 + 1 ≤ (accD r n).1 := by
  intro n
  induction n with
  | zero => intro _ i h; omega
  | succ n ih =>
    intro h i hi
    simp only [accD] at h ⊢
    split at h
    · rename_i hc
      rw [if_pos hc]
      rcases Nat.lt_or_eq_of_le (Nat.le_of_lt_succ hi) with e | e
      · have := ih hc.1 i e
        refine ⟨this.1, ?_⟩
        show (r i).1 + 1 ≤ max (accD r n).1 ((r n).1 + 1)
        omega
      · subst e
        refine ⟨hc.2, ?_⟩
        show (r i).1 + 1 ≤ max (accD r i).1 ((r i).1 + 1)
        omega
    · cases h
theorem accD_0 {r : Nat → Int × Bool} : ∀ {n : Nat}, 0 ≤ (accD r n).1 := by
  intro n
  induction n with
  | zero => exact Int.le_refl 0
  | succ n ih =>
    simp only [accD]
    split
    · show 0 ≤ max (accD r n).1 ((r n).1 + 1)
      omega
    · exact Int.le_refl 0
theorem depthR_0 {F : Fx} {s : Nat} {q c : Int} {n : Nat} {ans : Nat → List UInt8} {m : Nat} {rec : Nat → Nat → Int × Bool} : 0 ≤ (depthR F s q c n ans m rec).1 := by
  unfold depthR
  split
  · exact Int.le_refl 0
  · split
    · exact Int.le_refl 0
    · split
      · exact Int.le_refl 0
      · exact accD_0
theorem depthV_0 {F : Fx} {p : Plan} {s : Nat} : 0 ≤ (depthV F p s).1 := by
  rw [depth_eq]
  exact depthR_0
theorem sol_up {F : Fx} {s D E : Nat} (h : Sol F D s) (hl : D ≤ E) : Sol F E s := by
  induction hl with
  | refl => exact h
  | step _ ih => exact sol_mono ih
/-- A right plan is a solution as deep. -/
theorem dep_sol {F : Fx} : ∀ (p : Plan) (s : Nat), 0 < (candL s).length → (depthV F p s).2 = true → Sol F (depthV F p s).1.toNat s := by
  have one : ∀ s q c n ans m rec, 0 < (candL s).length → (depthR F s q c n ans m rec).2 = true →
      (∀ i t, 0 < (candL t).length → i < (ansQ F s q.toNat).length → (rec i t).2 = true → 0 ≤ (rec i t).1 ∧ Sol F (rec i t).1.toNat t) → Sol F (depthR F s q c n ans m rec).1.toNat s := by
    intro s q c n ans m rec h0 h hr
    unfold depthR at h ⊢
    by_cases h1 : q = -1
    · rw [if_pos h1] at h ⊢
      simp only [Bool.and_eq_true, decide_eq_true_eq] at h
      exact sol_one h.1.1
    · rw [if_neg h1] at h ⊢
      by_cases h2 : q < 0 ∨ (F.k 0 : Int) ≤ q ∨ c ≠ -1
      · rw [if_pos h2] at h; cases h
      · rw [if_neg h2] at h ⊢
        by_cases h3 : eqT ⟨txD (ansQ F s q.toNat), ⟨n, ans⟩⟩ = false ∨ m ≠ (ansQ F s q.toNat).length
        · rw [if_pos h3] at h; cases h
        · rw [if_neg h3] at h ⊢
          have hall := accD_all h
          have kid : ∀ a ∈ ansQ F s q.toNat, ∃ D : Nat, Sol F D (partQ F s q.toNat a) ∧ (D : Int) + 1 ≤ (accD (fun i => rec i (partQ F s q.toNat ((ansQ F s q.toNat).getD i []))) (ansQ F s q.toNat).length).1 := by
            intro a ha
            obtain ⟨i, hi, e⟩ := List.getElem_of_mem ha
            have ea : (ansQ F s q.toNat).getD i [] = a := by
              rw [List.getD_eq_getElem?_getD, List.getElem?_eq_getElem hi, e]
              rfl
            have hi2 := hall i hi
            rw [ea] at hi2
            obtain ⟨x, hx, he⟩ := mem_ansQ.1 ha
            have := hr i (partQ F s q.toNat a) (List.length_pos_of_mem (mem_part.2 ⟨hx, he⟩)) hi hi2.1
            exact ⟨_, this.2, by have := hi2.2; omega⟩
          generalize (accD (fun i => rec i (partQ F s q.toNat ((ansQ F s q.toNat).getD i []))) (ansQ F s q.toNat).length).1 = d at kid ⊢
          obtain ⟨x, hx⟩ := List.exists_mem_of_length_pos h0
          have hxa : F.a x q.toNat ∈ ansQ F s q.toNat := mem_ansQ.2 ⟨x, hx, rfl⟩
          obtain ⟨D, hD, hd⟩ := kid _ hxa
          by_cases hL : 2 ≤ (ansQ F s q.toNat).length
          · obtain ⟨E, hE⟩ : ∃ E, d.toNat = E + 1 := ⟨d.toNat - 1, by omega⟩
            rw [hE]
            refine .inr ⟨q.toNat, by omega, hL, fun a ha => ?_⟩
            obtain ⟨D', hD', hd'⟩ := kid a ha
            exact sol_up hD' (by omega)
          · refine sol_up (sol_into (F := F) (F' := F) (Nat.le_refl _) (φ := fun i => i) (fun _ _ e => e) (fun i hi => ⟨mem_part.2 ⟨hi, ?_⟩, fun _ _ => rfl⟩) h0 hD) (by omega)
            refine Classical.byContradiction fun hne => hL ?_
            exact two_of (mem_ansQ.2 ⟨i, hi, rfl⟩) hxa hne
  intro p
  induction p with
  | leaf q c n ans => intro s h0 h; exact one s q c n ans 0 _ h0 h (fun i t _ _ e => by cases e)
  | node q c n ans m next ih => intro s h0 h; exact one s q c n ans m _ h0 h (fun i t h1 _ e => ⟨depthV_0, ih i t h1 e⟩)
/-- A right plan: Make gives one that is no deeper. -/
theorem check_make {F : Fx} {p : Plan} (h : (checkV F p).2 = true) : (makeV F).2 = 0 ∧ (makeV F).1.d ≤ (checkV F p).1 := by
  unfold checkV at h ⊢
  by_cases hp : properB F = true
  · rw [if_pos hp] at h ⊢
    have hF := proper_ok' hp
    have hl : (candL (allC F.n)).length = F.n := by rw [cand_all hF.n8, List.length_range]
    have := make_sol hF (dep_sol p (allC F.n) (by rw [hl]; exact hF.n0) h)
    have h0 := depthV_0 (F := F) (p := p) (s := allC F.n)
    exact ⟨this.1, by have := this.2; omega⟩
  · rw [if_neg hp] at h
    cases h
/-- A plan that is not right: its depth is said to be 0. -/
theorem accD_f {r : Nat → Int × Bool} : ∀ {n : Nat}, (accD r n).2 = false → (accD r n).1 = 0 := by
  intro n
  cases n with
  | zero => intro _; rfl
  | succ n =>
    intro h
    simp only [accD] at h ⊢
    split at h
    · cases h
    · rename_i hc
      rw [if_neg hc]
theorem check_f {F : Fx} {p : Plan} (h : (checkV F p).2 = false) : (checkV F p).1 = 0 := by
  unfold checkV at h ⊢
  by_cases hp : properB F = true
  · rw [if_pos hp] at h ⊢
    rw [depth_eq] at h ⊢
    unfold depthR at h ⊢
    split
    · rfl
    · rename_i h1
      rw [if_neg h1] at h
      split
      · rfl
      · rename_i h2
        rw [if_neg h2] at h
        split
        · rfl
        · rename_i h3
          rw [if_neg h3] at h
          exact accD_f h
  · rw [if_neg hp]
end A23
