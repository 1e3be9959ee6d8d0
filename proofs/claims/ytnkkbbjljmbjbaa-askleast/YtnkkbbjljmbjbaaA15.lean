/- A part of the proof: see the last text. -/
import Derived.Test.YtnkkbbjljmbjbaaA14
open Go Go.Eng Go.Proofs A0 A1 A2 A3 A4 A5 A6 A7 A8 A9 A10 A11 A12 A13 A14
set_option maxRecDepth 100000
namespace A15
/-! When there is a plan -/
def Good (F : Fx) (s : Nat) : Prop := 0 < (candL s).length ∧ ∀ i ∈ candL s, ∀ j ∈ candL s, (∀ q, q < F.k 0 → F.a i q = F.a j q) → i = j
theorem fold_once {α β : Type} {f : β → α → β} {p : β → Prop} (hk : ∀ b x, p b → p (f b x)) : ∀ {l : List α} {b : β}, (∃ x ∈ l, ∀ b, p (f b x)) → p (l.foldl f b) := by
  intro l
  induction l with
  | nil => rintro b ⟨x, hx, _⟩; cases hx
  | cons y r ih =>
    rintro b ⟨x, hx, h⟩
    rcases List.mem_cons.1 hx with e | e
    · rw [e] at h
      exact fold_inv (p := p) (l := r) (b := f b y) (h b) fun b z _ hb => hk b z hb
    · exact ih ⟨x, e, h⟩
/-- If something holds behind all steps, it held at first, or a step brought it. -/
theorem fold_why {α β : Type} {f : β → α → β} {p : β → Prop} : ∀ {l : List α} {b : β}, p (l.foldl f b) → p b ∨ ∃ x ∈ l, ∃ b, ¬ p b ∧ p (f b x) := by
  intro l
  induction l with
  | nil => intro b h; exact .inl h
  | cons y r ih =>
    intro b h
    rcases ih h with h1 | ⟨x, hx, b', h1⟩
    · by_cases hb : p b
      · exact .inl hb
      · exact .inr ⟨y, List.mem_cons_self .., b, hb, h1⟩
    · exact .inr ⟨x, List.mem_cons_of_mem _ hx, b', h1⟩
theorem step_keep {F : Fx} {b : Nat → Known} {s : Nat} (k : Known) (q : Nat) (h : 0 ≤ k.d) : 0 ≤ (stepQ F b s k q).d := by
  unfold stepQ
  split
  · exact h
  · unfold stepW
    split
    · exact maxD_0 _
    · exact h
theorem allD_map {A : Ss} {f : List UInt8 → Known} : allD (A.map f) = true ↔ ∀ a ∈ A, 0 ≤ (f a).d := by
  unfold allD
  rw [List.all_eq_true]
  constructor
  · intro h a ha
    exact of_decide_eq_true (h _ (List.mem_map.2 ⟨a, ha, rfl⟩))
  · intro h k hk
    obtain ⟨a, ha, rfl⟩ := List.mem_map.1 hk
    exact decide_eq_true (h a ha)
theorem mem_part {F : Fx} {s q : Nat} {a : List UInt8} {i : Nat} : i ∈ candL (partQ F s q a) ↔ i ∈ candL s ∧ F.a i q = a := by
  rw [cand_part, List.mem_filter, decide_eq_true_eq]
theorem two_of {l : Ss} {a b : List UInt8} (ha : a ∈ l) (hb : b ∈ l) (h : a ≠ b) : 2 ≤ l.length := by
  match l, ha, hb with
  | [x], ha, hb => exact absurd ((List.mem_singleton.1 ha).trans (List.mem_singleton.1 hb).symm) h
  | _ :: _ :: r, _, _ => simp
theorem good_iff (F : Fx) : ∀ (n s : Nat), (candL s).length ≤ n → (0 ≤ (bestV F s).d ↔ Good F s) := by
  intro n
  induction n with
  | zero =>
    intro s hs
    have h0 : (candL s).length = 0 := by omega
    constructor
    · intro h
      have : bestV F s = kn0 := by unfold bestV; rw [h0]; rfl
      rw [this] at h
      exact absurd h (by decide)
    · intro h
      exact absurd h.1 (by omega)
  | succ n ih =>
    intro s hs
    constructor
    · intro h
      rw [best_eq] at h
      rcases fold_why (p := fun k : Known => 0 ≤ k.d) h with h1 | ⟨q, hq, k, hk, h1⟩
      · have hl : (candL s).length = 1 := by
          refine Classical.byContradiction fun hne => ?_
          rw [out0_0 hne] at h1
          exact absurd h1 (by decide)
        refine ⟨by omega, fun i hi j hj _ => ?_⟩
        match hc : candL s, hl with
        | [x], _ =>
          rw [hc] at hi hj
          rw [List.mem_singleton.1 hi, List.mem_singleton.1 hj]
      · have hq' := List.mem_range.1 hq
        unfold stepQ at h1
        split at h1
        · exact absurd h1 hk
        · rename_i h2
          unfold stepW at h1
          split at h1
          · rename_i h3
            have hall := allD_map.1 h3.1
            refine ⟨?_, fun i hi j hj hij => ?_⟩
            · have h4 : 0 < (ansQ F s q).length := by omega
              obtain ⟨a, ha⟩ := List.exists_mem_of_length_pos h4
              obtain ⟨i, hi, _⟩ := mem_ansQ.1 ha
              exact List.length_pos_of_mem hi
            · have hp := hall (F.a i q) (mem_ansQ.2 ⟨i, hi, rfl⟩)
              have hl := part_less (F := F) (s := s) (q := q) (a := F.a i q) (by omega)
              have hg := (ih _ (by omega)).1 hp
              exact hg.2 i (mem_part.2 ⟨hi, rfl⟩) j (mem_part.2 ⟨hj, (hij q hq').symm⟩) hij
          · exact absurd h1 hk
    · intro h
      rw [best_eq]
      by_cases hl : (candL s).length = 1
      · refine fold_inv (p := fun k : Known => 0 ≤ k.d) ?_ fun k q _ hk => step_keep k q hk
        rw [out0_1 hl]
        exact Int.le_refl 0
      · have h2 : 2 ≤ (candL s).length := by have := h.1; omega
        have hnd : (candL s).Nodup := (List.nodup_range).filter _
        obtain ⟨i, hi⟩ := List.exists_mem_of_length_pos h.1
        have hex : ∃ j ∈ candL s, j ≠ i := by
          match hc : candL s, h2 with
          | x :: y :: r, _ =>
            rw [hc] at hnd
            by_cases e : x = i
            · refine ⟨y, by simp, fun e2 => (List.nodup_cons.1 hnd).1 ?_⟩
              rw [e, ← e2]
              simp
            · exact ⟨x, by simp, e⟩
        obtain ⟨j, hj, hji⟩ := hex
        have hq : ∃ q, q < F.k 0 ∧ F.a i q ≠ F.a j q := by
          refine Classical.byContradiction fun hn => hji (h.2 j hj i hi fun q hq => ?_)
          exact Classical.byContradiction fun he => hn ⟨q, hq, fun e => he e.symm⟩
        obtain ⟨q, hq, hne⟩ := hq
        refine fold_once (p := fun k : Known => 0 ≤ k.d) (fun k q hk => step_keep k q hk) ⟨q, List.mem_range.2 hq, fun k => ?_⟩
        have hA : 2 ≤ (ansQ F s q).length := two_of (mem_ansQ.2 ⟨i, hi, rfl⟩) (mem_ansQ.2 ⟨j, hj, rfl⟩) hne
        have hall : allD ((ansQ F s q).map fun a => bestV F (partQ F s q a)) = true := by
          refine allD_map.2 fun a ha => ?_
          have hl := part_less (F := F) (s := s) (q := q) (a := a) hA
          refine (ih _ (by omega)).2 ⟨?_, fun x hx y hy hxy => h.2 x (mem_part.1 hx).1 y (mem_part.1 hy).1 hxy⟩
          obtain ⟨x, hx, he⟩ := mem_ansQ.1 ha
          exact List.length_pos_of_mem (mem_part.2 ⟨hx, he⟩)
        show 0 ≤ (stepQ F (bestV F) s k q).d
        unfold stepQ
        rw [if_neg (by omega)]
        unfold stepW
        split
        · exact maxD_0 _
        · rename_i hn
          refine Classical.byContradiction fun hk => hn ⟨hall, .inl (by omega)⟩
/-- Two equal candidates. -/
theorem eqC_iff {F : Fx} (hF : FxOk F) : eqC F = true ↔ ¬ Good F (allC F.n) := by
  unfold eqC
  rw [decide_eq_true_eq]
  have hc := cand_all hF.n8
  constructor
  · rintro ⟨i, hi, k, hk, he⟩ hg
    have he' := of_decide_eq_true he
    have hi' : i ∈ candL (allC F.n) := by rw [hc]; exact List.mem_range.2 hi
    have hk' : k ∈ candL (allC F.n) := by rw [hc]; exact List.mem_range.2 (by omega)
    have := hg.2 i hi' k hk' fun q hq => he'.2 q (by show q < F.k i; rw [hF.k i hi]; exact hq)
    omega
  · intro hg
    refine Classical.byContradiction fun hn => hg ⟨?_, fun i hi j hj hij => ?_⟩
    · rw [hc, List.length_range]
      exact hF.n0
    · rw [hc] at hi hj
      have hi := List.mem_range.1 hi
      have hj := List.mem_range.1 hj
      refine Classical.byContradiction fun hne => hn ?_
      have key : ∀ i j, i < F.n → j < i → (∀ q, q < F.k 0 → F.a i q = F.a j q) → ∃ i, i < F.n ∧ ∃ k, k < i ∧ eqT ⟨⟨F.k i, F.a i⟩, ⟨F.k k, F.a k⟩⟩ = true := by
        intro i j hi hj h
        refine ⟨i, hi, j, hj, decide_eq_true ⟨?_, fun q hq => ?_⟩⟩
        · show F.k i = F.k j
          rw [hF.k i hi, hF.k j (by omega)]
        · have : q < F.k i := hq
          exact h q (by rw [hF.k i hi] at this; exact this)
      rcases Nat.lt_or_gt_of_ne hne with h | h
      · exact key j i hj h fun q hq => (hij q hq).symm
      · exact key i j hi h hij
theorem make_code {F : Fx} (hp : properB F = true) : ((makeV F).2 = 8 ↔ eqC F = true) ∧ ((makeV F).2 = 0 ↔ eqC F = false) := by
  have hF := proper_ok' hp
  have hg := good_iff F _ (allC F.n) (Nat.le_refl _)
  have he := eqC_iff hF
  unfold makeV
  rw [if_pos hp]
  by_cases hd : (bestV F (allC F.n)).d < 0
  · rw [if_pos hd]
    have : ¬ Good F (allC F.n) := fun h => by have := hg.2 h; omega
    have h1 := he.2 this
    exact ⟨⟨fun _ => h1, fun _ => rfl⟩, ⟨fun h => absurd (show (8 : Int) = 0 from h) (by decide), fun h => by rw [h1] at h; cases h⟩⟩
  · rw [if_neg hd]
    have h1 : eqC F = false := by
      cases hx : eqC F with
      | false => rfl
      | true => exact absurd (hg.1 (by omega)) (he.1 hx)
    exact ⟨⟨fun h => absurd (show (0 : Int) = 8 from h) (by decide), fun h => by rw [h1] at h; cases h⟩, ⟨fun _ => h1, fun _ => rfl⟩⟩
theorem make_bad {F : Fx} (hp : properB F = false) : (makeV F).2 = 1 := by
  unfold makeV
  rw [if_neg (by rw [hp]; decide)]
end A15
