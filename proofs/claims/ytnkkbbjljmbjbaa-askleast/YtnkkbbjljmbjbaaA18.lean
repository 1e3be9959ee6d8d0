/- A part of the proof: see the last text. -/
import Derived.Test.YtnkkbbjljmbjbaaA17
open Go Go.Eng Go.Proofs A0 A1 A2 A3 A4 A5 A6 A7 A8 A9 A10 A11 A12 A13 A14 A15 A16 A17
set_option maxRecDepth 100000
namespace A18
/-- Without one candidate; with one more question. -/
def skip (k i : Nat) : Nat := if i < k then i else i + 1
def lessF (F : Fx) (k : Nat) : Fx := ⟨F.n - 1, fun i => F.k (skip k i), fun i => F.a (skip k i)⟩
def moreF (F : Fx) (t : Tx) : Fx := ⟨F.n, fun i => F.k i + 1, fun i j => if j < F.k i then F.a i j else t.s i⟩
theorem skip_inj {k i j : Nat} (h : skip k i = skip k j) : i = j := by
  unfold skip at h
  split at h <;> split at h <;> omega
theorem skip_lt {k n i : Nat} (hi : i < n - 1) : skip k i < n := by
  unfold skip
  split <;> omega
/-- What Make's answer says. -/
theorem make_d {F : Fx} (h : (makeV F).2 = 0) : FxOk F ∧ 0 ≤ (makeV F).1.d ∧ (makeV F).1.d = (bestV F (allC F.n)).d := by
  unfold makeV at h ⊢
  split at h
  · rename_i hp
    rw [if_pos hp]
    split at h
    · exact absurd (show (8 : Int) = 0 from h) (by decide)
    · rename_i hd
      rw [if_neg hd]
      exact ⟨proper_ok' hp, by dsimp only; omega, rfl⟩
  · exact absurd (show (1 : Int) = 0 from h) (by decide)
theorem proper_of {F : Fx} (h : FxOk F) : properB F = true := decide_eq_true ⟨h.n0, h.n8, h.k8, h.k⟩
theorem make_sol {F : Fx} {D : Nat} (hF : FxOk F) (h : Sol F D (allC F.n)) : (makeV F).2 = 0 ∧ (makeV F).1.d ≤ D := by
  have hb := sol_best h
  unfold makeV
  rw [if_pos (proper_of hF), if_neg (by omega)]
  exact ⟨rfl, hb.2⟩
theorem d_bounds {F : Fx} (h : (makeV F).2 = 0) : 0 ≤ (makeV F).1.d ∧ (makeV F).1.d < (F.n : Int) ∧ ((makeV F).1.d = 0 ↔ F.n = 1) := by
  obtain ⟨hF, h0, he⟩ := make_d h
  have hc := cand_all hF.n8
  have hl : (candL (allC F.n)).length = F.n := by rw [hc, List.length_range]
  have h1 := best_bound (F := F) (Nat.le_refl _) (by rw [hl]; exact hF.n0 : 0 < (candL (allC F.n)).length)
  rw [hl] at h1
  rw [he] at h0 ⊢
  refine ⟨h0, h1, fun hz => ?_, fun hz => ?_⟩
  · rw [← hl]; exact best_zero hz
  · exact best_one (by rw [hl]; exact hz)
theorem less_ok {F : Fx} {k : Nat} (h : (makeV F).2 = 0) (hk : k < F.n) (hn : 0 < F.n - 1) : (makeV (lessF F k)).2 = 0 ∧ (makeV (lessF F k)).1.d ≤ (makeV F).1.d := by
  obtain ⟨hF, h0, he⟩ := make_d h
  have hk0 : (lessF F k).k 0 = F.k 0 := hF.k _ (skip_lt hn)
  have hF' : FxOk (lessF F k) := by
    refine ⟨hn, ?_, by rw [hk0]; exact hF.k8, fun j hj => ?_⟩
    · show F.n - 1 ≤ 8
      have := hF.n8
      omega
    · rw [hk0]
      exact hF.k _ (skip_lt hj)
  have hs := best_sol (F := F) (s := allC F.n) (D := (makeV F).1.d.toNat) (Nat.le_refl _) (by omega) (by omega)
  have h2 := sol_into (F := F) (F' := lessF F k) (by rw [hk0]; exact Nat.le_refl _) (φ := skip k) (fun _ _ e => skip_inj e) (s := allC F.n) (s' := allC (lessF F k).n) (fun i hi => ?_) (by rw [cand_all hF'.n8, List.length_range]; exact hn) hs
  · have := make_sol hF' h2
    exact ⟨this.1, by omega⟩
  · rw [cand_all hF'.n8] at hi
    rw [cand_all hF.n8]
    exact ⟨List.mem_range.2 (skip_lt (List.mem_range.1 hi)), fun q _ => rfl⟩
theorem more_ok {F : Fx} {t : Tx} (h : (makeV F).2 = 0) (hk : F.k 0 < 8) : (makeV (moreF F t)).2 = 0 ∧ (makeV (moreF F t)).1.d ≤ (makeV F).1.d := by
  obtain ⟨hF, h0, he⟩ := make_d h
  have hF' : FxOk (moreF F t) := by
    refine ⟨hF.n0, hF.n8, ?_, fun j hj => ?_⟩
    · show F.k 0 + 1 ≤ 8
      omega
    · show F.k j + 1 = F.k 0 + 1
      rw [hF.k j hj]
  have hs := best_sol (F := F) (s := allC F.n) (D := (makeV F).1.d.toNat) (Nat.le_refl _) (by omega) (by omega)
  have h2 := sol_into (F := F) (F' := moreF F t) (by show F.k 0 ≤ F.k 0 + 1; omega) (φ := id) (fun _ _ e => e) (s := allC F.n) (s' := allC (moreF F t).n) (fun i hi => ?_) (by rw [cand_all hF'.n8, List.length_range]; exact hF.n0) hs
  · have := make_sol hF' h2
    exact ⟨this.1, by omega⟩
  · have hi' : i ∈ candL (allC F.n) := hi
    refine ⟨hi', fun q hq => ?_⟩
    rw [cand_all hF.n8] at hi'
    show (if q < F.k i then F.a i q else t.s i) = F.a i q
    rw [if_pos (by rw [hF.k i (List.mem_range.1 hi')]; exact hq)]
structure X6 where
  F : Fx
  raw : Int
  t : Tx
end A18
