/- A part of the proof: see the last text. -/
import Derived.Test.YtcckdpimimkejaaJA
/- The turning number: secants. -/
section
open Go.Proofs G1 G2 G3 G4 G16 G19 J1 J2 J3 J4 J7 J8 J9
set_option maxRecDepth 100000
namespace J11
theorem sim_shift {V : Nat → Pt} {n : Nat} (h : Sim V n) (o : Nat) : Sim (fun j => V (o + j)) n where
  three := h.three
  per i := by rw [← Nat.add_assoc, h.per]
  turn i := h.turn (o + i)
  dis i k h1 h2 := by
    have := h.dis (o + i) k h1 h2
    rw [show o + (i + k + 1) = o + i + k + 1 by omega, show o + (i + k) = o + i + k by omega]
    exact this
section
variable {V : Nat → Pt} {n : Nat} (h : Sim V n)
include h
theorem E_per (k : Nat) : E V (k + n) = E V k := by
  unfold E
  rw [h.per, show k + n + 1 = k + 1 + n by omega, h.per]
theorem turning (top : ∀ k, le (V k) (V 0)) : sumI (fun k => wnd (E V k) (E V (k + 1))) n = wnd (ng (E V (n - 1))) (ng (E V 0)) + wnd (E V (n - 1)) (E V 0) := by
  obtain ⟨m, hn⟩ : ∃ m, n = m + 3 := ⟨n - 3, by have := h.three; omega⟩
  have z0 : V n = V 0 := by have := h.per 0; rwa [Nat.zero_add] at this
  have Kn : ∀ a, wnd (vec (V a) (V n)) (vec (V (a + 1)) (V n)) = 0 := fun a => by
    have e : ∀ x, vec x (V 0) = ng (vec (V 0) x) := fun x => (ng_vec _ _).symm
    rw [z0, e (V a), e (V (a + 1))]
    have h1 := top a
    have h2 := top (a + 1)
    unfold le at h1 h2
    exact wnd_high (by unfold vec; dsimp only; omega) (by unfold vec; dsimp only; omega) (by unfold vec; dsimp only; omega) (by unfold vec; dsimp only; omega)
  have H0 : ∀ b, wnd (vec (V 0) (V b)) (vec (V 0) (V (b + 1))) = 0 := fun b => by
    have h1 := top b
    have h2 := top (b + 1)
    unfold le at h1 h2
    exact wnd_low (by unfold vec; dsimp only; omega) (by unfold vec; dsimp only; omega)
  have diag : ∀ a, wnd (E V a) (E V (a + 1)) = wnd (vec (V a) (V (a + 1))) (vec (V a) (V (a + 2))) + wnd (vec (V a) (V (a + 2))) (vec (V (a + 1)) (V (a + 2))) := fun a => by
    have k := wnd_cut (E V a) (E V (a + 1))
    have e : ad (E V a) (E V (a + 1)) = vec (V a) (V (a + 2)) := ad_vec _ _ _
    rw [e] at k
    exact k.symm
  have row : ∀ a, 1 ≤ a → a + 2 ≤ n → sumI (fun l => wnd (vec (V a) (V (a + 1 + l))) (vec (V a) (V (a + 1 + l + 1)))) (n - 1 - a) - sumI (fun l => wnd (vec (V (a + 1)) (V (a + 1 + 1 + l))) (vec (V (a + 1)) (V (a + 1 + 1 + l + 1)))) (n - 1 - (a + 1)) = wnd (E V a) (E V (a + 1)) := fun a h1 h2 => by
    obtain ⟨q, hq⟩ : ∃ q, n = a + 2 + q := ⟨n - a - 2, by omega⟩
    have e1 : n - 1 - a = 1 + q := by omega
    have e2 : n - 1 - (a + 1) = q := by omega
    rw [e1, e2, sumI_add]
    have c : sumI (fun i => wnd (vec (V a) (V (a + 1 + (1 + i)))) (vec (V a) (V (a + 1 + (1 + i) + 1)))) q - sumI (fun l => wnd (vec (V (a + 1)) (V (a + 1 + 1 + l))) (vec (V (a + 1)) (V (a + 1 + 1 + l + 1)))) q = wnd (vec (V a) (V (a + 2))) (vec (V (a + 1)) (V (a + 2))) - wnd (vec (V a) (V n)) (vec (V (a + 1)) (V n)) := by
      rw [← sumI_sub, hq]
      have k : sumI (fun i => wnd (vec (V a) (V (a + 1 + (1 + i)))) (vec (V a) (V (a + 1 + (1 + i) + 1))) - wnd (vec (V (a + 1)) (V (a + 1 + 1 + i))) (vec (V (a + 1)) (V (a + 1 + 1 + i + 1)))) q = sumI (fun l => (fun j => wnd (vec (V a) (V (a + 2 + j))) (vec (V (a + 1)) (V (a + 2 + j)))) l - (fun j => wnd (vec (V a) (V (a + 2 + j))) (vec (V (a + 1)) (V (a + 2 + j)))) (l + 1)) q :=
        sumI_congr fun l hl => by
          rw [show a + 1 + (1 + l) = a + 2 + l by omega, show a + 1 + 1 + l = a + 2 + l by omega]
          exact cell (h.sep a hn (show l < m by omega))
      rw [k, sum_tele]
    have f : sumI (fun l => wnd (vec (V a) (V (a + 1 + l))) (vec (V a) (V (a + 1 + l + 1)))) 1 = wnd (vec (V a) (V (a + 1))) (vec (V a) (V (a + 2))) := by simp [sumI]
    have := Kn a
    have := diag a
    omega
  have all : sumI (fun l => (fun a => sumI (fun l => wnd (vec (V (a + 1)) (V (a + 1 + 1 + l))) (vec (V (a + 1)) (V (a + 1 + 1 + l + 1)))) (n - 1 - (a + 1))) l - (fun a => sumI (fun l => wnd (vec (V (a + 1)) (V (a + 1 + 1 + l))) (vec (V (a + 1)) (V (a + 1 + 1 + l + 1)))) (n - 1 - (a + 1))) (l + 1)) (n - 2) = sumI (fun a => wnd (E V (1 + a)) (E V (1 + a + 1))) (n - 2) :=
    sumI_congr fun a ha => by
      have := row (a + 1) (by omega) (by omega)
      rw [show 1 + a = a + 1 by omega]
      exact this
  rw [sum_tele] at all
  have last : sumI (fun l => wnd (vec (V (n - 2 + 1)) (V (n - 2 + 1 + 1 + l))) (vec (V (n - 2 + 1)) (V (n - 2 + 1 + 1 + l + 1)))) (n - 1 - (n - 2 + 1)) = 0 := by
    rw [show n - 1 - (n - 2 + 1) = 0 by omega]
    rfl
  have r1 : sumI (fun l => wnd (vec (V (0 + 1)) (V (0 + 1 + 1 + l))) (vec (V (0 + 1)) (V (0 + 1 + 1 + l + 1)))) (n - 1 - (0 + 1)) = sumI (fun l => wnd (vec (V 1) (V (2 + l))) (vec (V 1) (V (2 + l + 1)))) m + wnd (vec (V 1) (V (n - 1))) (vec (V 1) (V n)) := by
    rw [show n - 1 - (0 + 1) = m + 1 by omega, show n - 1 = 2 + m by omega, show n = 2 + m + 1 by omega]
    rfl
  have c0 : sumI (fun l => wnd (vec (V 0) (V (2 + l))) (vec (V 0) (V (2 + l + 1)))) m - sumI (fun l => wnd (vec (V 1) (V (2 + l))) (vec (V 1) (V (2 + l + 1)))) m = wnd (vec (V 0) (V 2)) (vec (V 1) (V 2)) - wnd (vec (V 0) (V (n - 1))) (vec (V 1) (V (n - 1))) := by
    rw [← sumI_sub]
    have k : sumI (fun i => wnd (vec (V 0) (V (2 + i))) (vec (V 0) (V (2 + i + 1))) - wnd (vec (V 1) (V (2 + i))) (vec (V 1) (V (2 + i + 1)))) m = sumI (fun l => (fun j => wnd (vec (V 0) (V (2 + j))) (vec (V 1) (V (2 + j)))) l - (fun j => wnd (vec (V 0) (V (2 + j))) (vec (V 1) (V (2 + j)))) (l + 1)) m :=
      sumI_congr fun l hl => by
        have := cell (h.sep 0 hn hl)
        rw [Nat.zero_add] at this
        exact this
    rw [k, sum_tele, show n - 1 = 2 + m by omega]
  have z : sumI (fun l => wnd (vec (V 0) (V (2 + l))) (vec (V 0) (V (2 + l + 1)))) m = 0 := sum_zero fun l _ => H0 _
  have d0 := diag 0
  rw [Nat.zero_add, Nat.zero_add] at d0
  have h0 : wnd (vec (V 0) (V 1)) (vec (V 0) (V 2)) = 0 := H0 1
  have cut := wnd_cut (ng (E V (n - 1))) (ng (E V 0))
  have e1 : ng (E V (n - 1)) = vec (V 0) (V (n - 1)) := by
    unfold E
    rw [ng_vec, show n - 1 + 1 = n by omega, z0]
  have e2 : ng (E V 0) = vec (V 1) (V n) := by
    unfold E
    rw [ng_vec, z0]
  have e3 : ad (ng (E V (n - 1))) (ng (E V 0)) = vec (V 1) (V (n - 1)) := by
    rw [e1, e2, z0]
    exact Prod.ext (by unfold ad vec; dsimp only; omega) (by unfold ad vec; dsimp only; omega)
  rw [e3] at cut
  have total : sumI (fun k => wnd (E V k) (E V (k + 1))) n = wnd (E V 0) (E V 1) + sumI (fun a => wnd (E V (1 + a)) (E V (1 + a + 1))) (n - 2) + wnd (E V (n - 1)) (E V 0) := by
    have k1 : sumI (fun k => wnd (E V k) (E V (k + 1))) (n - 1 + 1) = sumI (fun k => wnd (E V k) (E V (k + 1))) (n - 1) + wnd (E V (n - 1)) (E V (n - 1 + 1)) := rfl
    have k2 : sumI (fun k => wnd (E V k) (E V (k + 1))) (1 + (n - 2)) = sumI (fun k => wnd (E V k) (E V (k + 1))) 1 + sumI (fun a => wnd (E V (1 + a)) (E V (1 + a + 1))) (n - 2) := sumI_add
    rw [show n - 1 + 1 = n by omega] at k1
    rw [show 1 + (n - 2) = n - 1 by omega] at k2
    have e : E V n = E V 0 := by have := E_per h 0; rwa [Nat.zero_add] at this
    rw [e] at k1
    have e' : sumI (fun k => wnd (E V k) (E V (k + 1))) 1 = wnd (E V 0) (E V 1) := by simp [sumI]
    omega
  rw [e1] at cut ⊢
  rw [e2] at cut ⊢
  omega
end
end J11
end
/- Points inside and on the boundary, and the area. -/
section
open Go.Proofs G1 G2 G3 G4 G5 G6 G7 G8 G16 G19 J1 J2 J3 J4 J5 J7 J8 J9 J10 J11
set_option maxRecDepth 100000
namespace J12
def cr (V : Nat → Pt) (k : Nat) : Int := wnd (E V k) (E V (k + 1)) + wnd (ng (E V k)) (ng (E V (k + 1)))
theorem sum_one {f : Nat → Int} {k : Nat} : ∀ {n : Nat}, k < n → (∀ i, i < n → i ≠ k → f i = 0) → sumI f n = f k
  | n + 1, hk, h => by
    simp only [sumI]
    by_cases e : k = n
    · subst e
      rw [sum_zero fun i hi => h i (by omega) (by omega)]
      omega
    · rw [sum_one (show k < n by omega) fun i hi hne => h i (by omega) hne, h n (by omega) (by omega)]
      omega
theorem rect_one {x0 y0 c : Int} {w H : Nat} {q : Pt} (hx : x0 ≤ q.1 ∧ q.1 < x0 + w) (hy : y0 ≤ q.2 ∧ q.2 < y0 + H) : rect x0 y0 w H (fun p => if q = p then c else 0) = c := by
  obtain ⟨k, hk⟩ : ∃ k : Nat, q.1 = x0 + k := ⟨(q.1 - x0).toNat, by omega⟩
  obtain ⟨j, hj⟩ : ∃ j : Nat, q.2 = y0 + j := ⟨(q.2 - y0).toNat, by omega⟩
  unfold rect
  rw [sum_one (k := j) (by omega) fun i _ hne => sum_zero fun l _ => if_neg fun e => hne (by have : q.2 = y0 + i := congrArg Prod.snd e; omega)]
  rw [sum_one (k := k) (by omega) fun i _ hne => if_neg fun e => hne (by have : q.1 = x0 + i := congrArg Prod.fst e; omega)]
  exact if_pos (Prod.ext hk hj)
theorem seg_of {a b p : Pt} (hab : a ≠ b) (h0 : crs (vec p a) (vec p b) = 0) (h1 : dot (vec p a) (vec p b) ≤ 0) : ∃ N s, Seg a b p N s := by
  refine ⟨dot (vec a b) (vec a b), dot (vec a p) (vec a b), sq_pos hab, ?_, ?_, ?_, ?_⟩
  · have e : dot (vec a p) (vec a b) = dot (vec p a) (vec p a) - dot (vec p a) (vec p b) := by unfold dot vec; grind
    have k1 := J1.sq0 (a.1 - p.1)
    have k2 := J1.sq0 (a.2 - p.2)
    have e2 : dot (vec p a) (vec p a) = (a.1 - p.1) * (a.1 - p.1) + (a.2 - p.2) * (a.2 - p.2) := rfl
    omega
  · have e : dot (vec a b) (vec a b) - dot (vec a p) (vec a b) = dot (vec p b) (vec p b) - dot (vec p a) (vec p b) := by unfold dot vec; grind
    have k1 := J1.sq0 (b.1 - p.1)
    have k2 := J1.sq0 (b.2 - p.2)
    have e2 : dot (vec p b) (vec p b) = (b.1 - p.1) * (b.1 - p.1) + (b.2 - p.2) * (b.2 - p.2) := rfl
    omega
  · unfold dot crs vec at *
    dsimp only at *
    grind
  · unfold dot crs vec at *
    dsimp only at *
    grind
theorem mid_ng {a b p : Pt} {N s : Int} (m : Mid a b p N s) : Mid (ng a) (ng b) (ng p) N s := by
  have h1 := m.e1
  have h2 := m.e2
  exact ⟨m.s0, m.sN, by unfold ng; dsimp only; grind, by unfold ng; dsimp only; grind⟩
theorem tD_two {X : Pt} (h : X ≠ (0, 0)) : tD X + tD (ng X) = 1 := by
  have : ¬(X.1 = 0 ∧ X.2 = 0) := fun e => h (Prod.ext e.1 e.2)
  unfold tD ng
  dsimp only
  repeat' split
  all_goals omega
section
variable {V : Nat → Pt} {n : Nat} (h : Sim V n)
include h
theorem E_ne (i : Nat) : E V i ≠ (0, 0) := fun e => h.ne i (by
  have h1 : (V (i + 1)).1 - (V i).1 = 0 := congrArg Prod.fst e
  have h2 : (V (i + 1)).2 - (V i).2 = 0 := congrArg Prod.snd e
  exact Prod.ext (by omega) (by omega))
theorem inj {x d : Nat} (h1 : 0 < d) (h2 : d < n) : V x ≠ V (x + d) := fun e => by
  by_cases k1 : d = 1
  · subst k1; exact h.ne x e
  by_cases k2 : d + 2 ≤ n
  · exact (onS_no.1 (h.dis x d (by omega) k2).ha).1 e
  · refine h.ne (x + d) ?_
    rw [← e, show x + d + 1 = x + n by omega, h.per]
theorem inj' {x y : Nat} (hx : x < n) (hy : y < n) (e : V (x + 1) = V (y + 1)) : x = y := by
  rcases Nat.lt_trichotomy x y with k | k | k
  · exact absurd (show V (x + 1) = V (x + 1 + (y - x)) by rw [show x + 1 + (y - x) = y + 1 by omega]; exact e) (inj h (by omega) (by omega))
  · exact k
  · exact absurd (show V (y + 1) = V (y + 1 + (x - y)) by rw [show y + 1 + (x - y) = x + 1 by omega]; exact e.symm) (inj h (by omega) (by omega))
/-- A point inside a side is none of the ring's. -/
theorem mid_ne {i : Nat} {p : Pt} {N s : Int} (m : Mid (V (i + 1)) (V (i + 2)) p N s) {d : Nat} (hd : d < n) : V (i + 1 + d) ≠ p := fun e => by
  have s0 : Seg (V (i + 1)) (V (i + 2)) p N s := ⟨by have := m.s0; have := m.sN; omega, by have := m.s0; omega, by have := m.sN; omega, m.e1, m.e2⟩
  by_cases k0 : d = 0
  · subst k0; exact m.ne_a (h.ne _) e.symm
  by_cases k1 : d = 1
  · subst k1; exact m.ne_b (h.ne _) e.symm
  by_cases k2 : d + 2 ≤ n
  · have sp := sep_of (h.ne _) (h.dis (i + 1) d (by omega) k2)
    exact no_two sp s0 (show Seg (V (i + 1 + d)) (V (i + 1 + d + 1)) p 1 0 by rw [← e]; exact Seg.at _ _)
  · have e1 : V (i + 1 + d) = V i := by rw [show i + 1 + d = i + n by omega, h.per]
    rw [e1] at e
    have := no_next (h.turn i) (show Seg (V i) (V (i + 1)) p 1 0 by rw [← e]; exact Seg.at _ _) s0
    omega
theorem mid_ne' {i : Nat} {p : Pt} {N s : Int} (m : Mid (V (i + 1)) (V (i + 2)) p N s) (k : Nat) : V k ≠ p := by
  have h3 := h.three
  have e : V k = V (i + 1 + (k + n * (i + 1) - (i + 1)) % n) := by
    have le : i + 1 ≤ n * (i + 1) := Nat.le_mul_of_pos_left _ (by omega)
    rw [per_mod h.per k, per_mod h.per (i + 1 + _), Nat.add_mod_mod, show i + 1 + (k + n * (i + 1) - (i + 1)) = k + n * (i + 1) by omega, Nat.add_mul_mod_self_left]
  rw [e]
  exact mid_ne h m (Nat.mod_lt _ (by omega))
end
section
variable {r : Pts} (hv : valV r = true)
include hv
theorem turn_sum : sumI (cr (pV r)) r.n = 2 := by
  have h := sim_val hv
  have hb := base_val hv
  have h3 := h.three
  obtain ⟨r0, _, b1, b2, i, ht, w0, w1, t0, t1⟩ := base_is h
  have k1 := hb.1 i
  have k2 := hb.2 i
  unfold base at k1 k2
  have w1' : W (nV (pV r)) r.n (nV (pV r) (i + 1)) = 0 := w1
  rw [w0, t0] at k1
  rw [w1', E_ng, E_ng, t1] at k2
  have hs := turning (sim_shift h (i + 1)) fun k => ht _
  have e1 : E (fun j => pV r (i + 1 + j)) (r.n - 1) = E (pV r) i := by
    have : E (fun j => pV r (i + 1 + j)) (r.n - 1) = E (pV r) (i + 1 + (r.n - 1)) := rfl
    rw [this, show i + 1 + (r.n - 1) = i + r.n by omega, E_per h]
  have e2 : E (fun j => pV r (i + 1 + j)) 0 = E (pV r) (i + 1) := rfl
  rw [e1, e2] at hs
  have e3 : sumI (fun k => wnd (E (fun j => pV r (i + 1 + j)) k) (E (fun j => pV r (i + 1 + j)) (k + 1))) r.n = sumI (fun k => wnd (E (pV r) k) (E (pV r) (k + 1))) r.n :=
    sum_shift (f := fun k => wnd (E (pV r) k) (E (pV r) (k + 1))) (fun k => by rw [E_per h, show k + r.n + 1 = k + 1 + r.n by omega, E_per h]) (i + 1)
  rw [e3] at hs
  have e4 : sumI (cr (pV r)) r.n = sumI (fun k => wnd (E (pV r) k) (E (pV r) (k + 1)) + wnd (E (pV r) k) (E (pV r) (k + 1)) - ((fun j => tD (E (pV r) j)) k - (fun j => tD (E (pV r) j)) (k + 1))) r.n := sumI_congr fun k _ => by
    have := wnd_two (Or.inl (h.turn' k))
    unfold cr
    dsimp only
    omega
  rw [e4, sumI_sub, sumI_adds, sum_tele]
  have e5 : E (pV r) r.n = E (pV r) 0 := by have := E_per h 0; rwa [Nat.zero_add] at this
  rw [e5]
  omega
theorem at_point (p : Pt) (hp : onB p = true) : wheV r p + 1 = W (pV r) r.n p + Wm (pV r) r.n p + sumI (fun k => if pV r (k + 1) = p then cr (pV r) k else 0) r.n := by
  have h := sim_val hv
  have hb := base_val hv
  have h3 := h.three
  have w1 := W_01 hv p
  have z0 : pV r r.n = pV r 0 := by have := h.per 0; rwa [Nat.zero_add] at this
  have onI_eq : ∀ i, i < r.n → onI r (dbP p) i = (decide (4 * crs (vec p (pV r i)) (vec p (pV r (i + 1))) = 0) && decide (4 * dot (vec p (pV r i)) (vec p (pV r (i + 1))) ≤ 0)) := fun i hi => by
    unfold onI onE
    rw [dbl_vec, dbl_vec, pV_nxt, pV_lt hi, Nat.mod_eq_of_lt hi]
    have e1 : crs (sm 2 (vec p (r.p i))) (sm 2 (vec p (nxt r i))) = 4 * crs (vec p (r.p i)) (vec p (nxt r i)) := by unfold crs sm; grind
    have e2 : dot (sm 2 (vec p (r.p i))) (sm 2 (vec p (nxt r i))) = 4 * dot (vec p (r.p i)) (vec p (nxt r i)) := by unfold dot sm; grind
    rw [e1, e2]
  cases hon : onV r (dbP p) with
  | false =>
    have off : ∀ i, i < r.n → crs (vec p (pV r i)) (vec p (pV r (i + 1))) ≠ 0 ∨ 0 < dot (vec p (pV r i)) (vec p (pV r (i + 1))) := fun i hi => by
      have k := orB_false.1 hon i hi
      rw [onI_eq i hi, Bool.and_eq_false_iff, decide_eq_false_iff_not, decide_eq_false_iff_not] at k
      omega
    have e1 : W (pV r) r.n p - Wm (pV r) r.n p = 0 := by
      rw [Wm_eq]
      unfold W
      rw [← sumI_sub]
      have k : sumI (fun i => wd (pV r) p i - wm (pV r) p i) r.n = sumI (fun i => (fun j => tD (vec p (pV r j))) i - (fun j => tD (vec p (pV r j))) (i + 1)) r.n := sumI_congr fun i hi => wnd_two (off i hi)
      rw [k, sum_tele, z0]
      omega
    have e2 : sumI (fun k => if pV r (k + 1) = p then cr (pV r) k else 0) r.n = 0 := sum_zero fun i hi => if_neg fun e => by
      have k := off i hi
      rw [e] at k
      have x1 : crs (vec p (pV r i)) (vec p p) = 0 := crs_0r _ _
      have x2 : dot (vec p (pV r i)) (vec p p) = 0 := by unfold dot vec; grind
      omega
    rw [e2]
    have e3 : wheV r p = if W (pV r) r.n p = 0 then -1 else 1 := by
      unfold wheV outV insV
      rw [hv, hp, hon, wdV_W]
      by_cases k : W (pV r) r.n p = 0
      · rw [k]; rfl
      · rw [if_neg k, decide_eq_false k]; rfl
    rw [e3]
    split <;> omega
  | true =>
    have e0 : wheV r p = 0 := by
      unfold wheV outV insV
      rw [hv, hp, hon, Bool.not_true, Bool.and_false, Bool.and_false]
      rfl
    rw [e0]
    have vertex : ∀ j, j < r.n → p = pV r (j + 1) → 0 + 1 = W (pV r) r.n p + Wm (pV r) r.n p + sumI (fun k => if pV r (k + 1) = p then cr (pV r) k else 0) r.n := fun j hj e => by
      have s1 : sumI (fun k => if pV r (k + 1) = p then cr (pV r) k else 0) r.n = cr (pV r) j := by
        rw [sum_one hj fun i hi hne => if_neg fun e' => hne (inj' h hi hj (e'.trans e)), if_pos e.symm]
      have b1 := hb.1 j
      have b2 := hb.2 j
      unfold base at b1 b2
      have b3 : W (nV (pV r)) r.n (nV (pV r) (j + 1)) = Wm (pV r) r.n p := by rw [e]; rfl
      rw [b3, E_ng, E_ng] at b2
      rw [← e] at b1
      have t := tD_two (E_ne h j)
      rw [s1]
      unfold cr
      omega
    obtain ⟨i, hi, ki⟩ := orB_true.1 hon
    rw [onI_eq i hi, Bool.and_eq_true, decide_eq_true_eq, decide_eq_true_eq] at ki
    obtain ⟨N, s, sg⟩ := seg_of (h.ne i) (by omega) (show dot (vec p (pV r i)) (vec p (pV r (i + 1))) ≤ 0 by omega)
    by_cases s0 : s = 0
    · subst s0
      by_cases i0 : i = 0
      · refine vertex (r.n - 1) (by omega) ?_
        rw [show r.n - 1 + 1 = r.n by omega, z0, ← i0]
        exact sg.first
      · refine vertex (i - 1) (by omega) ?_
        rw [show i - 1 + 1 = i by omega]
        exact sg.first
    by_cases sN : s = N
    · subst sN
      exact vertex i hi sg.last
    have m0 := sg.mid s0 sN
    have m : Mid (pV r (i + r.n - 1 + 1)) (pV r (i + r.n - 1 + 2)) p N s := by
      rw [show i + r.n - 1 + 1 = i + r.n by omega, show i + r.n - 1 + 2 = i + 1 + r.n by omega, h.per, h.per]
      exact m0
    have s1 : sumI (fun k => if pV r (k + 1) = p then cr (pV r) k else 0) r.n = 0 := sum_zero fun k _ => if_neg (mid_ne' h m _)
    have x1 := mid h _ m
    have x2 : W (nV (pV r)) r.n (ng p) = _ := mid (sim_ng h) (i + r.n - 1) (mid_ng m)
    rw [hb.1] at x1
    rw [hb.2, E_ng] at x2
    have t := tD_two (E_ne h (i + r.n - 1 + 1))
    unfold Wm
    rw [s1]
    omega
/-- Pick's theorem. -/
theorem pick {w H : Nat} (hw : (hiI r r.n).1 = (loI r r.n).1 + w) (hH : (hiI r r.n).2 = (loI r r.n).2 + H) :
    sumI (fun k : Nat => sumI (fun j : Nat => wheV r ((loI r r.n).1 + (k : Int), (loI r r.n).2 + (j : Int)) + 1) (H + 1)) (w + 1) = twV r + 2 := by
  have h := sim_val hv
  have h3 := h.three
  have hb := box_in (r := r) (by omega)
  have hon := (val_ok hv).1.2
  have grid : ∀ k : Nat, 0 ≤ (pV r k).1 ∧ (pV r k).1 ≤ 32767 ∧ 0 ≤ (pV r k).2 ∧ (pV r k).2 ≤ 32767 := fun k => onB_iff.1 (hon _ (Nat.mod_lt k (by omega)))
  have e := area h.per (x0 := (loI r r.n).1) (y0 := (loI r r.n).2) (w := w + 1) (H := H + 1) fun k => by have := hb k; omega
  rw [← tw_val] at e
  have lo : 0 ≤ (loI r r.n).1 ∧ (hiI r r.n).1 ≤ 32767 ∧ 0 ≤ (loI r r.n).2 ∧ (hiI r r.n).2 ≤ 32767 := by
    have : ∀ m, m ≤ r.n → 0 ≤ (loI r m).1 ∧ (hiI r m).1 ≤ 32767 ∧ 0 ≤ (loI r m).2 ∧ (hiI r m).2 ≤ 32767 := fun m => by
      induction m with
      | zero =>
        intro _
        have := onB_iff.1 (hon 0 (by omega))
        exact this
      | succ m ih =>
        intro hm
        have k := ih (by omega)
        have := onB_iff.1 (hon m (by omega))
        unfold loI hiI minP maxP
        dsimp only
        omega
    exact this _ (Nat.le_refl _)
  have e1 : rect (loI r r.n).1 (loI r r.n).2 (w + 1) (H + 1) (fun p => wheV r p + 1) = _ :=
    (rect_congr (G := fun p => (W (pV r) r.n p + Wm (pV r) r.n p) + sumI (fun k => if pV r (k + 1) = p then cr (pV r) k else 0) r.n) fun k j hk hj => at_point hv _ (onB_iff.2 (by dsimp only; omega))).trans
      (rect_add (F := fun p => W (pV r) r.n p + Wm (pV r) r.n p) (G := fun p => sumI (fun k => if pV r (k + 1) = p then cr (pV r) k else 0) r.n))
  have e3 : rect (loI r r.n).1 (loI r r.n).2 (w + 1) (H + 1) (fun p => W (pV r) r.n p + Wm (pV r) r.n p) = _ := rect_add (F := W (pV r) r.n) (G := Wm (pV r) r.n)
  rw [e3, e, rect_sum (F := fun k p => if pV r (k + 1) = p then cr (pV r) k else 0)] at e1
  have e2 : sumI (fun i => rect (loI r r.n).1 (loI r r.n).2 (w + 1) (H + 1) ((fun k p => if pV r (k + 1) = p then cr (pV r) k else 0) i)) r.n = sumI (cr (pV r)) r.n :=
    sumI_congr fun i _ => rect_one (by have := hb (i + 1); omega) (by have := hb (i + 1); omega)
  rw [e2, turn_sum hv] at e1
  unfold rect at e1
  rw [sum_swap (f := fun j k : Nat => wheV r ((loI r r.n).1 + (k : Int), (loI r r.n).2 + (j : Int)) + 1)] at e1
  omega
end
end J12
end
