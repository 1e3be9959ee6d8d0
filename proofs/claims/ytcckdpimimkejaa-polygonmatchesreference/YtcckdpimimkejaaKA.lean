/- A part of the proof: see the last text. -/
import Derived.Test.YtcckdpimimkejaaJB
import Derived.Test.YtcckdpimimkejaaG13
/- Closed rings that do not meet: windings are the same along each of them; the way to the right. -/
section
open Go.Proofs G1 G2 G3 G4 G16 G19 J1 J2 J3 J4 J5 J6 J7
set_option maxRecDepth 100000
namespace K1
/-- For all great numbers. -/
def Ev (P : Int → Prop) : Prop := ∃ B : Int, ∀ N, B ≤ N → P N
theorem Ev.and {P Q : Int → Prop} (h : Ev P) (k : Ev Q) : Ev fun N => P N ∧ Q N := by
  obtain ⟨A, ha⟩ := h
  obtain ⟨B, hb⟩ := k
  exact ⟨max A B, fun N hN => ⟨ha N (by omega), hb N (by omega)⟩⟩
theorem Ev.mono {P Q : Int → Prop} (h : Ev P) (k : ∀ N, P N → Q N) : Ev Q := by
  obtain ⟨A, ha⟩ := h
  exact ⟨A, fun N hN => k N (ha N hN)⟩
theorem Ev.of {P : Int → Prop} (h : ∀ N, P N) : Ev P := ⟨0, fun N _ => h N⟩
theorem Ev.ge (B : Int) : Ev fun N => B ≤ N := ⟨B, fun _ h => h⟩
theorem Ev.all {P : Nat → Int → Prop} : ∀ {n : Nat}, (∀ k, k < n → Ev (P k)) → Ev fun N => ∀ k, k < n → P k N
  | 0, _ => Ev.of fun _ k h => absurd h (by omega)
  | n + 1, h => by
    refine ((Ev.all (n := n) fun k hk => h k (by omega)).and (h n (by omega))).mono ?_
    rintro N ⟨h1, h2⟩ k hk
    by_cases e : k = n
    · rw [e]; exact h2
    · exact h1 k (by omega)
theorem Ev.ex {P : Int → Prop} (h : Ev P) : ∃ N, 0 < N ∧ P N := by
  obtain ⟨A, ha⟩ := h
  exact ⟨max A 1, by omega, ha _ (by omega)⟩
theorem lin_pos {N x y : Int} (h : 0 < x) (h0 : 0 ≤ N) (h1 : -y < N) : 0 < N * x + y := by
  have k := Int.mul_nonneg h0 (show 0 ≤ x - 1 by omega)
  have e : N * (x - 1) = N * x - N := by grind
  omega
theorem Ev.lin {x : Int} (y : Int) (h : 0 < x) : Ev fun N => 0 < N * x + y := ⟨max 0 (1 - y), fun N hN => lin_pos h (by omega) (by omega)⟩
theorem Ev.lin_neg {x : Int} (y : Int) (h : x < 0) : Ev fun N => N * x + y < 0 := (Ev.lin (x := -x) (-y) (by omega)).mono fun N k => by
  have e : N * -x = -(N * x) := by grind
  omega
/-- A closed ring. -/
structure Cl (V : Nat → Pt) (n : Nat) : Prop where
  pos : 0 < n
  per : ∀ i, V (i + n) = V i
theorem cl_of {V : Nat → Pt} {n : Nat} (h : Sim V n) : Cl V n := ⟨by have := h.three; omega, h.per⟩
theorem Cl.sm {V : Nat → Pt} {n : Nat} (h : Cl V n) (M : Int) : Cl (sV M V) n := ⟨h.pos, fun i => congrArg (J2.sm M) (h.per i)⟩
theorem Cl.wd_per {V : Nat → Pt} {n : Nat} (h : Cl V n) (p : Pt) (i : Nat) : wd V p (i + n) = wd V p i := by
  unfold wd
  rw [h.per, show i + n + 1 = i + 1 + n by omega, h.per]
theorem Cl.mod {V : Nat → Pt} {n : Nat} (h : Cl V n) (i : Nat) : V i = V (i % n) ∧ V (i + 1) = V (i % n + 1) :=
  ⟨per_mod h.per i, by rw [per_mod h.per (i + 1), per_mod h.per (i % n + 1), Nat.mod_add_mod]⟩
theorem Cl.lt {V : Nat → Pt} {n : Nat} (h : Cl V n) (i : Nat) : i % n < n := Nat.mod_lt _ h.pos
/-- Each side is one of those from a place on. -/
theorem Cl.find {V : Nat → Pt} {n : Nat} (h : Cl V n) (i j : Nat) : ∃ l, l < n ∧ V j = V (i + l) ∧ V (j + 1) = V (i + l + 1) := by
  have le : i ≤ n * i := Nat.le_mul_of_pos_left _ h.pos
  refine ⟨(j + n * i - i) % n, h.lt _, ?_, ?_⟩
  · have e := (h.mod j).1
    have e2 := (h.mod (i + (j + n * i - i) % n)).1
    rw [Nat.add_mod_mod, show i + (j + n * i - i) = j + n * i by omega, Nat.add_mul_mod_self_left] at e2
    rw [e, e2]
  · have e := (h.mod j).2
    have e2 := (h.mod (i + (j + n * i - i) % n)).2
    rw [Nat.add_mod_mod, show i + (j + n * i - i) = j + n * i by omega, Nat.add_mul_mod_self_left] at e2
    rw [e, e2]
theorem sep_sym {a b c d : Pt} (h : Sep a b c d) : Sep c d a b := by
  obtain ⟨n, h1, h2, h3, h4⟩ := h
  have e : ∀ p q, dot (ng n) (vec p q) = dot n (vec q p) := fun p q => by unfold dot ng vec; grind
  exact ⟨ng n, by rw [e]; exact h1, by rw [e]; exact h4, by rw [e]; exact h3, by rw [e]; exact h2⟩
theorem sep_sm {M : Int} (hM : 0 < M) {a b c d : Pt} (h : Sep a b c d) : Sep (sm M a) (sm M b) (sm M c) (sm M d) := by
  obtain ⟨n, h1, h2, h3, h4⟩ := h
  have e : ∀ p q, dot n (vec (sm M p) (sm M q)) = M * dot n (vec p q) := fun p q => by unfold dot sm vec; grind
  exact ⟨n, by rw [e]; exact Int.mul_pos hM h1, by rw [e]; exact Int.mul_pos hM h2, by rw [e]; exact Int.mul_pos hM h3, by rw [e]; exact Int.mul_pos hM h4⟩
theorem sep_swap {a b c d : Pt} (h : Sep a b c d) : Sep b a c d := by
  obtain ⟨n, h1, h2, h3, h4⟩ := h
  exact ⟨n, h4, h3, h2, h1⟩
theorem sep_seg {a b c d q : Pt} {N s : Int} (h : Sep a b c d) (m : Seg a b q N s) : Sep a q c d := by
  obtain ⟨n, h1, h2, h3, h4⟩ := h
  exact ⟨n, h1, h2, m.pos h2 h3, m.pos h1 h4⟩
section
variable {V : Nat → Pt} {n : Nat} (h : Cl V n)
include h
/-- The windings about two points are the same where no side separates them. -/
theorem two_all {a b : Pt} (hs : ∀ k, k < n → Sep a b (V k) (V (k + 1))) : W V n a = W V n b := by
  have e : W V n a - W V n b = 0 := by
    unfold W
    rw [← sumI_sub]
    have k : sumI (fun l => wd V a l - wd V b l) n = sumI (fun l => (fun j => wnd (vec a (V j)) (vec b (V j))) l - (fun j => wnd (vec a (V j)) (vec b (V j))) (l + 1)) n :=
      sumI_congr fun l hl => cell (hs l hl)
    rw [k, sum_tele]
    have z : V n = V 0 := by have := h.per 0; rwa [Nat.zero_add] at this
    rw [z]
    omega
  omega
/-- All sides but one. -/
theorem two_but {a b : Pt} (i : Nat) (hs : ∀ l, l + 1 < n → Sep a b (V (i + 1 + l)) (V (i + 1 + l + 1))) :
    (W V n a - wd V a i) - (W V n b - wd V b i) = wnd (vec a (V (i + 1))) (vec b (V (i + 1))) - wnd (vec a (V i)) (vec b (V i)) := by
  obtain ⟨m, hm⟩ : ∃ m, n = 1 + m := ⟨n - 1, by have := h.pos; omega⟩
  have e : ∀ p, W V n p - wd V p i = sumI (fun l => wd V p (i + 1 + l)) m := fun p => by
    unfold W
    rw [← sum_shift (h.wd_per p) i]
    have e0 : sumI (fun k => wd V p (i + k)) n = sumI (fun k => wd V p (i + k)) 1 + sumI (fun k => wd V p (i + (1 + k))) m := by rw [hm]; exact sumI_add
    have e1 : sumI (fun k => wd V p (i + k)) 1 = wd V p i := by simp [sumI]
    have e2 : sumI (fun k => wd V p (i + (1 + k))) m = sumI (fun l => wd V p (i + 1 + l)) m := sumI_congr fun l _ => by rw [Nat.add_assoc]
    omega
  rw [e, e, ← sumI_sub]
  have k : sumI (fun l => wd V a (i + 1 + l) - wd V b (i + 1 + l)) m = sumI (fun l => (fun j => wnd (vec a (V (i + 1 + j))) (vec b (V (i + 1 + j)))) l - (fun j => wnd (vec a (V (i + 1 + j))) (vec b (V (i + 1 + j)))) (l + 1)) m :=
    sumI_congr fun l hl => cell (hs l (by omega))
  rw [k, sum_tele]
  have z : V (i + 1 + m) = V i := by rw [show i + 1 + m = i + n by omega, h.per]
  rw [z]
theorem common : ∃ M : Int, 0 < M ∧ ∀ k, (V (k + 1)).2 = (V k).2 ∨ ∃ c, M = c * ((V (k + 1)).2 - (V k).2) := by
  have h3 := h.pos
  have p0 := prod_ne (f := fac V) (n := n) fun k _ => fac_ne V k
  refine ⟨prodI (fac V) n * prodI (fac V) n, ?_, fun k => ?_⟩
  · rcases Int.lt_or_gt_of_ne p0 with k | k
    · have := Int.mul_pos (show 0 < -prodI (fac V) n by omega) (show 0 < -prodI (fac V) n by omega)
      rwa [Int.neg_mul_neg] at this
    · exact Int.mul_pos k k
  · by_cases e : (V (k + 1)).2 = (V k).2
    · exact Or.inl e
    · refine Or.inr ?_
      have e1 : fac V (k % n) = (V (k + 1)).2 - (V k).2 := by
        have e2 : V (k % n) = V k := (per_mod h.per k).symm
        have e3 : V (k % n + 1) = V (k + 1) := by rw [per_mod h.per (k + 1), per_mod h.per (k % n + 1), Nat.mod_add_mod]
        unfold fac
        rw [e2, e3, if_neg e]
      obtain ⟨c, hc⟩ := prod_dvd (f := fac V) (Nat.mod_lt k (show 0 < n by omega))
      rw [e1] at hc
      refine ⟨prodI (fac V) n * c, ?_⟩
      rw [Int.mul_assoc]
      rw [Int.mul_comm c, ← hc]
theorem bound_x : ∃ B : Int, ∀ k, (V k).1 < B := by
  obtain ⟨B, hB⟩ := bound (fun k => (V k).1) n
  exact ⟨B, fun k => by rw [per_mod h.per k]; exact hB _ (h.lt k)⟩
omit h in
/-- To the right of all there is no winding. -/
theorem W_right {p : Pt} (hB : ∀ k, (V k).1 ≤ p.1) : W V n p = 0 := sum_zero fun k _ => by
  have k1 : (vec p (V k)).1 ≤ 0 := by have := hB k; unfold vec; dsimp only; omega
  have k2 : (vec p (V (k + 1))).1 ≤ 0 := by have := hB (k + 1); unfold vec; dsimp only; omega
  unfold wd
  generalize vec p (V k) = X at *
  generalize vec p (V (k + 1)) = Y at *
  have c : crs X Y = X.1 * Y.2 - X.2 * Y.1 := rfl
  unfold wnd
  split
  · rename_i h
    exfalso
    have l1 := Int.mul_nonneg (show 0 ≤ -X.1 by omega) (Int.le_of_lt h.2.1)
    have l2 := Int.mul_nonneg (show 0 ≤ -X.2 by omega) (show 0 ≤ -Y.1 by omega)
    rw [Int.neg_mul_neg] at l2
    rw [Int.neg_mul] at l1
    omega
  · split
    · rename_i h
      exfalso
      have l1 := Int.mul_nonneg (show 0 ≤ -X.1 by omega) (show 0 ≤ -Y.2 by omega)
      have l2 := Int.mul_nonneg (Int.le_of_lt h.1) (show 0 ≤ -Y.1 by omega)
      rw [Int.neg_mul_neg] at l1
      rw [Int.mul_neg] at l2
      omega
    · rfl
end
theorem grid_mul {V : Nat → Pt} {M c : Int} (hc : ∀ k, (V (k + 1)).2 = (V k).2 ∨ ∃ c, M = c * ((V (k + 1)).2 - (V k).2)) {M' : Int} (e : M' = c * M) (x y : Int) : Grid (sV M' V) (x, M' * y) := fun k => by
  rcases hc k with e1 | ⟨b, e1⟩
  · exact Or.inl (congrArg (M' * ·) e1)
  · refine Or.inr ⟨c * b * ((V (k + 1)).1 - (V k).1) * (y - (V k).2) - (x - M' * (V k).1), ?_⟩
    have e2 : M' = c * b * ((V (k + 1)).2 - (V k).2) := by rw [e, e1, Int.mul_assoc]
    unfold ar crs vec sV sm
    dsimp only
    grind
/-- Two closed rings that do not meet. -/
def Apt (A C : Nat → Pt) : Prop := ∀ i j, Sep (A i) (A (i + 1)) (C j) (C (j + 1))
theorem Apt.sym {A C : Nat → Pt} (h : Apt A C) : Apt C A := fun i j => sep_sym (h j i)
theorem Apt.sm {A C : Nat → Pt} (h : Apt A C) {M : Int} (hM : 0 < M) : Apt (sV M A) (sV M C) := fun i j => sep_sm hM (h i j)
section
variable {A C : Nat → Pt} {n m : Nat} (hA : Cl A n) (hC : Cl C m) (hd : Apt A C)
include hC hd
theorem Apt.same (i : Nat) : W C m (A i) = W C m (A 0) := by
  induction i with
  | zero => rfl
  | succ i ih => rw [← ih]; exact (two_all hC fun k _ => hd i k).symm
theorem Apt.on {i : Nat} {q : Pt} {N s : Int} (hq : Seg (A i) (A (i + 1)) q N s) : W C m q = W C m (A 0) := by
  rw [← hd.same hC i]
  exact (two_all hC fun k _ => sep_seg (hd i k) hq).symm
include hA
/-- The way to the right. -/
theorem ray (p : Pt) : W A n p = W A n (C 0) ∨ W C m p = W C m (A 0) ∨ (W A n p = 0 ∧ W C m p = 0) := by
  obtain ⟨M1, p1, c1⟩ := common hA
  obtain ⟨M2, p2, c2⟩ := common hC
  have hM := Int.mul_pos p1 p2
  have hd' := hd.sm hM
  have hA' := hA.sm (M1 * M2)
  have hC' := hC.sm (M1 * M2)
  obtain ⟨B1, b1⟩ := bound_x hA'
  obtain ⟨B2, b2⟩ := bound_x hC'
  have gA : ∀ x, Grid (sV (M1 * M2) A) (x, M1 * M2 * p.2) := fun x => grid_mul c1 (Int.mul_comm M1 M2) x p.2
  have gC : ∀ x, Grid (sV (M1 * M2) C) (x, M1 * M2 * p.2) := fun x => grid_mul c2 rfl x p.2
  have main : ∀ t : Nat, ∀ x : Int, max B1 B2 - x ≤ t → W (sV (M1 * M2) A) n (x, M1 * M2 * p.2) = W (sV (M1 * M2) A) n (sV (M1 * M2) C 0) ∨ W (sV (M1 * M2) C) m (x, M1 * M2 * p.2) = W (sV (M1 * M2) C) m (sV (M1 * M2) A 0) ∨ (W (sV (M1 * M2) A) n (x, M1 * M2 * p.2) = 0 ∧ W (sV (M1 * M2) C) m (x, M1 * M2 * p.2) = 0) := fun t => by
    induction t with
    | zero =>
      intro x hx
      refine Or.inr (Or.inr ⟨W_right fun k => ?_, W_right fun k => ?_⟩)
      · have := b1 k; dsimp only; omega
      · have := b2 k; dsimp only; omega
    | succ t ih =>
      intro x hx
      have ih' := ih (x + 1) (by omega)
      by_cases ka : ∀ k, wd (sV (M1 * M2) A) (x, M1 * M2 * p.2) k = wd (sV (M1 * M2) A) (x + 1, M1 * M2 * p.2) k
      · have ea : W (sV (M1 * M2) A) n (x, M1 * M2 * p.2) = W (sV (M1 * M2) A) n (x + 1, M1 * M2 * p.2) := sumI_congr fun k _ => ka k
        by_cases kc : ∀ k, wd (sV (M1 * M2) C) (x, M1 * M2 * p.2) k = wd (sV (M1 * M2) C) (x + 1, M1 * M2 * p.2) k
        · have ec : W (sV (M1 * M2) C) m (x, M1 * M2 * p.2) = W (sV (M1 * M2) C) m (x + 1, M1 * M2 * p.2) := sumI_congr fun k _ => kc k
          rw [ea, ec]
          exact ih'
        · obtain ⟨k, hk⟩ := Classical.not_forall.1 kc
          obtain ⟨⟨N, s, hs⟩, _⟩ := hits (p := (x, M1 * M2 * p.2)) (q := (x + 1, M1 * M2 * p.2)) rfl (gC _) k hk
          exact Or.inl (ea.trans (hd'.sym.on hA' hs))
      · obtain ⟨k, hk⟩ := Classical.not_forall.1 ka
        obtain ⟨⟨N, s, hs⟩, _⟩ := hits (p := (x, M1 * M2 * p.2)) (q := (x + 1, M1 * M2 * p.2)) rfl (gA _) k hk
        refine Or.inr (Or.inl ?_)
        have kc : ∀ j, wd (sV (M1 * M2) C) (x, M1 * M2 * p.2) j = wd (sV (M1 * M2) C) (x + 1, M1 * M2 * p.2) j := fun j => by
          refine Classical.byContradiction fun hj => ?_
          obtain ⟨⟨N', s', hs'⟩, _⟩ := hits (p := (x, M1 * M2 * p.2)) (q := (x + 1, M1 * M2 * p.2)) rfl (gC _) j hj
          exact no_two (hd' k j) hs hs'
        have ec : W (sV (M1 * M2) C) m (x, M1 * M2 * p.2) = W (sV (M1 * M2) C) m (x + 1, M1 * M2 * p.2) := sumI_congr fun k _ => kc k
        exact ec.trans (hd'.on hC' hs)
  have k := main (max B1 B2 - M1 * M2 * p.1).toNat (M1 * M2 * p.1) (by omega)
  have e1 : W (sV (M1 * M2) A) n (M1 * M2 * p.1, M1 * M2 * p.2) = W A n p := W_sm hM A n p
  have e2 : W (sV (M1 * M2) C) m (M1 * M2 * p.1, M1 * M2 * p.2) = W C m p := W_sm hM C m p
  have e3 : W (sV (M1 * M2) A) n (sV (M1 * M2) C 0) = W A n (C 0) := W_sm hM A n (C 0)
  have e4 : W (sV (M1 * M2) C) m (sV (M1 * M2) A 0) = W C m (A 0) := W_sm hM C m (A 0)
  rw [e1, e2, e3, e4] at k
  exact k
end
end K1
end
/- Points that are not on a ring, and those inside a side: what is near them. -/
section
open Go.Proofs G1 G2 G3 G4 G11 G16 G19 J1 J2 J3 J4 J5 J6 J7 J12 K1
set_option maxRecDepth 100000
namespace K2
theorem ad_z (X : Pt) : ad X (0, 0) = X := Prod.ext (Int.add_zero _) (Int.add_zero _)
theorem seg_on {p a b : Pt} (h : onS p a b = true) : ∃ N s, Seg a b p N s := by
  rcases onS_iff.1 h with rfl | rfl | ⟨h1, h2⟩
  · exact ⟨1, 0, Seg.at _ _⟩
  · exact ⟨1, 1, by omega, by omega, by omega, by omega, by omega⟩
  · refine seg_of (fun e => ?_) ?_ (by omega)
    · subst e
      have k1 := J1.sq0 (a.1 - p.1)
      have k2 := J1.sq0 (a.2 - p.2)
      unfold dot vec at h2
      dsimp only at h2
      omega
    · rw [← h1]; unfold ar crs vec; grind
theorem on_seg {p a b : Pt} {N s : Int} (m : Seg a b p N s) : onS p a b = true := by
  rw [← Bool.not_eq_false, onS_no]
  rintro ⟨h1, h2, h3⟩
  have h4 := h3 m.lin
  have hs0 : s ≠ 0 := fun e => by subst e; exact h1 m.first
  have hsN : s ≠ N := fun e => by subst e; exact h2 m.last
  have e : N * N * dot (vec p a) (vec p b) = -(s * (N - s) * dot (vec a b) (vec a b)) := by
    have e1 := m.e1
    have e2 := m.e2
    unfold dot vec
    dsimp only
    grind
  have k1 := Int.mul_nonneg (Int.mul_nonneg (Int.le_of_lt m.N0) (Int.le_of_lt m.N0)) h4
  have k2 : 0 < s * (N - s) := Int.mul_pos (by have := m.s0; omega) (by have := m.sN; omega)
  by_cases hab : a = b
  · subst hab
    have e1 := m.e1
    have e2 := m.e2
    rw [Int.sub_self, Int.mul_zero] at e1 e2
    have := m.N0
    have f1 := Int.mul_eq_zero.1 e1
    have f2 := Int.mul_eq_zero.1 e2
    exact h1 (Prod.ext (by omega) (by omega))
  · have k3 := Int.mul_pos k2 (sq_pos hab)
    omega
/-- Where all is on one side of the point. -/
theorem off_of {ν p a b : Pt} (h1 : 0 < dot ν (vec p a)) (h2 : 0 < dot ν (vec p b)) : onS p a b = false := by
  rw [← Bool.not_eq_true]
  intro h
  obtain ⟨N, s, m⟩ := seg_on h
  have e : ∀ q, dot (ng ν) (vec q p) = dot ν (vec p q) := fun q => by unfold dot ng vec; grind
  have k := m.pos (n := ng ν) (t := p) (by rw [e]; exact h1) (by rw [e]; exact h2)
  have z : dot (ng ν) (vec p p) = 0 := by unfold dot vec; grind
  omega
theorem sep_off {p q a b : Pt} (h : Sep p q a b) : onS p a b = false ∧ onS q a b = false := by
  obtain ⟨ν, h1, h2, h3, h4⟩ := h
  exact ⟨off_of h1 h2, off_of h4 h3⟩
theorem off_sep {p a b : Pt} (h : onS p a b = false) : Sep p p a b := by
  by_cases hab : a = b
  · subst hab
    obtain ⟨h1, _, _⟩ := onS_no.1 h
    exact ⟨vec p a, sq_pos h1, sq_pos h1, sq_pos h1, sq_pos h1⟩
  · obtain ⟨h1, h2, _⟩ := onS_no.1 h
    have z : ∀ c : Pt, ar p p c = 0 := fun c => by unfold ar crs vec; grind
    refine sep_of hab ⟨h, h, ?_, ?_, fun k => ?_⟩
    · exact onS_no.2 ⟨fun e => h1 e.symm, fun e => h1 e.symm, fun _ => Int.le_of_lt (sq_pos fun e => h1 e.symm)⟩
    · exact onS_no.2 ⟨fun e => h2 e.symm, fun e => h2 e.symm, fun _ => Int.le_of_lt (sq_pos fun e => h2 e.symm)⟩
    · have := k.1
      rw [z, z] at this
      unfold opp at this
      omega
theorem dot_near (ν a c u t : Pt) (N : Int) : dot ν (vec (ad (sm N a) u) (ad (sm N c) t)) = N * dot ν (vec a c) + (dot ν t - dot ν u) := by unfold dot vec ad sm; grind
/-- What is separated stays so. -/
theorem ev_sep {a b c d : Pt} (h : Sep a b c d) (u1 u2 u3 u4 : Pt) : Ev fun N => Sep (ad (sm N a) u1) (ad (sm N b) u2) (ad (sm N c) u3) (ad (sm N d) u4) := by
  obtain ⟨ν, h1, h2, h3, h4⟩ := h
  refine ((((Ev.lin (dot ν u3 - dot ν u1) h1).and (Ev.lin (dot ν u4 - dot ν u1) h2)).and (Ev.lin (dot ν u4 - dot ν u2) h3)).and (Ev.lin (dot ν u3 - dot ν u2) h4)).mono ?_
  rintro N ⟨⟨⟨k1, k2⟩, k3⟩, k4⟩
  exact ⟨ν, by rw [dot_near]; exact k1, by rw [dot_near]; exact k2, by rw [dot_near]; exact k3, by rw [dot_near]; exact k4⟩
/-- A point that is on no side. -/
def Off (V : Nat → Pt) (p : Pt) : Prop := ∀ k, onS p (V k) (V (k + 1)) = false
theorem off_lt {V : Nat → Pt} {n : Nat} (h : Cl V n) {p : Pt} (k : ∀ i, i < n → onS p (V i) (V (i + 1)) = false) : Off V p := fun i => by
  have e := h.mod i
  rw [e.1, e.2]
  exact k _ (h.lt i)
section
variable {V : Nat → Pt} {n : Nat}
theorem near_off (h : Cl V n) {p : Pt} (hp : Off V p) (v : Pt) : Ev fun N => Off (sV N V) (ad (sm N p) v) ∧ W (sV N V) n (ad (sm N p) v) = W V n p := by
  have k := Ev.all (n := n) (P := fun k N => Sep (ad (sm N p) (0, 0)) (ad (sm N p) v) (ad (sm N (V k)) (0, 0)) (ad (sm N (V (k + 1))) (0, 0))) fun k _ => ev_sep (off_sep (hp k)) _ _ _ _
  refine (k.and (Ev.ge 1)).mono ?_
  rintro N ⟨h1, h2⟩
  have h1' : ∀ k, k < n → Sep (sm N p) (ad (sm N p) v) (sV N V k) (sV N V (k + 1)) := fun k hk => by
    have := h1 k hk
    rwa [ad_z, ad_z, ad_z] at this
  refine ⟨off_lt (h.sm N) fun i hi => (sep_off (h1' i hi)).2, ?_⟩
  rw [← two_all (h.sm N) h1', W_sm (by omega)]
/-- Scaled. -/
theorem off_sm {p : Pt} {M : Int} (hM : 0 < M) (h : Off V p) : Off (sV M V) (sm M p) := fun k => onS_sm hM (h k)
theorem off_sm' {p : Pt} {M : Int} (h : Off (sV M V) (sm M p)) : Off V p := fun k => by
  rw [← Bool.not_eq_true]
  intro e
  obtain ⟨N, s, m⟩ := seg_on e
  have := on_seg (a := sm M (V k)) (b := sm M (V (k + 1))) (p := sm M p) (N := N) (s := s) ⟨m.N0, m.s0, m.sN, by have := m.e1; unfold sm; dsimp only; grind, by have := m.e2; unfold sm; dsimp only; grind⟩
  have k2 := h k
  unfold sV at k2
  rw [this] at k2
  cases k2
end
/-! ### Beside a side -/
theorem beside {X v : Pt} (h : crs X v ≠ 0) : tD X - wnd X (ng v) + wnd (ng X) (ng v) = if 0 < crs X v then 1 else 0 := by
  have e1 : crs X (ng v) = -crs X v := by unfold crs ng; grind
  have e2 : crs (ng X) (ng v) = crs X v := by unfold crs ng; grind
  have na : (ng X).2 = -X.2 := rfl
  have nv : (ng v).2 = -v.2 := rfl
  have c : crs X v = X.1 * v.2 - X.2 * v.1 := rfl
  have z1 : X.2 = 0 → crs X v = X.1 * v.2 := fun k => by rw [c, k]; omega
  have z2 : v.2 = 0 → crs X v = -(X.2 * v.1) := fun k => by rw [c, k]; omega
  have y1 : 0 < X.1 * v.2 → same X.1 v.2 := same_mul
  have y2 : 0 < X.1 * -v.2 → same X.1 (-v.2) := same_mul
  rw [Int.mul_neg] at y2
  unfold same at y1 y2
  unfold wnd tD
  rw [e1, e2, na, nv]
  generalize crs X v = x at *
  clear c
  repeat' split
  all_goals omega
section
variable {V : Nat → Pt} {n : Nat} (h : Sim V n)
include h
/-- A point inside a side is on no other one. -/
theorem mid_other {i : Nat} {x : Pt} {N s : Int} (m : Mid (V (i + 1)) (V (i + 2)) x N s) {l : Nat} (hl : l + 1 < n) : onS x (V (i + 2 + l)) (V (i + 2 + l + 1)) = false := by
  rw [← Bool.not_eq_true]
  intro e
  obtain ⟨N', s', m'⟩ := seg_on e
  have s0 : Seg (V (i + 1)) (V (i + 2)) x N s := ⟨by have := m.s0; have := m.sN; omega, by have := m.s0; omega, by have := m.sN; omega, m.e1, m.e2⟩
  by_cases k0 : l = 0
  · subst k0
    have := (no_next (h.turn (i + 1)) s0 m').1
    have := m.sN
    omega
  by_cases k1 : l + 2 = n
  · have e1 : V (i + 2 + l) = V i := by rw [show i + 2 + l = i + n by omega, h.per]
    have e2 : V (i + 2 + l + 1) = V (i + 1) := by rw [show i + 2 + l + 1 = i + 1 + n by omega, h.per]
    rw [e1, e2] at m'
    have := (no_next (h.turn i) m' s0).2
    have := m.s0
    omega
  · have d := sep_of (h.ne _) (h.dis (i + 1) (l + 1) (by omega) (by omega))
    rw [show i + 1 + (l + 1) = i + 2 + l by omega] at d
    exact no_two d s0 m'
/-- To the left of a side is the inside. -/
theorem near_mid (hb : ∀ i, base V n i = 0) {i : Nat} {x : Pt} {N₀ s : Int} (m : Mid (V (i + 1)) (V (i + 2)) x N₀ s) {v : Pt} (hv : crs (E V (i + 1)) v ≠ 0) :
    Ev fun N => Off (sV N V) (ad (sm N x) v) ∧ W (sV N V) n (ad (sm N x) v) = if 0 < crs (E V (i + 1)) v then 1 else 0 := by
  have c := cl_of h
  have k := Ev.all (n := n - 1) (P := fun l N => Sep (ad (sm N x) (0, 0)) (ad (sm N x) v) (ad (sm N (V (i + 2 + l))) (0, 0)) (ad (sm N (V (i + 2 + l + 1))) (0, 0))) fun l hl => ev_sep (off_sep (mid_other h m (by omega))) _ _ _ _
  refine (k.and (Ev.ge 1)).mono ?_
  rintro N ⟨h1, h2⟩
  have hN : 0 < N := by omega
  have h1' : ∀ l, l + 1 < n → Sep (sm N x) (ad (sm N x) v) (sV N V (i + 1 + 1 + l)) (sV N V (i + 1 + 1 + l + 1)) := fun l hl => by
    have := h1 l (by omega)
    rwa [ad_z, ad_z, ad_z] at this
  have n0 : 0 < N₀ := by have := m.s0; have := m.sN; omega
  have hlin := m.lin
  have c0 : ar (sV N V (i + 1)) (sV N V (i + 1 + 1)) (ad (sm N x) v) = N * crs (E V (i + 1)) v := by
    have : ar (sV N V (i + 1)) (sV N V (i + 1 + 1)) (ad (sm N x) v) = N * crs (E V (i + 1)) v + N * N * ar (V (i + 1)) (V (i + 2)) x := by unfold E ar crs sV sm ad vec; rw [show i + 1 + 1 = i + 2 from rfl]; dsimp only; grind
    rw [this, hlin]
    omega
  have c1 : N * crs (E V (i + 1)) v ≠ 0 := Int.mul_ne_zero (by omega) hv
  refine ⟨fun j => ?_, ?_⟩
  · -- on no side
    obtain ⟨l, hl, e1, e2⟩ := (c.sm N).find (i + 1) j
    rw [e1, e2]
    match l, hl with
    | 0, _ =>
      rw [← Bool.not_eq_true]
      intro e
      obtain ⟨N', s', m'⟩ := seg_on e
      have := m'.lin
      rw [Nat.add_zero] at this
      rw [c0] at this
      exact c1 this
    | l + 1, hl =>
      have := (sep_off (h1' l hl)).2
      rwa [show i + 1 + 1 + l = i + 1 + (l + 1) by omega] at this
  have t := two_but (c.sm N) (i + 1) h1'
  have w0 : W (sV N V) n (sm N x) = tD (E V (i + 1)) := by rw [W_sm hN, J3.mid h i m, hb]; omega
  have a0 : wd (sV N V) (sm N x) (i + 1) = 0 := wnd_zero _ _ (by
    have : crs (vec (sm N x) (sV N V (i + 1))) (vec (sm N x) (sV N V (i + 1 + 1))) = N * N * ar (V (i + 1)) (V (i + 2)) x := by unfold ar crs sV sm vec; grind
    rw [this, hlin]
    omega)
  have eP : sm N₀ (vec (sm N x) (sV N V (i + 1))) = sm (N * s) (ng (E V (i + 1))) := by
    have h1 := m.e1
    have h2 := m.e2
    refine Prod.ext ?_ ?_ <;> (unfold sm ng E vec sV sm; dsimp only; grind)
  have eQ : sm N₀ (vec (sm N x) (sV N V (i + 1 + 1))) = sm (N * (N₀ - s)) (E V (i + 1)) := by
    have h1 := m.e1
    have h2 := m.e2
    refine Prod.ext ?_ ?_ <;> (unfold sm E vec sV sm; dsimp only; grind)
  have vP : vec (ad (sm N x) v) (sV N V (i + 1)) = ad (vec (sm N x) (sV N V (i + 1))) (ng v) := Prod.ext (by unfold vec ad ng; dsimp only; omega) (by unfold vec ad ng; dsimp only; omega)
  have vQ : vec (ad (sm N x) v) (sV N V (i + 1 + 1)) = ad (vec (sm N x) (sV N V (i + 1 + 1))) (ng v) := Prod.ext (by unfold vec ad ng; dsimp only; omega) (by unfold vec ad ng; dsimp only; omega)
  have wb : wd (sV N V) (ad (sm N x) v) (i + 1) = wnd (ad (vec (sm N x) (sV N V (i + 1))) (ng v)) (ad (vec (sm N x) (sV N V (i + 1 + 1))) (ng v)) := by unfold wd; rw [vP, vQ]
  rw [vP, vQ, wb, w0, a0] at t
  have pN : 0 < N * s := Int.mul_pos hN m.s0
  have pM : 0 < N * (N₀ - s) := Int.mul_pos hN (by have := m.sN; omega)
  have b1 := wnd_cut (vec (sm N x) (sV N V (i + 1))) (ng v)
  have b2 := wnd_cut (vec (sm N x) (sV N V (i + 1 + 1))) (ng v)
  have f1 : wnd (vec (sm N x) (sV N V (i + 1))) (ng v) = wnd (ng (E V (i + 1))) (ng v) := by rw [← wnd_sml n0, eP, wnd_sml pN]
  have f2 : wnd (vec (sm N x) (sV N V (i + 1 + 1))) (ng v) = wnd (E V (i + 1)) (ng v) := by rw [← wnd_sml n0, eQ, wnd_sml pM]
  have b3 := wnd_cut (sm (N₀ - s) (ad (vec (sm N x) (sV N V (i + 1))) (ng v))) (sm s (ad (vec (sm N x) (sV N V (i + 1 + 1))) (ng v)))
  have e3 : ad (sm (N₀ - s) (ad (vec (sm N x) (sV N V (i + 1))) (ng v))) (sm s (ad (vec (sm N x) (sV N V (i + 1 + 1))) (ng v))) = sm N₀ (ng v) := by
    have h1 := m.e1
    have h2 := m.e2
    refine Prod.ext ?_ ?_ <;> (unfold sm ng vec sV ad sm; dsimp only; grind)
  have pS : 0 < N₀ - s := by have := m.sN; omega
  rw [e3, wnd_sml pS, wnd_sml pS, wnd_sm n0, wnd_sm m.s0, wnd_sml n0, wnd_sm m.s0] at b3
  have b4 := wnd_anti (ng v) (ad (vec (sm N x) (sV N V (i + 1 + 1))) (ng v))
  have b5 := beside hv
  omega
end
end K2
end
/- A ring beside a ring. -/
section
open Go.Proofs G1 G2 G3 G4 G11 G16 G19 J1 J2 J3 J4 J5 J6 J7 J12 K1 K2
set_option maxRecDepth 100000
namespace K3
/-- At a corner, to the right of both sides. -/
def wv (V : Nat → Pt) (i : Nat) : Pt := if 0 < crs (E V i) (E V (i + 1)) then vec (E V (i + 1)) (E V i) else vec (E V i) (E V (i + 1))
/-- The ring to the right (1) or to the left (-1). -/
def oV (σ N : Int) (V : Nat → Pt) (i : Nat) : Pt := ad (sm N (V (i + 1))) (sm σ (wv V i))
theorem sm_sm (M N : Int) (p : Pt) : sm M (sm N p) = sm (M * N) p := Prod.ext (by unfold sm; dsimp only; grind) (by unfold sm; dsimp only; grind)
theorem sV_sV (M N : Int) (V : Nat → Pt) : sV M (sV N V) = sV (M * N) V := funext fun i => sm_sm M N (V i)
theorem E_sm (M : Int) (V : Nat → Pt) (i : Nat) : E (sV M V) i = sm M (E V i) := vec_sm _ _ _
theorem crs_sm (M : Int) (X Y : Pt) : crs (sm M X) (sm M Y) = M * M * crs X Y := by unfold crs sm; grind
theorem wv_sm {M : Int} (hM : 0 < M) (V : Nat → Pt) (i : Nat) : wv (sV M V) i = sm M (wv V i) := by
  have k := (mul_sign hM (crs (E V i) (E V (i + 1)))).1
  unfold wv
  rw [E_sm, E_sm, crs_sm]
  by_cases c : 0 < crs (E V i) (E V (i + 1))
  · rw [if_pos c, if_pos (k.2 c), vec_sm]
  · rw [if_neg c, if_neg fun e => c (k.1 e), vec_sm]
theorem oV_sm {M : Int} (hM : 0 < M) (σ N : Int) (V : Nat → Pt) : oV σ N (sV M V) = sV M (oV σ N V) := funext fun i => by
  unfold oV
  rw [wv_sm hM]
  unfold sV ad sm
  refine Prod.ext ?_ ?_ <;> (dsimp only; grind)
section
variable {V : Nat → Pt} {n : Nat} (h : Sim V n)
include h
theorem wv_r (i : Nat) : crs (E V i) (wv V i) < 0 ∧ crs (E V (i + 1)) (wv V i) < 0 := by
  have t := h.turn' i
  have e1 : crs (E V i) (vec (E V (i + 1)) (E V i)) = -crs (E V i) (E V (i + 1)) := by unfold crs vec; grind
  have e2 : crs (E V (i + 1)) (vec (E V (i + 1)) (E V i)) = -crs (E V i) (E V (i + 1)) := by unfold crs vec; grind
  have e3 : crs (E V i) (vec (E V i) (E V (i + 1))) = crs (E V i) (E V (i + 1)) := by unfold crs vec; grind
  have e4 : crs (E V (i + 1)) (vec (E V i) (E V (i + 1))) = crs (E V i) (E V (i + 1)) := by unfold crs vec; grind
  unfold wv
  split
  · rw [e1, e2]; omega
  · rw [e3, e4]; omega
theorem cl_oV (σ N : Int) : Cl (oV σ N V) n := ⟨(cl_of h).pos, fun i => by
  have e1 : E V (i + n) = E V i := by unfold E; rw [h.per, show i + n + 1 = i + 1 + n by omega, h.per]
  have e2 : E V (i + n + 1) = E V (i + 1) := by unfold E; rw [show i + n + 1 = i + 1 + n by omega, h.per, show i + 1 + n + 1 = i + 1 + 1 + n by omega, h.per]
  unfold oV wv
  rw [e1, e2, show i + n + 1 = i + 1 + n by omega, h.per]⟩
/-- A normal. -/
def nr (σ : Int) (U : Pt) : Pt := (σ * U.2, -(σ * U.1))
omit h in
theorem dot_nr (σ : Int) (U X : Pt) : dot (nr σ U) X = -(σ * crs U X) := by unfold dot nr crs; grind
omit h in
theorem nr_sep {σ : Int} {U a b c d : Pt} (h1 : 0 < -(σ * crs U (vec a c))) (h2 : 0 < -(σ * crs U (vec a d))) (h3 : 0 < -(σ * crs U (vec b d))) (h4 : 0 < -(σ * crs U (vec b c))) : Sep a b c d :=
  ⟨nr σ U, by rw [dot_nr]; exact h1, by rw [dot_nr]; exact h2, by rw [dot_nr]; exact h3, by rw [dot_nr]; exact h4⟩
theorem sep_own {σ N : Int} (hσ : σ = 1 ∨ σ = -1) (i : Nat) : Sep (sV N V (i + 1)) (sV N V (i + 2)) (oV σ N V i) (oV σ N V (i + 1)) := by
  have k1 := (wv_r h i).2
  have k2 := (wv_r h (i + 1)).1
  have ss : σ * σ = 1 := by rcases hσ with rfl | rfl <;> rfl
  have f1 : -(σ * crs (E V (i + 1)) (vec (sV N V (i + 1)) (oV σ N V i))) = -crs (E V (i + 1)) (wv V i) := by unfold oV sV crs vec ad sm; grind
  have f2 : -(σ * crs (E V (i + 1)) (vec (sV N V (i + 1)) (oV σ N V (i + 1)))) = -crs (E V (i + 1)) (wv V (i + 1)) := by unfold oV sV crs vec ad sm E vec; grind
  have f3 : -(σ * crs (E V (i + 1)) (vec (sV N V (i + 2)) (oV σ N V (i + 1)))) = -crs (E V (i + 1)) (wv V (i + 1)) := by unfold oV sV crs vec ad sm E vec; grind
  have f4 : -(σ * crs (E V (i + 1)) (vec (sV N V (i + 2)) (oV σ N V i))) = -crs (E V (i + 1)) (wv V i) := by unfold oV sV crs vec ad sm E vec; grind
  exact nr_sep (by rw [f1]; omega) (by rw [f2]; omega) (by rw [f3]; omega) (by rw [f4]; omega)
theorem sep_next {σ : Int} (hσ : σ = 1 ∨ σ = -1) (i : Nat) : Ev fun N => Sep (sV N V (i + 2)) (sV N V (i + 3)) (oV σ N V i) (oV σ N V (i + 1)) := by
  have k1 := (wv_r h i).2
  have k2 := wv_r h (i + 1)
  have t := h.turn' (i + 1)
  rw [show i + 1 + 1 = i + 2 from rfl] at k2 t
  have ss : σ * σ = 1 := by rcases hσ with rfl | rfl <;> rfl
  by_cases c : 0 < σ * crs (E V (i + 1)) (E V (i + 2))
  · refine (Ev.ge 0).mono fun N hN => ?_
    have kn := Int.mul_nonneg hN (Int.le_of_lt c)
    have f1 : -(σ * crs (E V (i + 1)) (vec (sV N V (i + 2)) (oV σ N V i))) = -crs (E V (i + 1)) (wv V i) := by unfold oV sV crs vec ad sm E vec; grind
    have f2 : -(σ * crs (E V (i + 1)) (vec (sV N V (i + 2)) (oV σ N V (i + 1)))) = -crs (E V (i + 1)) (wv V (i + 1)) := by unfold oV sV crs vec ad sm E vec; grind
    have f3 : -(σ * crs (E V (i + 1)) (vec (sV N V (i + 3)) (oV σ N V (i + 1)))) = -crs (E V (i + 1)) (wv V (i + 1)) + N * (σ * crs (E V (i + 1)) (E V (i + 2))) := by unfold oV sV crs vec ad sm E vec; grind
    have f4 : -(σ * crs (E V (i + 1)) (vec (sV N V (i + 3)) (oV σ N V i))) = -crs (E V (i + 1)) (wv V i) + N * (σ * crs (E V (i + 1)) (E V (i + 2))) := by unfold oV sV crs vec ad sm E vec; grind
    exact nr_sep (by rw [f1]; omega) (by rw [f2]; omega) (by rw [f3]; omega) (by rw [f4]; omega)
  · have c' : 0 < -(σ * crs (E V (i + 1)) (E V (i + 2))) := by
      have : σ * crs (E V (i + 1)) (E V (i + 2)) ≠ 0 := Int.mul_ne_zero (by omega) t
      omega
    refine (Ev.lin (-crs (E V (i + 2)) (wv V i)) c').mono fun N hN => ?_
    have f1 : -(σ * crs (E V (i + 2)) (vec (sV N V (i + 2)) (oV σ N V i))) = N * -(σ * crs (E V (i + 1)) (E V (i + 2))) + -crs (E V (i + 2)) (wv V i) := by unfold oV sV crs vec ad sm E vec; grind
    have f2 : -(σ * crs (E V (i + 2)) (vec (sV N V (i + 2)) (oV σ N V (i + 1)))) = -crs (E V (i + 2)) (wv V (i + 1)) := by unfold oV sV crs vec ad sm E vec; grind
    have f3 : -(σ * crs (E V (i + 2)) (vec (sV N V (i + 3)) (oV σ N V (i + 1)))) = -crs (E V (i + 2)) (wv V (i + 1)) := by unfold oV sV crs vec ad sm E vec; grind
    have f4 : -(σ * crs (E V (i + 2)) (vec (sV N V (i + 3)) (oV σ N V i))) = N * -(σ * crs (E V (i + 1)) (E V (i + 2))) + -crs (E V (i + 2)) (wv V i) := by unfold oV sV crs vec ad sm E vec; grind
    exact nr_sep (by rw [f1]; omega) (by rw [f2]; omega) (by rw [f3]; omega) (by rw [f4]; omega)
theorem sep_prev {σ : Int} (hσ : σ = 1 ∨ σ = -1) (i : Nat) : Ev fun N => Sep (sV N V i) (sV N V (i + 1)) (oV σ N V i) (oV σ N V (i + 1)) := by
  have k1 := wv_r h i
  have k2 := (wv_r h (i + 1)).1
  have t := h.turn' i
  have ss : σ * σ = 1 := by rcases hσ with rfl | rfl <;> rfl
  by_cases c : 0 < σ * crs (E V i) (E V (i + 1))
  · refine (Ev.ge 0).mono fun N hN => ?_
    have kn := Int.mul_nonneg hN (Int.le_of_lt c)
    have f1 : -(σ * crs (E V (i + 1)) (vec (sV N V i) (oV σ N V i))) = -crs (E V (i + 1)) (wv V i) + N * (σ * crs (E V i) (E V (i + 1))) := by unfold oV sV crs vec ad sm E vec; grind
    have f2 : -(σ * crs (E V (i + 1)) (vec (sV N V i) (oV σ N V (i + 1)))) = -crs (E V (i + 1)) (wv V (i + 1)) + N * (σ * crs (E V i) (E V (i + 1))) := by unfold oV sV crs vec ad sm E vec; grind
    have f3 : -(σ * crs (E V (i + 1)) (vec (sV N V (i + 1)) (oV σ N V (i + 1)))) = -crs (E V (i + 1)) (wv V (i + 1)) := by unfold oV sV crs vec ad sm E vec; grind
    have f4 : -(σ * crs (E V (i + 1)) (vec (sV N V (i + 1)) (oV σ N V i))) = -crs (E V (i + 1)) (wv V i) := by unfold oV sV crs vec ad sm E vec; grind
    exact nr_sep (by rw [f1]; omega) (by rw [f2]; omega) (by rw [f3]; omega) (by rw [f4]; omega)
  · have c' : 0 < -(σ * crs (E V i) (E V (i + 1))) := by
      have : σ * crs (E V i) (E V (i + 1)) ≠ 0 := Int.mul_ne_zero (by omega) t
      omega
    refine (Ev.lin (-crs (E V i) (wv V (i + 1))) c').mono fun N hN => ?_
    have f1 : -(σ * crs (E V i) (vec (sV N V i) (oV σ N V i))) = -crs (E V i) (wv V i) := by unfold oV sV crs vec ad sm E vec; grind
    have f2 : -(σ * crs (E V i) (vec (sV N V i) (oV σ N V (i + 1)))) = N * -(σ * crs (E V i) (E V (i + 1))) + -crs (E V i) (wv V (i + 1)) := by unfold oV sV crs vec ad sm E vec; grind
    have f3 : -(σ * crs (E V i) (vec (sV N V (i + 1)) (oV σ N V (i + 1)))) = N * -(σ * crs (E V i) (E V (i + 1))) + -crs (E V i) (wv V (i + 1)) := by unfold oV sV crs vec ad sm E vec; grind
    have f4 : -(σ * crs (E V i) (vec (sV N V (i + 1)) (oV σ N V i))) = -crs (E V i) (wv V i) := by unfold oV sV crs vec ad sm E vec; grind
    exact nr_sep (by rw [f1]; omega) (by rw [f2]; omega) (by rw [f3]; omega) (by rw [f4]; omega)
theorem apt_oV {σ : Int} (hσ : σ = 1 ∨ σ = -1) : Ev fun N => Apt (sV N V) (oV σ N V) := by
  have h3 := h.three
  have c := cl_of h
  have k : Ev fun N => ∀ i, i < n → ∀ l, l < n → Sep (sV N V (i + 1 + l)) (sV N V (i + 1 + l + 1)) (oV σ N V i) (oV σ N V (i + 1)) := by
    refine Ev.all fun i _ => Ev.all fun l hl => ?_
    by_cases l0 : l = 0
    · subst l0; exact Ev.of fun N => sep_own h hσ i
    by_cases l1 : l = 1
    · subst l1; exact sep_next h hσ i
    by_cases l2 : l + 1 = n
    · refine (sep_prev h hσ i).mono fun N k => ?_
      have e1 : sV N V (i + 1 + l) = sV N V i := by rw [show i + 1 + l = i + n by omega]; exact (c.sm N).per i
      have e2 : sV N V (i + 1 + l + 1) = sV N V (i + 1) := by rw [show i + 1 + l + 1 = i + 1 + n by omega]; exact (c.sm N).per (i + 1)
      rw [e1, e2]
      exact k
    · have d := sep_sym (sep_of (h.ne _) (h.dis (i + 1) l (by omega) (by omega)))
      refine (ev_sep d (0, 0) (0, 0) (sm σ (wv V i)) (sm σ (wv V (i + 1)))).mono fun N k => ?_
      rw [ad_z, ad_z] at k
      exact k
  refine k.mono fun N k i j => ?_
  have cj := (cl_oV h σ N).mod j
  obtain ⟨l, hl, e1, e2⟩ := (c.sm N).find (j % n + 1) i
  rw [e1, e2, cj.1, cj.2]
  exact k _ (c.lt j) l hl
/-- A point that is on no side: the ring beside winds as the ring does. -/
theorem near_oV (σ : Int) {p : Pt} (hp : Off V p) : Ev fun N => W (oV σ N V) n (sm N p) = W V n p := by
  have c := cl_of h
  have k : Ev fun N => ∀ k, k < n → ∃ ν, (0 < dot ν (vec (sm N p) (sV N V (k + 1))) ∧ 0 < dot ν (vec (sm N p) (sV N V (k + 2)))) ∧ 0 < dot ν (vec (sm N p) (oV σ N V k)) ∧ 0 < dot ν (vec (sm N p) (oV σ N V (k + 1))) := by
    refine Ev.all fun k _ => ?_
    obtain ⟨ν, h1, h2, _, _⟩ := off_sep (hp (k + 1))
    refine (((Ev.lin 0 h1).and (Ev.lin 0 h2)).and ((Ev.lin (dot ν (sm σ (wv V k))) h1).and (Ev.lin (dot ν (sm σ (wv V (k + 1)))) h2))).mono ?_
    rintro N ⟨⟨k1, k2⟩, k3, k4⟩
    have e1 : dot ν (vec (sm N p) (sV N V (k + 1))) = N * dot ν (vec p (V (k + 1))) + 0 := by unfold sV dot vec sm; grind
    have e2 : dot ν (vec (sm N p) (sV N V (k + 2))) = N * dot ν (vec p (V (k + 1 + 1))) + 0 := by unfold sV dot vec sm; grind
    have e3 : dot ν (vec (sm N p) (oV σ N V k)) = N * dot ν (vec p (V (k + 1))) + dot ν (sm σ (wv V k)) := by unfold oV ad dot vec sm; grind
    have e4 : dot ν (vec (sm N p) (oV σ N V (k + 1))) = N * dot ν (vec p (V (k + 1 + 1))) + dot ν (sm σ (wv V (k + 1))) := by unfold oV ad dot vec sm; grind
    exact ⟨ν, ⟨by rw [e1]; exact k1, by rw [e2]; exact k2⟩, by rw [e3]; exact k3, by rw [e4]; exact k4⟩
  refine (k.and (Ev.ge 1)).mono ?_
  rintro N ⟨k, hN⟩
  have e0 : W V n p = sumI (fun k => wd (sV N V) (sm N p) (1 + k)) n := by
    rw [← W_sm (M := N) (by omega) V n p]
    unfold W
    exact (sum_shift ((c.sm N).wd_per (sm N p)) 1).symm
  have e : sumI (fun k => wd (sV N V) (sm N p) (1 + k)) n - W (oV σ N V) n (sm N p) = 0 := by
    unfold W
    rw [← sumI_sub]
    have k' : sumI (fun l => wd (sV N V) (sm N p) (1 + l) - wd (oV σ N V) (sm N p) l) n = sumI (fun l => (fun j => wnd (vec (sm N p) (sV N V (j + 1))) (vec (sm N p) (oV σ N V j))) l - (fun j => wnd (vec (sm N p) (sV N V (j + 1))) (vec (sm N p) (oV σ N V j))) (l + 1)) n :=
      sumI_congr fun l hl => by
        obtain ⟨ν, ⟨h1, h2⟩, h3, h4⟩ := k l hl
        unfold wd
        rw [Nat.add_comm 1 l]
        show wnd _ _ - wnd _ _ = wnd (vec (sm N p) (sV N V (l + 1))) (vec (sm N p) (oV σ N V l)) - wnd (vec (sm N p) (sV N V (l + 2))) (vec (sm N p) (oV σ N V (l + 1)))
        rw [wnd_half h1 h2, wnd_half h3 h4, wnd_half h1 h3, wnd_half h2 h4]
        split <;> omega
    rw [k', sum_tele]
    have z1 : sV N V (n + 1) = sV N V (0 + 1) := by rw [Nat.add_comm n 1]; exact (c.sm N).per 1
    have z2 : oV σ N V n = oV σ N V 0 := by have := (cl_oV h σ N).per 0; rwa [Nat.zero_add] at this
    rw [z1, z2]
    omega
  omega
end
end K3
end
/- What a ring that avoids the outside (or the inside) of another one winds about. -/
section
open Go.Proofs G1 G2 G3 G4 G11 G16 G19 J1 J2 J3 J4 J5 J6 J7 J12 K1 K2 K3
set_option maxRecDepth 100000
namespace K4
theorem seg_sm {a b q : Pt} {N s : Int} (M : Int) (m : Seg a b q N s) : Seg (sm M a) (sm M b) (sm M q) N s :=
  ⟨m.N0, m.s0, m.sN, by have := m.e1; unfold sm; dsimp only; grind, by have := m.e2; unfold sm; dsimp only; grind⟩
theorem sm_one (p : Pt) : sm 1 p = p := Prod.ext (Int.one_mul _) (Int.one_mul _)
theorem at_one (A : Nat → Pt) (k : Nat) : Seg (sV 1 A k) (sV 1 A (k + 1)) (A k) 1 0 := by
  unfold sV
  rw [sm_one, sm_one]
  exact Seg.at _ _
/-- Two segments that are not apart have a common point. -/
theorem meet {a b c d : Pt} (h : ¬ Dis a b c d) : ∃ M q, 0 < M ∧ (∃ N s, Seg (sm M a) (sm M b) q N s) ∧ ∃ N s, Seg (sm M c) (sm M d) q N s := by
  have at1 : ∀ {p q r : Pt}, onS p q r = true → ∃ N s, Seg (sm 1 q) (sm 1 r) (sm 1 p) N s := fun k => by
    obtain ⟨N, s, m⟩ := seg_on k
    exact ⟨N, s, seg_sm 1 m⟩
  have endA : ∀ p q : Pt, ∃ N s, Seg (sm 1 p) (sm 1 q) (sm 1 p) N s := fun p q => ⟨1, 0, Seg.at _ _⟩
  have endB : ∀ p q : Pt, ∃ N s, Seg (sm 1 p) (sm 1 q) (sm 1 q) N s := fun p q => ⟨1, 1, by omega, by omega, by omega, by omega, by omega⟩
  by_cases h1 : onS a c d = true
  · exact ⟨1, sm 1 a, by omega, endA a b, at1 h1⟩
  by_cases h2 : onS b c d = true
  · exact ⟨1, sm 1 b, by omega, endB a b, at1 h2⟩
  by_cases h3 : onS c a b = true
  · exact ⟨1, sm 1 c, by omega, at1 h3, endA c d⟩
  by_cases h4 : onS d a b = true
  · exact ⟨1, sm 1 d, by omega, at1 h4, endB c d⟩
  by_cases hx : opp (ar a b c) (ar a b d) ∧ opp (ar c d a) (ar c d b)
  · have lin : ar a b c - ar a b d + ar c d a - ar c d b = 0 := by unfold ar crs vec; grind
    have i1 : (ar c d a - ar c d b) * a.1 + ar c d a * (b.1 - a.1) = (ar c d a - ar c d b) * c.1 - ar a b c * (d.1 - c.1) := by unfold ar crs vec; grind
    have i2 : (ar c d a - ar c d b) * a.2 + ar c d a * (b.2 - a.2) = (ar c d a - ar c d b) * c.2 - ar a b c * (d.2 - c.2) := by unfold ar crs vec; grind
    obtain ⟨o1, o2⟩ := hx
    unfold opp at o1 o2
    generalize ar c d a = x at *
    generalize ar c d b = y at *
    generalize ar a b c = z at *
    generalize ar a b d = t at *
    by_cases k : 0 < x
    · refine ⟨x - y, ((x - y) * a.1 + x * (b.1 - a.1), (x - y) * a.2 + x * (b.2 - a.2)), by omega, ⟨x - y, x, by omega, by omega, by omega, ?_, ?_⟩, x - y, -z, by omega, by omega, by omega, ?_, ?_⟩ <;> (unfold sm; dsimp only; grind)
    · refine ⟨y - x, ((y - x) * a.1 + -x * (b.1 - a.1), (y - x) * a.2 + -x * (b.2 - a.2)), by omega, ⟨y - x, -x, by omega, by omega, by omega, ?_, ?_⟩, y - x, z, by omega, by omega, by omega, ?_, ?_⟩ <;> (unfold sm; dsimp only; grind)
  · exact absurd ⟨Bool.not_eq_true _ ▸ h1, Bool.not_eq_true _ ▸ h2, Bool.not_eq_true _ ▸ h3, Bool.not_eq_true _ ▸ h4, hx⟩ h
def Avoid (β : Int) (A V : Nat → Pt) (n : Nat) : Prop := ∀ M : Int, 0 < M → ∀ i q N s, Seg (sV M A i) (sV M A (i + 1)) q N s → Off (sV M V) q → W (sV M V) n q ≠ β
/-- The winding outside (1) or inside (-1). -/
def bet (σ : Int) : Int := if 0 < σ then 0 else 1
theorem max_at (f : Nat → Int) : ∀ n, 0 < n → ∃ j, j < n ∧ ∀ i, i < n → f i ≤ f j
  | 0, h => absurd h (by omega)
  | 1, _ => ⟨0, by omega, fun i hi => by obtain rfl : i = 0 := by omega
                                         omega⟩
  | n + 2, _ => by
    obtain ⟨j, hj, h⟩ := max_at f (n + 1) (by omega)
    by_cases k : f (n + 1) ≤ f j
    · refine ⟨j, by omega, fun i hi => ?_⟩
      by_cases e : i = n + 1
      · rw [e]; exact k
      · exact h i (by omega)
    · refine ⟨n + 1, by omega, fun i hi => ?_⟩
      by_cases e : i = n + 1
      · rw [e]; omega
      · have := h i (by omega)
        omega
section
variable {V : Nat → Pt} {n : Nat} (h : Sim V n)
include h
theorem right : ∃ i, i < n ∧ ∀ k, (V k).1 ≤ (V (i + 1)).1 := by
  have c := cl_of h
  obtain ⟨j, hj, k⟩ := max_at (fun i => (V (i + 1)).1) n c.pos
  refine ⟨j, hj, fun i => ?_⟩
  have e : V i = V ((i + n - 1) % n + 1) := by
    rw [← (c.mod (i + n - 1)).2, show i + n - 1 + 1 = i + n by have := c.pos; omega, h.per]
  rw [e]
  exact k _ (c.lt _)
variable (hb : ∀ i, base V n i = 0)
include hb
theorem right_turn {i : Nat} (hi : ∀ k, (V k).1 ≤ (V (i + 1)).1) : 0 < (wv V i).1 := by
  have w := W_right (n := n) hi
  have b := hb i
  have t := h.turn' i
  unfold base at b
  rw [w] at b
  have t1 : 0 ≤ (E V i).1 := by have := hi i; unfold E vec; dsimp only; omega
  have u1 : (E V (i + 1)).1 ≤ 0 := by have := hi (i + 1 + 1); unfold E vec; dsimp only; omega
  have key : 0 < crs (E V i) (E V (i + 1)) := by
    refine Classical.byContradiction fun hn => ?_
    have c : crs (E V i) (E V (i + 1)) = (E V i).1 * (E V (i + 1)).2 - (E V i).2 * (E V (i + 1)).1 := rfl
    have y1 : 0 < (E V i).2 → 0 < (E V (i + 1)).2 → 0 ≤ crs (E V i) (E V (i + 1)) := fun a1 a2 => by
      have l1 := Int.mul_nonneg t1 (Int.le_of_lt a2)
      have l2 := Int.mul_nonneg (Int.le_of_lt a1) (show 0 ≤ -(E V (i + 1)).1 by omega)
      rw [Int.mul_neg] at l2
      omega
    have y2 : (E V i).1 = 0 → (E V i).2 = 0 → crs (E V i) (E V (i + 1)) = 0 := fun a1 a2 => by
      rw [c, a1, a2]
      omega
    unfold wnd tD at b
    generalize crs (E V i) (E V (i + 1)) = x at *
    clear c
    revert b
    repeat' split
    all_goals omega
  have z : ¬((E V i).1 = 0 ∧ (E V (i + 1)).1 = 0) := fun ⟨a1, a2⟩ => by
    unfold crs at key
    rw [a1, a2] at key
    omega
  unfold wv
  rw [if_pos key]
  unfold vec
  dsimp only
  omega
/-- The winding of the ring about the ring beside it. -/
theorem kap {σ : Int} (hσ : σ = 1 ∨ σ = -1) : Ev fun N => ∀ j, W (sV N V) n (oV σ N V j) = bet σ := by
  have h2 := sim_sm (M := 2) (by omega) h
  have hb2 : ∀ i, base (sV 2 V) n i = 0 := fun i => (base_sm (by omega) V n i).trans (hb i)
  have m : Mid (sV 2 V (0 + 1)) (sV 2 V (0 + 2)) (ad (V 1) (V 2)) 2 1 := ⟨by omega, by omega, by show 2 * ((V 1).1 + (V 2).1 - 2 * (V 1).1) = 1 * (2 * (V 2).1 - 2 * (V 1).1); omega, by show 2 * ((V 1).2 + (V 2).2 - 2 * (V 1).2) = 1 * (2 * (V 2).2 - 2 * (V 1).2); omega⟩
  have k1 := (wv_r h 0).2
  have k2 := (wv_r h 1).1
  rw [show 0 + 1 = 1 from rfl] at k1
  have ec : crs (E (sV 2 V) (0 + 1)) (sm σ (ad (wv V 0) (wv V 1))) = 2 * (σ * (crs (E V 1) (wv V 0) + crs (E V 1) (wv V 1))) := by
    rw [E_sm]
    unfold crs sm ad
    grind
  have hs : crs (E (sV 2 V) (0 + 1)) (sm σ (ad (wv V 0) (wv V 1))) ≠ 0 := by
    rw [ec]
    rcases hσ with rfl | rfl <;> omega
  have hs' : (if 0 < crs (E (sV 2 V) (0 + 1)) (sm σ (ad (wv V 0) (wv V 1))) then 1 else 0 : Int) = bet σ := by
    rw [ec]
    unfold bet
    rcases hσ with rfl | rfl
    · rw [if_neg (by omega), if_pos (by omega)]
    · rw [if_pos (by omega), if_neg (by omega)]
  refine (((near_mid h2 hb2 m hs).and (apt_oV h hσ)).and (Ev.ge 1)).mono ?_
  rintro N ⟨⟨⟨_, e⟩, hd⟩, hN⟩ j
  have c := (cl_of h).sm N
  have sg : Seg (sV 2 (oV σ N V) 0) (sV 2 (oV σ N V) (0 + 1)) (ad (sm N (ad (V 1) (V 2))) (sm σ (ad (wv V 0) (wv V 1)))) 2 1 :=
    ⟨by omega, by omega, by omega, by unfold sV oV sm ad; dsimp only; grind, by unfold sV oV sm ad; dsimp only; grind⟩
  rw [hd.sym.same c j]
  have e1 := (hd.sym.sm (M := 2) (by omega)).on (c.sm 2) sg
  have e2 : W (sV 2 (sV N V)) n (sV 2 (oV σ N V) 0) = W (sV N V) n (oV σ N V 0) := W_sm (by omega) _ _ _
  rw [e2, sV_sV] at e1
  rw [sV_sV, Int.mul_comm N 2, e1, hs'] at e
  exact e
/-- A point inside. -/
theorem inner : ∃ M p, 0 < M ∧ Off (sV M V) p ∧ W (sV M V) n p = 1 := by
  have h2 := sim_sm (M := 2) (by omega) h
  have hb2 : ∀ i, base (sV 2 V) n i = 0 := fun i => (base_sm (by omega) V n i).trans (hb i)
  have m : Mid (sV 2 V (0 + 1)) (sV 2 V (0 + 2)) (ad (V 1) (V 2)) 2 1 := ⟨by omega, by omega, by show 2 * ((V 1).1 + (V 2).1 - 2 * (V 1).1) = 1 * (2 * (V 2).1 - 2 * (V 1).1); omega, by show 2 * ((V 1).2 + (V 2).2 - 2 * (V 1).2) = 1 * (2 * (V 2).2 - 2 * (V 1).2); omega⟩
  have k2 := (wv_r h 1).1
  have ec : crs (E (sV 2 V) (0 + 1)) (ng (wv V 1)) = 2 * -crs (E V 1) (wv V 1) := by
    rw [E_sm]
    unfold crs sm ng
    grind
  obtain ⟨N, hN, h1, e1⟩ := (near_mid h2 hb2 m (v := ng (wv V 1)) (by rw [ec]; omega)).ex
  rw [if_pos (by rw [ec]; omega)] at e1
  rw [sV_sV] at h1 e1
  exact ⟨N * 2, _, by omega, h1, e1⟩
theorem gam {σ : Int} (hσ : σ = 1 ∨ σ = -1) : Ev fun N => ∀ j, W (oV σ N V) n (sV N V j) = 1 - bet σ := by
  have c := cl_of h
  rcases hσ with rfl | rfl
  · obtain ⟨M, p, hM, ho, hw⟩ := inner h hb
    have hM' := sim_sm hM h
    have hbM : ∀ i, base (sV M V) n i = 0 := fun i => (base_sm hM V n i).trans (hb i)
    refine ((((near_oV hM' 1 ho).and (apt_oV hM' (Or.inl rfl))).and (kap hM' hbM (σ := 1) (Or.inl rfl))).and ((Ev.ge 1).and (apt_oV h (σ := 1) (Or.inl rfl)))).mono ?_
    rintro N ⟨⟨⟨e1, hd⟩, e2⟩, hN, hd0⟩ j
    rw [hd0.same (cl_oV h 1 N) j]
    have r := ray ((cl_of hM').sm N) (cl_oV hM' 1 N) hd (sm N p)
    rw [e1, e2, hw, W_sm (by omega), hw] at r
    have e3 : W (oV 1 N (sV M V)) n (sV N (sV M V) 0) = W (oV 1 N V) n (sV N V 0) := by
      rw [oV_sm hM, sV_sV, Int.mul_comm N M, ← sV_sV]
      exact W_sm hM _ _ _
    rw [e3] at r
    have b1 : bet 1 = 0 := rfl
    omega
  · obtain ⟨t, ht, hmax⟩ := right h
    have k : Ev fun N => ∀ i, i < n → (oV (-1) N V i).1 ≤ (sV N V (t + 1)).1 := by
      refine Ev.all fun i _ => ?_
      by_cases e : (V (i + 1)).1 = (V (t + 1)).1
      · have := right_turn h hb (i := i) fun k => by have := hmax k; omega
        refine Ev.of fun N => ?_
        unfold oV sV ad sm
        dsimp only
        rw [e]
        omega
      · have := hmax (i + 1)
        refine (Ev.lin_neg (x := (V (i + 1)).1 - (V (t + 1)).1) (-1 * (wv V i).1) (by omega)).mono fun N hN => ?_
        unfold oV sV ad sm
        dsimp only
        have e2 : N * ((V (i + 1)).1 - (V (t + 1)).1) = N * (V (i + 1)).1 - N * (V (t + 1)).1 := Int.mul_sub _ _ _
        omega
    refine (k.and (apt_oV h (σ := -1) (Or.inr rfl))).mono ?_
    rintro N ⟨k, hd⟩ j
    rw [hd.same (cl_oV h (-1) N) j, ← hd.same (cl_oV h (-1) N) (t + 1)]
    have b1 : bet (-1) = 1 := rfl
    rw [b1]
    refine W_right fun i => ?_
    rw [((cl_oV h (-1) N).mod i).1]
    exact k _ (c.lt i)
section
variable {A : Nat → Pt} {m : Nat} (hA : Cl A m) (hne : ∀ i, A i ≠ A (i + 1))
include hne
omit hb in
theorem apt_of {σ N : Int} (hN : 0 < N) (hv : Avoid (bet σ) A V n) (hd : Apt (sV N V) (oV σ N V)) (hk : ∀ j, W (sV N V) n (oV σ N V j) = bet σ) : Apt (sV N A) (oV σ N V) := fun i j => by
  refine sep_sym ?_
  have hne' : sV N A i ≠ sV N A (i + 1) := fun e => hne i (sm_inj hN e)
  refine Classical.byContradiction fun hs => ?_
  obtain ⟨M, q, hM, ⟨N1, s1, m1⟩, N2, s2, m2⟩ := meet fun k => hs (sep_of hne' k)
  have c := (cl_of h).sm N
  have hd' := hd.sm hM
  have m1' : Seg (sV M (oV σ N V) j) (sV M (oV σ N V) (j + 1)) q N1 s1 := m1
  have m2' : Seg (sV (M * N) A i) (sV (M * N) A (i + 1)) q N2 s2 := by rw [← sV_sV]; exact m2
  have ho : Off (sV (M * N) V) q := fun k => by
    rw [← sV_sV, ← Bool.not_eq_true]
    intro e
    obtain ⟨N3, s3, m3⟩ := seg_on e
    exact no_two (hd' k j) m3 m1'
  have hw : W (sV (M * N) V) n q = bet σ := by
    rw [← sV_sV, hd'.sym.on (c.sm M) m1', ← hk 0]
    exact W_sm hM _ _ _
  exact hv _ (Int.mul_pos hM hN) i q N2 s2 m2' ho hw
include hA
omit hA hne in
/-- The winding about a ring that avoids the outside (inside): 1 (0) about its points. -/
theorem gam_A {σ : Int} (hσ : σ = 1 ∨ σ = -1) (hv : Avoid (bet σ) A V n) : Ev fun N => W (oV σ N V) n (sV N A 0) = 1 - bet σ := by
  have c := cl_of h
  have w01 : ∀ p, W V n p = 0 ∨ W V n p = 1 := fun p => by have := any h hb p; omega
  by_cases ho : Off V (A 0)
  · have e : W V n (A 0) = 1 - bet σ := by
      have k := hv 1 (by omega) 0 (A 0) 1 0 (at_one A 0) (fun k => by unfold sV; rw [sm_one, sm_one]; exact ho k)
      have e1 : W (sV 1 V) n (A 0) = W V n (A 0) := by
        have := W_sm (M := 1) (by omega) V n (A 0)
        rwa [sm_one] at this
      rw [e1] at k
      have := w01 (A 0)
      unfold bet at *
      split at k <;> omega
    exact (near_oV h σ ho).mono fun N k => k.trans e
  · obtain ⟨k, hk⟩ := Classical.not_forall.1 ho
    rw [Bool.not_eq_false] at hk
    obtain ⟨N', s', m'⟩ := seg_on hk
    refine ((gam h hb hσ).and (apt_oV h hσ)).mono ?_
    rintro N ⟨e, hd⟩
    rw [← e 0]
    exact hd.on (cl_oV h σ N) (seg_sm N m')
/-- What avoids the outside does not wind about it. -/
theorem incl (hv : Avoid 0 A V n) {p : Pt} (hp : Off V p) (hw : W V n p = 0) : W A m p = 0 := by
  have h1 : (1 : Int) = 1 ∨ (1 : Int) = -1 := Or.inl rfl
  have b1 : bet 1 = 0 := rfl
  obtain ⟨t, _, hmax⟩ := right h
  have ht := right_turn h hb hmax
  obtain ⟨N, hN, ⟨⟨hd, hk⟩, hg⟩, e1⟩ := ((((apt_oV h h1).and (kap h hb h1)).and (gam_A h hb (σ := 1) h1 hv)).and (near_oV h 1 hp)).ex
  have hap := apt_of h (σ := 1) hne hN hv hd hk
  have r := ray (hA.sm N) (cl_oV h 1 N) hap (sm N p)
  have k0 : W (sV N A) m (oV 1 N V 0) = 0 := by
    rw [← hap.sym.same (hA.sm N) t]
    refine W_right fun k => ?_
    have ka : (A k).1 ≤ (V (t + 1)).1 := by
      refine Classical.byContradiction fun hn => ?_
      have hall : ∀ j, (V j).1 < (A k).1 := fun j => by have := hmax j; omega
      have ho : Off V (A k) := fun j => off_of (ν := (-1, 0)) (by have := hall j; unfold dot vec; dsimp only; omega) (by have := hall (j + 1); unfold dot vec; dsimp only; omega)
      have hz : W V n (A k) = 0 := W_right fun j => Int.le_of_lt (hall j)
      refine hv 1 (by omega) k (A k) 1 0 (at_one A k) (fun k => by unfold sV; rw [sm_one, sm_one]; exact ho k) ?_
      have := W_sm (M := 1) (by omega) V n (A k)
      rw [sm_one] at this
      rw [this, hz]
    have := Int.mul_le_mul_of_nonneg_left ka (Int.le_of_lt hN)
    unfold oV sV ad sm
    dsimp only
    omega
  rw [k0, hg, e1, hw, b1, W_sm hN] at r
  omega
/-- What avoids the inside winds about all of it alike. -/
theorem core (hv : Avoid 1 A V n) {p p' : Pt} (hp : Off V p) (hw : W V n p = 1) (hp' : Off V p') (hw' : W V n p' = 1) : W A m p = W A m p' := by
  have h1 : (-1 : Int) = 1 ∨ (-1 : Int) = -1 := Or.inr rfl
  have b1 : bet (-1) = 1 := rfl
  have hv' : Avoid (bet (-1)) A V n := by rw [b1]; exact hv
  obtain ⟨N, hN, ⟨⟨⟨hd, hk⟩, hg⟩, e1⟩, e2⟩ := (((((apt_oV h h1).and (kap h hb h1)).and (gam_A h hb (σ := -1) h1 hv')).and (near_oV h (-1) hp)).and (near_oV h (-1) hp')).ex
  have hap := apt_of h (σ := -1) hne hN hv' hd hk
  have r := ray (hA.sm N) (cl_oV h (-1) N) hap (sm N p)
  have r' := ray (hA.sm N) (cl_oV h (-1) N) hap (sm N p')
  rw [hg, e1, hw, b1, W_sm hN] at r
  rw [hg, e2, hw', b1, W_sm hN] at r'
  omega
end
end
end K4
end
/- The parts into which a side is cut. -/
section
open Go.Proofs G1 G2 G3 G4 G11 G16 G19 J1 J2 J3 J4 J5 J6 J7 J12 K1 K2 K3 K4
set_option maxRecDepth 100000
namespace K5
/-- How far along a side a point is. -/
def fp (a b X : Pt) : Int := dot (vec a b) (vec a X)
/-- Points of one straight line, in order. -/
theorem on_between {e a P Q X : Pt} (he : e ≠ (0, 0)) (hP : crs e (vec a P) = 0) (hQ : crs e (vec a Q) = 0) (hX : crs e (vec a X) = 0) (h1 : dot e (vec a P) ≤ dot e (vec a X)) (h2 : dot e (vec a X) ≤ dot e (vec a Q)) (h3 : dot e (vec a P) < dot e (vec a Q)) : ∃ N s, Seg P Q X N s := by
  have hD : 0 < e.1 * e.1 + e.2 * e.2 := nrm_pos fun k => he (Prod.ext k.1 k.2)
  have f1 : dot e (vec a Q) - dot e (vec a P) = dot e (vec P Q) := by unfold dot vec; grind
  have f2 : dot e (vec a X) - dot e (vec a P) = dot e (vec P X) := by unfold dot vec; grind
  have g1 : crs e (vec P Q) = 0 := by unfold crs vec at *; grind
  have g2 : crs e (vec P X) = 0 := by unfold crs vec at *; grind
  have k : crs (vec P X) (vec P Q) = 0 := by
    have : (e.1 * e.1 + e.2 * e.2) * crs (vec P X) (vec P Q) = 0 := by
      have : (e.1 * e.1 + e.2 * e.2) * crs (vec P X) (vec P Q) = dot e (vec P X) * crs e (vec P Q) - dot e (vec P Q) * crs e (vec P X) := by unfold crs dot; grind
      rw [this, g1, g2]
      omega
    rcases Int.mul_eq_zero.1 this with h | h
    · omega
    · exact h
  refine ⟨dot e (vec P Q), dot e (vec P X), by omega, by omega, by omega, ?_, ?_⟩
  · unfold crs dot vec at *
    dsimp only at *
    grind
  · unfold crs dot vec at *
    dsimp only at *
    grind
theorem ar_fp {a b X : Pt} : ar a b X = crs (vec a b) (vec a X) := by unfold ar crs vec; grind
theorem vec_ne {a b : Pt} (h : a ≠ b) : vec a b ≠ (0, 0) := fun e => h (by
  have h1 : b.1 - a.1 = 0 := congrArg Prod.fst e
  have h2 : b.2 - a.2 = 0 := congrArg Prod.snd e
  exact Prod.ext (by omega) (by omega))
theorem fp_a (a b : Pt) : fp a b a = 0 := by unfold fp dot vec; grind
theorem fp_seg {a b u : Pt} {N s : Int} (m : Seg a b u N s) : N * fp a b u = s * fp a b b := by
  have h1 := m.e1
  have h2 := m.e2
  unfold fp dot vec
  dsimp only
  grind
theorem fp_segK {K : Int} {a b z : Pt} {N s : Int} (m : Seg (sm K a) (sm K b) z N s) : N * dot (vec a b) (vec (sm K a) z) = K * (s * fp a b b) := by
  have e1 := m.e1
  have e2 := m.e2
  unfold fp dot vec sm at *
  dsimp only at *
  grind
theorem fp_pos {a b : Pt} (h : a ≠ b) : 0 < fp a b b := sq_pos h
theorem mul_le_of {N x y : Int} (hN : 0 < N) (h : N * x ≤ N * y) : x ≤ y := Int.le_of_mul_le_mul_left h hN
theorem fp_on {a b u : Pt} (hab : a ≠ b) (h : onS u a b = true) : (0 ≤ fp a b u ∧ fp a b u ≤ fp a b b) ∧ ar a b u = 0 := by
  obtain ⟨N, s, m⟩ := seg_on h
  have e := fp_seg m
  have p := fp_pos hab
  refine ⟨⟨mul_le_of m.N0 ?_, mul_le_of m.N0 ?_⟩, m.lin⟩
  · rw [e, Int.mul_zero]
    exact Int.mul_nonneg m.s0 (Int.le_of_lt p)
  · rw [e]
    exact Int.mul_le_mul_of_nonneg_right m.sN (Int.le_of_lt p)
theorem on_fp {a b X : Pt} (hab : a ≠ b) (h0 : ar a b X = 0) (h1 : 0 ≤ fp a b X) (h2 : fp a b X ≤ fp a b b) : onS X a b = true := by
  have ea := fp_a a b
  obtain ⟨N, s, m⟩ := on_between (e := vec a b) (a := a) (P := a) (Q := b) (X := X) (vec_ne hab) (by unfold crs vec; grind) (by unfold crs; grind) (ar_fp ▸ h0) (by unfold fp at *; omega) h2 (by have := fp_pos hab; unfold fp at *; omega)
  exact on_seg m
/-- The places where a side is cut. -/
structure Stops (a b : Pt) (L : List Pt) (V : Nat → Pt) : Prop where
  ne : a ≠ b
  am : a ∈ L
  bm : b ∈ L
  on : ∀ u, u ∈ L → onS u a b = true
  all : ∀ k, onS (V k) a b = true → V k ∈ L
  nocr : ∀ k, ¬(opp (ar a b (V k)) (ar a b (V (k + 1))) ∧ opp (ar (V k) (V (k + 1)) a) (ar (V k) (V (k + 1)) b))
/-- Two of them that follow each other. -/
structure Nxt (a b : Pt) (L : List Pt) (u v : Pt) : Prop where
  um : u ∈ L
  vm : v ∈ L
  lt : fp a b u < fp a b v
  no : ∀ w, w ∈ L → ¬(fp a b u < fp a b w ∧ fp a b w < fp a b v)
theorem pos_mul {K x y : Int} (hK : 0 < K) (h : K * x < K * y) : x < y := Int.lt_of_mul_lt_mul_left h (Int.le_of_lt hK)
section
variable {a b : Pt} {L : List Pt} {V : Nat → Pt} (S : Stops a b L V) {u v : Pt} (x : Nxt a b L u v)
include S x
/-- A side that is met inside a part is one of the same straight line, and covers the part. -/
theorem part_hit {K : Int} (hK : 0 < K) {z : Pt} {N s N' s' : Int} {k : Nat} (m : Seg (sm K a) (sm K b) z N s) (m' : Seg (sm K (V k)) (sm K (V (k + 1))) z N' s') (h1 : K * fp a b u < dot (vec a b) (vec (sm K a) z)) (h2 : dot (vec a b) (vec (sm K a) z) < K * fp a b v) :
    (ar a b (V k) = 0 ∧ ar a b (V (k + 1)) = 0) ∧ ((fp a b (V k) ≤ fp a b u ∧ fp a b v ≤ fp a b (V (k + 1))) ∨ (fp a b (V (k + 1)) ≤ fp a b u ∧ fp a b v ≤ fp a b (V k))) := by
  have hu := fp_on S.ne (S.on u x.um)
  have hv := fp_on S.ne (S.on v x.vm)
  -- no end of the side lies inside the part
  have noin : ∀ j, ar a b (V j) = 0 → ¬(fp a b u < fp a b (V j) ∧ fp a b (V j) < fp a b v) := fun j h0 hh =>
    x.no (V j) (S.all j (on_fp S.ne h0 (by omega) (by omega))) hh
  have kk : 0 < K * K := Int.mul_pos hK hK
  have z0 : ar (sm K a) (sm K b) z = 0 := m.lin
  have lin := m'.ar (sm K a) (sm K b)
  rw [z0, ar_sm, ar_sm, Int.mul_zero] at lin
  have lin2 : (N' - s') * ar a b (V k) + s' * ar a b (V (k + 1)) = 0 := by
    have : K * K * ((N' - s') * ar a b (V k) + s' * ar a b (V (k + 1))) = 0 := by grind
    rcases Int.mul_eq_zero.1 this with h | h
    · omega
    · exact h
  have hz : N' * dot (vec a b) (vec (sm K a) z) = K * ((N' - s') * fp a b (V k) + s' * fp a b (V (k + 1))) := by
    have e1 := m'.e1
    have e2 := m'.e2
    unfold fp dot vec sm at *
    dsimp only at *
    grind
  have n0 := m'.N0
  have s0 := m'.s0
  have sN := m'.sN
  have endk : s' = 0 → dot (vec a b) (vec (sm K a) z) = K * fp a b (V k) := fun e => by
    rw [e] at hz
    exact Int.eq_of_mul_eq_mul_left (show N' ≠ 0 by omega) (by rw [hz]; grind)
  have endl : s' = N' → dot (vec a b) (vec (sm K a) z) = K * fp a b (V (k + 1)) := fun e => by
    rw [e] at hz
    exact Int.eq_of_mul_eq_mul_left (show N' ≠ 0 by omega) (by rw [hz]; grind)
  by_cases c1 : ar a b (V k) = 0
  · by_cases c2 : ar a b (V (k + 1)) = 0
    · refine ⟨⟨c1, c2⟩, ?_⟩
      have p1 := noin k c1
      have p2 := noin (k + 1) c2
      have w1 : N' * (K * fp a b u) < K * ((N' - s') * fp a b (V k) + s' * fp a b (V (k + 1))) := by rw [← hz]; exact Int.mul_lt_mul_of_pos_left h1 n0
      have w2 : K * ((N' - s') * fp a b (V k) + s' * fp a b (V (k + 1))) < N' * (K * fp a b v) := by rw [← hz]; exact Int.mul_lt_mul_of_pos_left h2 n0
      have w3 : N' * fp a b u < (N' - s') * fp a b (V k) + s' * fp a b (V (k + 1)) := pos_mul hK (by grind)
      have w4 : (N' - s') * fp a b (V k) + s' * fp a b (V (k + 1)) < N' * fp a b v := pos_mul hK (by grind)
      have r1 : ¬(fp a b (V k) ≤ fp a b u ∧ fp a b (V (k + 1)) ≤ fp a b u) := fun ⟨q1, q2⟩ => by
        have := Int.mul_le_mul_of_nonneg_left q1 (show 0 ≤ N' - s' by omega)
        have := Int.mul_le_mul_of_nonneg_left q2 s0
        grind
      have r2 : ¬(fp a b v ≤ fp a b (V k) ∧ fp a b v ≤ fp a b (V (k + 1))) := fun ⟨q1, q2⟩ => by
        have := Int.mul_le_mul_of_nonneg_left q1 (show 0 ≤ N' - s' by omega)
        have := Int.mul_le_mul_of_nonneg_left q2 s0
        grind
      omega
    · exfalso
      rw [c1, Int.mul_zero, Int.zero_add] at lin2
      rcases Int.mul_eq_zero.1 lin2 with e | e
      · have := endk e
        rw [this] at h1 h2
        exact noin k c1 ⟨pos_mul hK h1, pos_mul hK h2⟩
      · exact c2 e
  · by_cases c2 : ar a b (V (k + 1)) = 0
    · exfalso
      rw [c2, Int.mul_zero, Int.add_zero] at lin2
      rcases Int.mul_eq_zero.1 lin2 with e | e
      · have := endl (by omega)
        rw [this] at h1 h2
        exact noin (k + 1) c2 ⟨pos_mul hK h1, pos_mul hK h2⟩
      · exact c1 e
    · exfalso
      have o1 : opp (ar a b (V k)) (ar a b (V (k + 1))) := by
        have q1 : ¬(0 < ar a b (V k) ∧ 0 < ar a b (V (k + 1))) := fun ⟨q1, q2⟩ => by
          have := Int.mul_nonneg (show 0 ≤ N' - s' by omega) (Int.le_of_lt q1)
          have := Int.mul_nonneg s0 (Int.le_of_lt q2)
          by_cases e : s' = 0
          · have := Int.mul_pos (show 0 < N' - s' by omega) q1
            omega
          · have := Int.mul_pos (show 0 < s' by omega) q2
            omega
        have q2 : ¬(ar a b (V k) < 0 ∧ ar a b (V (k + 1)) < 0) := fun ⟨q1, q2⟩ => by
          have := Int.mul_nonneg (show 0 ≤ N' - s' by omega) (show 0 ≤ -ar a b (V k) by omega)
          have := Int.mul_nonneg s0 (show 0 ≤ -ar a b (V (k + 1)) by omega)
          by_cases e : s' = 0
          · have := Int.mul_pos (show 0 < N' - s' by omega) (show 0 < -ar a b (V k) by omega)
            grind
          · have := Int.mul_pos (show 0 < s' by omega) (show 0 < -ar a b (V (k + 1)) by omega)
            grind
        unfold opp
        omega
      refine S.nocr k ⟨o1, ?_⟩
      have lin3 := m.ar (sm K (V k)) (sm K (V (k + 1)))
      rw [m'.lin, ar_sm, ar_sm, Int.mul_zero] at lin3
      have lin4 : (N - s) * ar (V k) (V (k + 1)) a + s * ar (V k) (V (k + 1)) b = 0 := by
        have : K * K * ((N - s) * ar (V k) (V (k + 1)) a + s * ar (V k) (V (k + 1)) b) = 0 := by grind
        rcases Int.mul_eq_zero.1 this with h | h
        · omega
        · exact h
      have hz3 := fp_segK m
      have sp : 0 < s := by
        refine Int.lt_iff_le_and_ne.2 ⟨m.s0, fun e => ?_⟩
        rw [← e, Int.zero_mul, Int.mul_zero] at hz3
        rcases Int.mul_eq_zero.1 hz3 with h | h
        · have := m.N0; omega
        · have := Int.mul_nonneg (Int.le_of_lt hK) hu.1.1
          omega
      have sl : s < N := by
        refine Int.lt_iff_le_and_ne.2 ⟨m.sN, fun e => ?_⟩
        rw [e] at hz3
        have e2 : dot (vec a b) (vec (sm K a) z) = K * fp a b b := Int.eq_of_mul_eq_mul_left (show N ≠ 0 by have := m.N0; omega) (by rw [hz3]; grind)
        have := Int.mul_le_mul_of_nonneg_left hv.1.2 (Int.le_of_lt hK)
        omega
      have l5 : ar a b (V k) - ar a b (V (k + 1)) + ar (V k) (V (k + 1)) a - ar (V k) (V (k + 1)) b = 0 := by unfold ar crs vec; grind
      generalize ar (V k) (V (k + 1)) a = X at *
      generalize ar (V k) (V (k + 1)) b = Y at *
      unfold opp at *
      have q1 : 0 < X → ¬0 ≤ Y := fun g1 g2 => by
        have := Int.mul_pos (show 0 < N - s by omega) g1
        have := Int.mul_nonneg (Int.le_of_lt sp) g2
        omega
      have q2 : X < 0 → ¬Y ≤ 0 := fun g1 g2 => by
        have := Int.mul_pos (show 0 < N - s by omega) (show 0 < -X by omega)
        have := Int.mul_nonneg (Int.le_of_lt sp) (show 0 ≤ -Y by omega)
        grind
      have q3 : X = 0 → Y = 0 := fun g1 => by
        rw [g1, Int.mul_zero, Int.zero_add] at lin4
        rcases Int.mul_eq_zero.1 lin4 with h | h
        · omega
        · exact h
      omega
end
theorem arg_max {L : List Pt} {P : Pt → Prop} (f : Pt → Int) (h : ∃ u, u ∈ L ∧ P u) : ∃ u, u ∈ L ∧ P u ∧ ∀ w, w ∈ L → P w → f w ≤ f u := by
  induction L with
  | nil => obtain ⟨u, hu, _⟩ := h; cases hu
  | cons a L ih =>
    by_cases k : ∃ u, u ∈ L ∧ P u
    · obtain ⟨u, hu, pu, hm⟩ := ih k
      by_cases ka : P a ∧ f u ≤ f a
      · refine ⟨a, List.mem_cons_self, ka.1, fun w hw pw => ?_⟩
        rcases List.mem_cons.1 hw with rfl | hw
        · omega
        · have := hm w hw pw; omega
      · refine ⟨u, List.mem_cons_of_mem _ hu, pu, fun w hw pw => ?_⟩
        rcases List.mem_cons.1 hw with rfl | hw
        · exact Classical.byContradiction fun q => ka ⟨pw, by omega⟩
        · exact hm w hw pw
    · obtain ⟨u, hu, pu⟩ := h
      rcases List.mem_cons.1 hu with rfl | hu
      · refine ⟨u, List.mem_cons_self, pu, fun w hw pw => ?_⟩
        rcases List.mem_cons.1 hw with rfl | hw
        · omega
        · exact absurd ⟨w, hw, pw⟩ k
      · exact absurd ⟨u, hu, pu⟩ k
section
variable {a b : Pt} {L : List Pt} {V : Nat → Pt} (S : Stops a b L V)
include S
/-- The part in which a point lies. -/
theorem part_at {M : Int} (hM : 0 < M) {q : Pt} {N s : Int} (m : Seg (sm M a) (sm M b) q N s) : ∃ u v, Nxt a b L u v ∧ M * fp a b u ≤ dot (vec a b) (vec (sm M a) q) ∧ dot (vec a b) (vec (sm M a) q) ≤ M * fp a b v := by
  have hz := fp_segK m
  have pb := fp_pos S.ne
  have g0 : 0 ≤ dot (vec a b) (vec (sm M a) q) := mul_le_of m.N0 (by
    rw [hz, Int.mul_zero]
    exact Int.mul_nonneg (Int.le_of_lt hM) (Int.mul_nonneg m.s0 (Int.le_of_lt pb)))
  have g1 : dot (vec a b) (vec (sm M a) q) ≤ M * fp a b b := mul_le_of m.N0 (by
    rw [hz]
    have := Int.mul_le_mul_of_nonneg_left (Int.mul_le_mul_of_nonneg_right m.sN (Int.le_of_lt pb)) (Int.le_of_lt hM)
    grind)
  generalize dot (vec a b) (vec (sm M a) q) = g at *
  by_cases k : g < M * fp a b b
  · obtain ⟨u, hu, pu, mu⟩ := arg_max (L := L) (P := fun w => M * fp a b w ≤ g) (fp a b) ⟨a, S.am, by rw [fp_a]; omega⟩
    obtain ⟨v, hv, pv, mv⟩ := arg_max (L := L) (P := fun w => g < M * fp a b w) (fun w => -fp a b w) ⟨b, S.bm, k⟩
    refine ⟨u, v, ⟨hu, hv, pos_mul hM (by omega), fun w hw ⟨w1, w2⟩ => ?_⟩, pu, Int.le_of_lt pv⟩
    by_cases kw : M * fp a b w ≤ g
    · have := mu w hw kw; omega
    · have := mv w hw (by omega); omega
  · obtain ⟨u, hu, pu, mu⟩ := arg_max (L := L) (P := fun w => fp a b w < fp a b b) (fp a b) ⟨a, S.am, by rw [fp_a]; exact pb⟩
    refine ⟨u, b, ⟨hu, S.bm, pu, fun w hw ⟨w1, w2⟩ => ?_⟩, ?_, g1⟩
    · have := mu w hw w2; omega
    · have := Int.mul_le_mul_of_nonneg_left (Int.le_of_lt pu) (Int.le_of_lt hM)
      omega
/-- What is known of a point of a part that is on no side, is known of the middle. -/
theorem parts {n : Nat} (hV : Cl V n) (hn : ∀ k, V k ≠ V (k + 1)) {M : Int} (hM : 0 < M) {q : Pt} {N s : Int} (m : Seg (sm M a) (sm M b) q N s) (ho : Off (sV M V) q) :
    ∃ u v, Nxt a b L u v ∧ Off (sV 2 V) (ad u v) ∧ W (sV 2 V) n (ad u v) = W (sV M V) n q := by
  obtain ⟨u, v, x, k1, k2⟩ := part_at S hM m
  have hu := fp_on S.ne (S.on u x.um)
  have hv := fp_on S.ne (S.on v x.vm)
  refine ⟨u, v, x, ?_⟩
  have h2M : 0 < 2 * M := by omega
  have sep : ∀ k, Sep (sm 2 q) (sm M (ad u v)) (sV (2 * M) V k) (sV (2 * M) V (k + 1)) := fun k => by
    refine sep_of (fun e => hn k (sm_inj h2M e)) (Classical.byContradiction fun hd => ?_)
    obtain ⟨M', z, hM', ⟨N1, s1, m1⟩, N2, s2, m2⟩ := meet hd
    have hK : 0 < M' * (2 * M) := Int.mul_pos hM' h2M
    have m2' : Seg (sm (M' * (2 * M)) (V k)) (sm (M' * (2 * M)) (V (k + 1))) z N2 s2 := by
      have := m2
      unfold sV at this
      rwa [sm_sm, sm_sm] at this
    -- where z is
    have e1 := m1.e1
    have e2 := m1.e2
    have n1 := m1.N0
    have arq : ar (sm M a) (sm M b) q = 0 := m.lin
    have hz : N1 * dot (vec a b) (vec (sm (M' * (2 * M)) a) z) = M' * ((N1 - s1) * (2 * dot (vec a b) (vec (sm M a) q)) + s1 * (M * (fp a b u + fp a b v))) := by
      unfold fp dot vec sm ad at *
      dsimp only at *
      grind
    have zl : crs (vec a b) (vec (sm (M' * (2 * M)) a) z) = 0 := by
      have : N1 * crs (vec a b) (vec (sm (M' * (2 * M)) a) z) = M' * ((N1 - s1) * (2 * crs (vec a b) (vec (sm M a) q)) + s1 * (M * (crs (vec a b) (vec a u) + crs (vec a b) (vec a v)))) := by
        unfold crs vec sm ad at *
        dsimp only at *
        grind
      rw [← ar_fp (X := u), ← ar_fp (X := v), hu.2, hv.2] at this
      have q0 : crs (vec a b) (vec (sm M a) q) = 0 := by
        have : ar (sm M a) (sm M b) q = M * crs (vec a b) (vec (sm M a) q) := by unfold ar crs vec sm; grind
        rw [this] at arq
        rcases Int.mul_eq_zero.1 arq with h | h
        · omega
        · exact h
      rw [q0] at this
      have t0 : N1 * crs (vec a b) (vec (sm (M' * (2 * M)) a) z) = 0 := by rw [this]; grind
      rcases Int.mul_eq_zero.1 t0 with h | h
      · omega
      · exact h
    have s1p : 0 < s1 := by
      refine Int.lt_iff_le_and_ne.2 ⟨m1.s0, fun e => ?_⟩
      subst e
      have ez := m1.first
      have o2 := off_sm hM' (off_sm (M := 2) (by omega) ho) k
      rw [← ez, sV_sV, sV_sV] at o2
      have o3 := on_seg m2'
      unfold sV at o2
      rw [show M' * (2 * M) = M' * 2 * M from (Int.mul_assoc _ _ _).symm] at o3
      rw [o3] at o2
      cases o2
    have lt := x.lt
    have mlt := Int.mul_lt_mul_of_pos_left lt hM
    have z1 : M' * (2 * M) * fp a b u < dot (vec a b) (vec (sm (M' * (2 * M)) a) z) := by
      refine pos_mul n1 ?_
      rw [hz]
      have a1 := Int.mul_le_mul_of_nonneg_left k1 (show 0 ≤ N1 - s1 by have := m1.sN; omega)
      have a2 := Int.mul_lt_mul_of_pos_left mlt s1p
      have a3 : 0 < (N1 - s1) * (2 * dot (vec a b) (vec (sm M a) q)) + s1 * (M * (fp a b u + fp a b v)) - N1 * (2 * M) * fp a b u := by grind
      have a4 := Int.mul_pos hM' a3
      grind
    have z2 : dot (vec a b) (vec (sm (M' * (2 * M)) a) z) < M' * (2 * M) * fp a b v := by
      refine pos_mul n1 ?_
      rw [hz]
      have a1 := Int.mul_le_mul_of_nonneg_left k2 (show 0 ≤ N1 - s1 by have := m1.sN; omega)
      have a2 := Int.mul_lt_mul_of_pos_left mlt s1p
      have a3 : 0 < N1 * (2 * M) * fp a b v - ((N1 - s1) * (2 * dot (vec a b) (vec (sm M a) q)) + s1 * (M * (fp a b u + fp a b v))) := by grind
      have a4 := Int.mul_pos hM' a3
      grind
    have kK := Int.le_of_lt hK
    have cross0 : ∀ X : Pt, crs (vec a b) (vec (sm (M' * (2 * M)) a) (sm (M' * (2 * M)) X)) = M' * (2 * M) * crs (vec a b) (vec a X) := fun X => by unfold crs vec sm; grind
    have dot0 : ∀ X : Pt, dot (vec a b) (vec (sm (M' * (2 * M)) a) (sm (M' * (2 * M)) X)) = M' * (2 * M) * fp a b X := fun X => by unfold fp dot vec sm; grind
    obtain ⟨N3, s3, m3⟩ := on_between (e := vec a b) (a := sm (M' * (2 * M)) a) (P := sm (M' * (2 * M)) a) (Q := sm (M' * (2 * M)) b) (X := z) (vec_ne S.ne)
      (by rw [cross0]; have : crs (vec a b) (vec a a) = 0 := by unfold crs vec; grind
          rw [this]; omega) (by rw [cross0]; have : crs (vec a b) (vec a b) = 0 := by unfold crs vec; grind
                                rw [this]; omega) zl
      (by rw [dot0, fp_a]; have := Int.mul_nonneg kK hu.1.1; omega) (by rw [dot0]; have := Int.mul_le_mul_of_nonneg_left hv.1.2 kK; omega) (by rw [dot0, dot0, fp_a]; have := Int.mul_pos hK (fp_pos S.ne); omega)
    obtain ⟨⟨c1, c2⟩, cc⟩ := part_hit S x hK m3 m2' z1 z2
    -- q is on the side
    have kM := Int.le_of_lt hM
    have q0 : crs (vec a b) (vec (sm M a) q) = 0 := by
      have : ar (sm M a) (sm M b) q = M * crs (vec a b) (vec (sm M a) q) := by unfold ar crs vec sm; grind
      rw [this] at arq
      rcases Int.mul_eq_zero.1 arq with h | h
      · omega
      · exact h
    have crossM : ∀ X : Pt, crs (vec a b) (vec (sm M a) (sm M X)) = M * crs (vec a b) (vec a X) := fun X => by unfold crs vec sm; grind
    have dotM : ∀ X : Pt, dot (vec a b) (vec (sm M a) (sm M X)) = M * fp a b X := fun X => by unfold fp dot vec sm; grind
    rw [ar_fp] at c1 c2
    have on : onS q (sV M V k) (sV M V (k + 1)) = true := by
      rcases cc with ⟨p1, p2⟩ | ⟨p1, p2⟩
      · have r1 := Int.mul_le_mul_of_nonneg_left p1 kM
        have r2 := Int.mul_le_mul_of_nonneg_left p2 kM
        obtain ⟨N4, s4, m4⟩ := on_between (e := vec a b) (a := sm M a) (P := sm M (V k)) (Q := sm M (V (k + 1))) (X := q) (vec_ne S.ne)
          (by rw [crossM, c1]; omega) (by rw [crossM, c2]; omega) q0 (by rw [dotM]; omega) (by rw [dotM]; omega) (by rw [dotM, dotM]; omega)
        exact on_seg m4
      · have r1 := Int.mul_le_mul_of_nonneg_left p1 kM
        have r2 := Int.mul_le_mul_of_nonneg_left p2 kM
        obtain ⟨N4, s4, m4⟩ := on_between (e := vec a b) (a := sm M a) (P := sm M (V (k + 1))) (Q := sm M (V k)) (X := q) (vec_ne S.ne)
          (by rw [crossM, c2]; omega) (by rw [crossM, c1]; omega) q0 (by rw [dotM]; omega) (by rw [dotM]; omega) (by rw [dotM, dotM]; omega)
        refine on_seg (N := N4) (s := N4 - s4) ⟨m4.N0, by have := m4.sN; omega, by have := m4.s0; omega, ?_, ?_⟩
        · have := m4.e1; unfold sV; grind
        · have := m4.e2; unfold sV; grind
    rw [ho k] at on
    cases on
  have w := two_all (hV.sm (2 * M)) fun k _ => sep k
  have e1 : W (sV (2 * M) V) n (sm 2 q) = W (sV M V) n q := by rw [← sV_sV]; exact W_sm (by omega) _ _ _
  have e2 : W (sV (2 * M) V) n (sm M (ad u v)) = W (sV 2 V) n (ad u v) := by rw [Int.mul_comm, ← sV_sV]; exact W_sm hM _ _ _
  have o : Off (sV M (sV 2 V)) (sm M (ad u v)) := fun k => by
    rw [sV_sV, Int.mul_comm]
    exact (sep_off (sep k)).2
  exact ⟨off_sm' o, by rw [← e2, ← w, e1]⟩
end
end K5
end
/- Valid rings: what the middles say of the insides. -/
section
open Go.Proofs G1 G2 G3 G4 G5 G6 G7 G10 G11 G13 G16 G19 J1 J2 J3 J4 J5 J6 J7 J9 J10 J12 K1 K2 K3 K4 K5
set_option maxRecDepth 100000
namespace K6
/-! ### A winding is one about a point that is on no side -/
theorem dr_one {X Y : Pt} (h : X ≠ Y) : Ev fun N => wnd (ad (sm (N * N) X) (-N, -1)) (ad (sm (N * N) Y) (-N, -1)) = wnd X Y ∧ crs (ad (sm (N * N) X) (-N, -1)) (ad (sm (N * N) Y) (-N, -1)) ≠ 0 := by
  have hz : ¬(Y.1 - X.1 = 0 ∧ Y.2 - X.2 = 0) := fun k => h (Prod.ext (by omega) (by omega))
  refine (Ev.ge (2 + (Y.1 - X.1).natAbs + (Y.2 - X.2).natAbs)).mono fun N hN => ?_
  have p1 : 0 < N := by omega
  have pp : 0 < N * N := Int.mul_pos p1 p1
  have p2 : 2 ≤ N * N := by
    have := Int.mul_nonneg (show 0 ≤ N - 2 by omega) (show 0 ≤ N by omega)
    grind
  have ht : ∀ Z : Pt, (ad (sm (N * N) Z) (-N, -1)).2 = N * N * Z.2 + -1 := fun Z => rfl
  have hsg : ∀ z : Int, (z ≤ 0 ↔ N * N * z + -1 ≤ 0) := fun z => by
    constructor
    · intro hz
      have := Int.mul_nonneg (show 0 ≤ N * N by omega) (show 0 ≤ -z by omega)
      rw [Int.mul_neg] at this
      omega
    · intro hz
      refine Int.not_lt.1 fun k => ?_
      have := Int.mul_nonneg (show 0 ≤ N * N by omega) (show 0 ≤ z - 1 by omega)
      rw [Int.mul_sub] at this
      omega
  have ec : crs (ad (sm (N * N) X) (-N, -1)) (ad (sm (N * N) Y) (-N, -1)) = N * N * (N * (N * crs X Y - (Y.2 - X.2)) + (Y.1 - X.1)) := by unfold crs ad sm; grind
  have s1 : 0 < crs X Y → 0 < N * (N * crs X Y - (Y.2 - X.2)) + (Y.1 - X.1) := fun k =>
    lin_pos (by have := lin_pos (N := N) (y := -(Y.2 - X.2)) k (by omega) (by omega); omega) (by omega) (by omega)
  have s2 : crs X Y < 0 → N * (N * crs X Y - (Y.2 - X.2)) + (Y.1 - X.1) < 0 := fun k => by
    have a1 := lin_pos (N := N) (x := -crs X Y) (y := Y.2 - X.2) (by omega) (by omega) (by omega)
    have a2 := lin_pos (N := N) (x := N * -crs X Y + (Y.2 - X.2)) (y := -(Y.1 - X.1)) a1 (by omega) (by omega)
    grind
  have s3 : crs X Y = 0 → 0 < Y.2 - X.2 → N * (N * crs X Y - (Y.2 - X.2)) + (Y.1 - X.1) < 0 := fun k k2 => by
    have a2 := lin_pos (N := N) (x := Y.2 - X.2) (y := -(Y.1 - X.1)) k2 (by omega) (by omega)
    rw [k]
    grind
  have s4 : crs X Y = 0 → Y.2 - X.2 < 0 → 0 < N * (N * crs X Y - (Y.2 - X.2)) + (Y.1 - X.1) := fun k k2 => by
    have a2 := lin_pos (N := N) (x := -(Y.2 - X.2)) (y := Y.1 - X.1) (by omega) (by omega) (by omega)
    rw [k]
    grind
  have s5 : crs X Y = 0 → Y.2 - X.2 = 0 → N * (N * crs X Y - (Y.2 - X.2)) + (Y.1 - X.1) = Y.1 - X.1 := fun k k2 => by
    rw [k, k2]
    omega
  have sg : ∀ T : Int, (0 < N * N * T ↔ 0 < T) ∧ (N * N * T < 0 ↔ T < 0) := fun T => sign_eq (p := 1) (q := N * N) (by omega) pp (by omega)
  have sgT := sg (N * (N * crs X Y - (Y.2 - X.2)) + (Y.1 - X.1))
  have hX := hsg X.2
  have hY := hsg Y.2
  rw [ec]
  refine ⟨?_, ?_⟩
  · unfold wnd
    rw [ec, ht, ht]
    generalize N * N * (N * (N * crs X Y - (Y.2 - X.2)) + (Y.1 - X.1)) = c' at *
    generalize N * (N * crs X Y - (Y.2 - X.2)) + (Y.1 - X.1) = T at *
    generalize crs X Y = c at *
    generalize N * N * X.2 = x2 at *
    generalize N * N * Y.2 = y2 at *
    repeat' split
    all_goals omega
  · generalize N * N * (N * (N * crs X Y - (Y.2 - X.2)) + (Y.1 - X.1)) = c' at *
    generalize N * (N * crs X Y - (Y.2 - X.2)) + (Y.1 - X.1) = T at *
    omega
section
variable {V : Nat → Pt} {n : Nat}
/-- A point so near that the winding is the same. -/
theorem dr (h : Cl V n) (hn : ∀ k, V k ≠ V (k + 1)) (p : Pt) : Ev fun N => Off (sV (N * N) V) (ad (sm (N * N) p) (N, 1)) ∧ W (sV (N * N) V) n (ad (sm (N * N) p) (N, 1)) = W V n p := by
  have k := Ev.all (n := n) (P := fun k N => wnd (ad (sm (N * N) (vec p (V k))) (-N, -1)) (ad (sm (N * N) (vec p (V (k + 1)))) (-N, -1)) = wnd (vec p (V k)) (vec p (V (k + 1))) ∧ crs (ad (sm (N * N) (vec p (V k))) (-N, -1)) (ad (sm (N * N) (vec p (V (k + 1)))) (-N, -1)) ≠ 0)
    fun k _ => dr_one fun e => hn k (by
      have h1 : (V k).1 - p.1 = (V (k + 1)).1 - p.1 := congrArg Prod.fst e
      have h2 : (V k).2 - p.2 = (V (k + 1)).2 - p.2 := congrArg Prod.snd e
      exact Prod.ext (by omega) (by omega))
  refine k.mono fun N k => ?_
  have e : ∀ j, vec (ad (sm (N * N) p) (N, 1)) (sV (N * N) V j) = ad (sm (N * N) (vec p (V j))) (-N, -1) := fun j => by
    refine Prod.ext ?_ ?_ <;> (unfold vec ad sV sm; dsimp only; grind)
  refine ⟨off_lt (h.sm _) fun i hi => ?_, sumI_congr fun i hi => ?_⟩
  · rw [← Bool.not_eq_true]
    intro ho
    obtain ⟨N', s', m⟩ := seg_on ho
    have := m.lin
    have k2 := (k i hi).2
    rw [← e, ← e] at k2
    apply k2
    rw [← this]
    unfold ar crs vec
    grind
  · unfold wd
    rw [e, e]
    exact (k i hi).1
/-- Off the sides both windings agree. -/
theorem off_wm (h : Cl V n) {q : Pt} (ho : Off V q) : Wm V n q = W V n q := by
  rw [Wm_eq]
  have e : W V n q - sumI (wm V q) n = 0 := by
    unfold W
    rw [← sumI_sub]
    have k : sumI (fun l => wd V q l - wm V q l) n = sumI (fun l => (fun j => tD (vec q (V j))) l - (fun j => tD (vec q (V j))) (l + 1)) n := sumI_congr fun l _ => by
      refine wnd_two ?_
      by_cases c : crs (vec q (V l)) (vec q (V (l + 1))) = 0
      · exact Or.inr (strict (ho l) (by rw [← c]; unfold ar crs vec; grind))
      · exact Or.inl c
    rw [k, sum_tele]
    have z : V n = V 0 := by have := h.per 0; rwa [Nat.zero_add] at this
    rw [z]
    omega
  omega
theorem cl_ng (h : Cl V n) : Cl (nV V) n := ⟨h.pos, fun i => congrArg ng (h.per i)⟩
/-- The winding on the other side of a point. -/
theorem drm (h : Cl V n) (hn : ∀ k, V k ≠ V (k + 1)) (p : Pt) : Ev fun N => W (sV (N * N) V) n (ad (sm (N * N) p) (-N, -1)) = Wm V n p := by
  refine (dr (cl_ng h) (fun k e => hn k (ng_inj e)) (ng p)).mono ?_
  rintro N ⟨ho, hw⟩
  have e1 : sV (N * N) (nV V) = nV (sV (N * N) V) := funext fun i => by unfold sV nV sm ng; refine Prod.ext ?_ ?_ <;> (dsimp only; grind)
  have e2 : ad (sm (N * N) (ng p)) (N, 1) = ng (ad (sm (N * N) p) (-N, -1)) := by unfold ad sm ng; refine Prod.ext ?_ ?_ <;> (dsimp only; grind)
  rw [e1, e2] at ho hw
  have nn : ∀ X : Pt, ng (ng X) = X := fun X => Prod.ext (Int.neg_neg _) (Int.neg_neg _)
  have o : Off (sV (N * N) V) (ad (sm (N * N) p) (-N, -1)) := fun k => by
    have := onS_ng (ho k)
    unfold nV at this
    rwa [nn, nn, nn] at this
  have k := off_wm (h.sm (N * N)) o
  unfold Wm at k
  rw [← k, hw]
  rfl
end
/-! ### Beside a side -/
theorem near_side {V : Nat → Pt} {n : Nat} (h : Sim V n) (hb : ∀ i, base V n i = 0) {i : Nat} {x : Pt} {N₀ s : Int} (m : Mid (V i) (V (i + 1)) x N₀ s) {v : Pt} (hv : crs (E V i) v ≠ 0) :
    Ev fun N => Off (sV N V) (ad (sm N x) v) ∧ W (sV N V) n (ad (sm N x) v) = if 0 < crs (E V i) v then 1 else 0 := by
  have c := cl_of h
  have e1 : V (i + n - 1 + 1) = V i := by rw [show i + n - 1 + 1 = i + n by have := c.pos; omega, h.per]
  have e2 : V (i + n - 1 + 2) = V (i + 1) := by rw [show i + n - 1 + 2 = i + 1 + n by have := c.pos; omega, h.per]
  have e3 : E V (i + n - 1 + 1) = E V i := by unfold E; rw [e1, e2]
  have k := near_mid h hb (i := i + n - 1) (x := x) (N₀ := N₀) (s := s) (v := v) (by rw [e1, e2]; exact m) (by rw [e3]; exact hv)
  rw [e3] at k
  exact k
theorem cross_mid {a b c d : Pt} (hx : opp (ar a b c) (ar a b d) ∧ opp (ar c d a) (ar c d b)) : ∃ M q N s N' s', 0 < M ∧ Mid (sm M a) (sm M b) q N s ∧ Mid (sm M c) (sm M d) q N' s' := by
  have lin : ar a b c - ar a b d + ar c d a - ar c d b = 0 := by unfold ar crs vec; grind
  have i1 : (ar c d a - ar c d b) * a.1 + ar c d a * (b.1 - a.1) = (ar c d a - ar c d b) * c.1 - ar a b c * (d.1 - c.1) := by unfold ar crs vec; grind
  have i2 : (ar c d a - ar c d b) * a.2 + ar c d a * (b.2 - a.2) = (ar c d a - ar c d b) * c.2 - ar a b c * (d.2 - c.2) := by unfold ar crs vec; grind
  obtain ⟨o1, o2⟩ := hx
  unfold opp at o1 o2
  generalize ar c d a = x at *
  generalize ar c d b = y at *
  generalize ar a b c = z at *
  generalize ar a b d = t at *
  by_cases k : 0 < x
  · refine ⟨x - y, ((x - y) * a.1 + x * (b.1 - a.1), (x - y) * a.2 + x * (b.2 - a.2)), x - y, x, x - y, -z, by omega, ⟨by omega, by omega, ?_, ?_⟩, by omega, by omega, ?_, ?_⟩ <;> (unfold sm; dsimp only; grind)
  · refine ⟨y - x, ((y - x) * a.1 + -x * (b.1 - a.1), (y - x) * a.2 + -x * (b.2 - a.2)), y - x, -x, y - x, z, by omega, ⟨by omega, by omega, ?_, ?_⟩, by omega, by omega, ?_, ?_⟩ <;> (unfold sm; dsimp only; grind)
theorem opp_crs {a b c d : Pt} (hx : opp (ar c d a) (ar c d b)) : crs (vec a b) (vec c d) ≠ 0 := fun e => by
  have : ar c d b - ar c d a = -crs (vec a b) (vec c d) := by unfold ar crs vec; grind
  unfold opp at hx
  omega
/-! ### Rings of the program -/
theorem ne_val {r : Pts} (h : valV r = true) : ∀ k, pV r k ≠ pV r (k + 1) := (sim_val h).ne
theorem cl_val {r : Pts} (h : valV r = true) : Cl (pV r) r.n := cl_of (sim_val h)
theorem sm2_val {r : Pts} (h : valV r = true) {M : Int} (hM : 0 < M) : Sim (sV M (pV r)) r.n ∧ ∀ i, base (sV M (pV r)) r.n i = 0 :=
  ⟨sim_sm hM (sim_val h), fun i => (base_sm hM _ _ i).trans ((base_val h).1 i)⟩
theorem w01 {r : Pts} (h : valV r = true) {M : Int} (hM : 0 < M) (p : Pt) : W (sV M (pV r)) r.n p = 0 ∨ W (sV M (pV r)) r.n p = 1 := by
  have := any (sm2_val h hM).1 (sm2_val h hM).2 p
  omega
theorem onE_on {m a b : Pt} (hab : a ≠ b) : onE (vec m a) (vec m b) = onS m a b := by
  unfold onE
  rw [Bool.eq_iff_iff, Bool.and_eq_true, decide_eq_true_eq, decide_eq_true_eq]
  constructor
  · rintro ⟨h1, h2⟩
    obtain ⟨N, s, k⟩ := seg_of hab h1 h2
    exact on_seg k
  · intro h
    obtain ⟨N, s, k⟩ := seg_on h
    refine ⟨by rw [← k.lin]; unfold ar crs vec; grind, ?_⟩
    rcases onS_iff.1 h with rfl | rfl | ⟨_, h⟩
    · unfold dot vec; simp
    · unfold dot vec; simp
    · omega
theorem dbl_sm (a m : Pt) : dbl a m = vec m (sm 2 a) := rfl
theorem wdV_2 (r : Pts) (m : Pt) : wdV r m = W (sV 2 (pV r)) r.n m := sumI_congr fun k hk => by
  unfold wdI wd
  rw [dbl_sm, dbl_sm]
  unfold sV
  rw [pV_nxt, pV_lt hk, Nat.mod_eq_of_lt hk]
theorem onV_2 {r : Pts} (h : valV r = true) (m : Pt) : onV r m = false ↔ Off (sV 2 (pV r)) m := by
  have e : ∀ k, k < r.n → onI r m k = onS m (sV 2 (pV r) k) (sV 2 (pV r) (k + 1)) := fun k hk => by
    unfold onI
    rw [dbl_sm, dbl_sm]
    have : nxt r k = pV r (k + 1) := by rw [pV_nxt, Nat.mod_eq_of_lt hk]
    rw [this, ← pV_lt hk]
    exact onE_on fun e => ne_val h k (sm_inj (by omega) e)
  unfold onV
  rw [orB_false]
  constructor
  · intro k
    exact off_lt ((cl_val h).sm 2) fun i hi => by rw [← e i hi]; exact k i hi
  · intro k i hi
    rw [e i hi]
    exact k i
theorem out_iff {r : Pts} (h : valV r = true) (m : Pt) : outV r m = true ↔ Off (sV 2 (pV r)) m ∧ W (sV 2 (pV r)) r.n m = 0 := by
  unfold outV
  rw [Bool.and_eq_true, decide_eq_true_eq, Bool.not_eq_true', onV_2 h, wdV_2]
  exact and_comm
theorem ins_iff {r : Pts} (h : valV r = true) (m : Pt) : insV r m = true ↔ Off (sV 2 (pV r)) m ∧ W (sV 2 (pV r)) r.n m = 1 := by
  have := w01 h (M := 2) (by omega) m
  unfold insV
  rw [Bool.and_eq_true, Bool.not_eq_true', decide_eq_false_iff_not, Bool.not_eq_true', onV_2 h, wdV_2]
  constructor
  · rintro ⟨k1, k2⟩; exact ⟨k2, by omega⟩
  · rintro ⟨k1, k2⟩; exact ⟨by omega, k1⟩
theorem bet_on {p a b : Pt} (h : betV p a b = true) : onS p a b = true := by
  unfold betV at h
  simp only [Bool.and_eq_true] at h
  exact h.2
theorem nocr_of {a b c d : Pt} (h : crV a b c d ≠ 2) : ¬(opp (ar a b c) (ar a b d) ∧ opp (ar c d a) (ar c d b)) := by
  rintro ⟨h1, h2⟩
  have z : ∀ {p q r : Pt}, betV p q r = true → ar q r p = 0 := fun k => by
    obtain ⟨N, s, m⟩ := seg_on (bet_on k)
    exact m.lin
  have t : tch a b c d = false := by
    rw [← Bool.not_eq_true]
    intro k
    unfold tch at k
    simp only [Bool.or_eq_true] at k
    unfold opp at h1 h2
    rcases k with ((k | k) | k) | k
    · have := z k; omega
    · have := z k; omega
    · have := z k; omega
    · have := z k; omega
  apply h
  unfold crV
  rw [if_neg (by rw [t]; decide), if_pos (by rw [Bool.and_eq_true]; exact ⟨prt_iff.2 h1, prt_iff.2 h2⟩)]
theorem cr_of {a b c d : Pt} (h : crV a b c d = 2) : opp (ar a b c) (ar a b d) ∧ opp (ar c d a) (ar c d b) := by
  unfold crV at h
  split at h
  · omega
  · split at h
    · rename_i k
      rw [Bool.and_eq_true] at k
      exact ⟨prt_iff.1 k.1, prt_iff.1 k.2⟩
    · omega
/-- No sides cross. -/
def NoX (A V : Nat → Pt) : Prop := ∀ i k, ¬(opp (ar (A i) (A (i + 1)) (V k)) (ar (A i) (A (i + 1)) (V (k + 1))) ∧ opp (ar (V k) (V (k + 1)) (A i)) (ar (V k) (V (k + 1)) (A (i + 1))))
theorem NoX.sym {A V : Nat → Pt} (h : NoX A V) : NoX V A := fun i k ⟨h1, h2⟩ => h k i ⟨h2, h1⟩
theorem pV_two {r : Pts} (h : 0 < r.n) (i : Nat) : i % r.n < r.n ∧ pV r i = r.p (i % r.n) ∧ pV r (i + 1) = nxt r (i % r.n) := ⟨Nat.mod_lt _ h, rfl, pV_nxt r i⟩
theorem nox_iff {r s : Pts} (hr : 0 < r.n) (hs : 0 < s.n) : crossB r s = false ↔ NoX (pV r) (pV s) := by
  unfold crossB
  rw [orB_false]
  constructor
  · intro h i k
    obtain ⟨i1, i2, i3⟩ := pV_two hr i
    obtain ⟨k1, k2, k3⟩ := pV_two hs k
    have := orB_false.1 (h _ i1) _ k1
    unfold crI at this
    have := of_decide_eq_false this
    rw [← i2, ← i3, ← k2, ← k3] at this
    exact nocr_of this
  · intro h i hi
    unfold crR
    rw [orB_false]
    intro k hk
    unfold crI
    rw [decide_eq_false_iff_not]
    intro e
    have := h i k
    rw [pV_nxt, pV_nxt, pV_lt hi, pV_lt hk, Nat.mod_eq_of_lt hi, Nat.mod_eq_of_lt hk] at this
    exact this (cr_of e)
theorem fp_sq {a b u : Pt} (h : ar a b u = 0) : sqd a u * fp a b b = fp a b u * fp a b u := by
  unfold sqd fp ar crs dot vec at *
  dsimp only at *
  grind
/-- Distances from the first end of a side are as the places along it. -/
theorem dist_fp {a b u v : Pt} (hab : a ≠ b) (ha : onB a = true) (hu : onB u = true ∧ onS u a b = true) (hv : onB v = true ∧ onS v a b = true) : distV a u < distV a v ↔ fp a b u < fp a b v := by
  have f1 := fp_on hab hu.2
  have f2 := fp_on hab hv.2
  have q1 := fp_sq f1.2
  have q2 := fp_sq f2.2
  have pb := fp_pos hab
  unfold distV
  rw [if_pos ⟨ha, hu.1⟩, if_pos ⟨ha, hv.1⟩]
  constructor
  · intro k
    refine Int.not_le.1 fun hn => ?_
    have a1 := Int.mul_lt_mul_of_pos_right k pb
    have a2 := Int.mul_le_mul hn hn (by omega) (by omega)
    omega
  · intro k
    refine Int.not_le.1 fun hn => ?_
    have a1 := Int.mul_le_mul_of_nonneg_right hn (Int.le_of_lt pb)
    have a2 := Int.mul_lt_mul_of_pos_left k (show 0 < fp a b v by omega)
    have a3 := Int.mul_le_mul_of_nonneg_right (Int.le_of_lt k) f1.1.1
    omega
section
variable {r s : Pts} (vr : valV r = true) (vs : valV s = true)
include vr vs
theorem stops_val (hx : NoX (pV r) (pV s)) (i : Nat) (hi : i < r.n) : Stops (pV r i) (pV r (i + 1)) (stL r s i) (pV s) := by
  have hr := (val_ok vr).1.2
  have hs := (val_ok vs).1.2
  have e2 : pV r (i + 1) = nxt r i := by rw [pV_nxt, Nat.mod_eq_of_lt hi]
  have ha := hr i hi
  have hb := nxt_on hr hi
  have hsn : 0 < s.n := (cl_val vs).pos
  refine ⟨ne_val vr i, ?_, ?_, fun u hu => ?_, fun k hk => ?_, fun k => hx i k⟩
  · rw [pV_lt hi]; unfold stL stK; simp
  · rw [e2]; unfold stL stK; simp
  · rw [e2, pV_lt hi]
    exact (stops_on ha hb u hu).2
  · rw [e2, pV_lt hi] at hk
    unfold stL stK
    rw [List.mem_append, List.mem_filter]
    refine Or.inr ⟨mem_lsR.2 ⟨k % s.n, Nat.mod_lt _ hsn, rfl⟩, ?_⟩
    unfold betV
    have ho : onB (pV s k) = true := hs _ (Nat.mod_lt _ hsn)
    rw [ho, ha, hb, hk]
    rfl
omit vs in
theorem mem_mid (m : Pt) : m ∈ midL r s ↔ ∃ i u v, i < r.n ∧ Nxt (pV r i) (pV r (i + 1)) (stL r s i) u v ∧ m = ad u v := by
  have hr := (val_ok vr).1.2
  unfold midL midK
  rw [List.mem_flatMap]
  have key : ∀ i, i < r.n → (m ∈ midI r s i ↔ ∃ u v, Nxt (pV r i) (pV r (i + 1)) (stL r s i) u v ∧ m = ad u v) := fun i hi => by
    have ha := hr i hi
    have hb := nxt_on hr hi
    have e2 : pV r (i + 1) = nxt r i := by rw [pV_nxt, Nat.mod_eq_of_lt hi]
    have hab : r.p i ≠ nxt r i := by rw [← e2, ← pV_lt hi]; exact ne_val vr i
    unfold midI
    rw [mem_midS, e2, pV_lt hi]
    constructor
    · rintro ⟨u, v, hu, hv, h1, h2, e⟩
      have ku := stops_on ha hb u hu
      have kv := stops_on ha hb v hv
      exact ⟨u, v, ⟨hu, hv, (dist_fp hab ha ku kv).1 h1, fun w hw ⟨w1, w2⟩ => h2 w hw ⟨(dist_fp hab ha ku (stops_on ha hb w hw)).2 w1, (dist_fp hab ha (stops_on ha hb w hw) kv).2 w2⟩⟩, e⟩
    · rintro ⟨u, v, x, e⟩
      have ku := stops_on ha hb u x.um
      have kv := stops_on ha hb v x.vm
      exact ⟨u, v, x.um, x.vm, (dist_fp hab ha ku kv).2 x.lt, fun w hw ⟨w1, w2⟩ => x.no w hw ⟨(dist_fp hab ha ku (stops_on ha hb w hw)).1 w1, (dist_fp hab ha (stops_on ha hb w hw) kv).1 w2⟩, e⟩
  constructor
  · rintro ⟨i, hi, h⟩
    have hi' := List.mem_range.1 hi
    obtain ⟨u, v, h1, h2⟩ := (key i hi').1 h
    exact ⟨i, u, v, hi', h1, h2⟩
  · rintro ⟨i, u, v, hi, h1, h2⟩
    exact ⟨i, List.mem_range.2 hi, (key i hi).2 ⟨u, v, h1, h2⟩⟩
theorem avoid_of (hx : NoX (pV r) (pV s)) {β : Int} (hm : ∀ m, m ∈ midL r s → Off (sV 2 (pV s)) m → W (sV 2 (pV s)) s.n m ≠ β) : Avoid β (pV r) (pV s) s.n := by
  intro M hM i q N t sg ho hw
  have hi := (cl_val vr).lt i
  have e := (cl_val vr).mod i
  have sg' : Seg (sm M (pV r (i % r.n))) (sm M (pV r (i % r.n + 1))) q N t := by rw [← e.1, ← e.2]; exact sg
  obtain ⟨u, v, x, h1, h2⟩ := parts (stops_val vr vs hx _ hi) (cl_val vs) (ne_val vs) hM sg' ho
  exact hm _ ((mem_mid vr _).2 ⟨_, u, v, hi, x, rfl⟩) h1 (h2.trans hw)
omit vr vs in
theorem avoid_sm {A V : Nat → Pt} {n : Nat} {β : Int} (h : Avoid β A V n) {K : Int} (hK : 0 < K) : Avoid β (sV K A) (sV K V) n := fun M hM i q N t sg ho => by
  rw [sV_sV] at sg ho ⊢
  exact h _ (Int.mul_pos hM hK) i q N t sg ho
/-- A middle lies inside its side. -/
theorem mid_mid (hx : NoX (pV r) (pV s)) {i : Nat} (hi : i < r.n) {u v : Pt} (x : Nxt (pV r i) (pV r (i + 1)) (stL r s i) u v) : ∃ N t, Mid (sV 2 (pV r) i) (sV 2 (pV r) (i + 1)) (ad u v) N t := by
  have S := stops_val vr vs hx i hi
  have hu := fp_on S.ne (S.on u x.um)
  have hv := fp_on S.ne (S.on v x.vm)
  have lt := x.lt
  have a1 := hu.2
  have a2 := hv.2
  refine ⟨2 * fp (pV r i) (pV r (i + 1)) (pV r (i + 1)), fp (pV r i) (pV r (i + 1)) u + fp (pV r i) (pV r (i + 1)) v, by omega, by omega, ?_, ?_⟩
  · unfold fp dot ar crs ad sV sm vec at *
    dsimp only at *
    grind
  · unfold fp dot ar crs ad sV sm vec at *
    dsimp only at *
    grind
end
end K6
end
