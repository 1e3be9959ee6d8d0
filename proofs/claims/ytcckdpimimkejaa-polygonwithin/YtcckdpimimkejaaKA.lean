/- A part of the proof: see the last text. -/
import Derived.Test.YtcckdpimimkejaaJB
import Derived.Test.YtcckdpimimkejaaG13
/- Closed rings that do not meet: windings are the same along each of them; the way to the right. -/
section
open Go.Proofs G1 G2 G3 G4 G16 G19 J1 J2 J3 J4 J5 J6 J7
set_option maxRecDepth 100000
namespace K1
/-- For all great numbers. -/
def Ev (P : Int → Prop) : Prop := ∃ B : Int, ∀ N, B ≤ N → P N
theorem Ev.and {P Q : Int → Prop} (h : Ev P) (k : Ev Q) : Ev fun N => P N ∧ Q N := by
  obtain ⟨A, ha⟩ := h
  obtain ⟨B, hb⟩ := k
  exact ⟨max A B, fun N hN => ⟨ha N (by omega), hb N (by omega)⟩⟩
theorem Ev.mono {P Q : Int → Prop} (h : Ev P) (k : ∀ N, P N → Q N) : Ev Q := by
  obtain ⟨A, ha⟩ := h
  exact ⟨A, fun N hN => k N (ha N hN)⟩
theorem Ev.of {P : Int → Prop} (h : ∀ N, P N) : Ev P := ⟨0, fun N _ => h N⟩
theorem Ev.ge (B : Int) : Ev fun N => B ≤ N := ⟨B, fun _ h => h⟩
theorem Ev.all {P : Nat → Int → Prop} : ∀ {n : Nat}, (∀ k, k < n → Ev (P k)) → Ev fun N => ∀ k, k < n → P k N
  | 0, _ => Ev.of fun _ k h => absurd h (by omega)
  | n + 1, h => by
    refine ((Ev.all (n := n) fun k hk => h k (by omega)).and (h n (by omega))).mono ?_
    rintro N ⟨h1, h2⟩ k hk
    by_cases e : k = n
    · rw [e]; exact h2
    · exact h1 k (by omega)
theorem Ev.ex {P : Int → Prop} (h : Ev P) : ∃ N, 0 < N ∧ P N := by
  obtain ⟨A, ha⟩ := h
  exact ⟨max A 1, by omega, ha _ (by omega)⟩
theorem lin_pos {N x y : Int} (h : 0 < x) (h0 : 0 ≤ N) (h1 : -y < N) : 0 < N * x + y := by
  have k := Int.mul_nonneg h0 (show 0 ≤ x - 1 by omega)
  have e : N * (x - 1) = N * x - N := by grind
  omega
theorem Ev.lin {x : Int} (y : Int) (h : 0 < x) : Ev fun N => 0 < N * x + y := ⟨max 0 (1 - y), fun N hN => lin_pos h (by omega) (by omega)⟩
theorem Ev.lin_neg {x : Int} (y : Int) (h : x < 0) : Ev fun N => N * x + y < 0 := (Ev.lin (x := -x) (-y) (by omega)).mono fun N k => by
  have e : N * -x = -(N * x) := by grind
  omega
/-- A closed ring. -/
structure Cl (V : Nat → Pt) (n : Nat) : Prop where
  pos : 0 < n
  per : ∀ i, V (i + n) = V i
theorem cl_of {V : Nat → Pt} {n : Nat} (h : Sim V n) : Cl V n := ⟨by have := h.three; omega, h.per⟩
theorem Cl.sm {V : Nat → Pt} {n : Nat} (h : Cl V n) (M : Int) : Cl (sV M V) n := ⟨h.pos, fun i => congrArg (J2.sm M) (h.per i)⟩
theorem Cl.wd_per {V : Nat → Pt} {n : Nat} (h : Cl V n) (p : Pt) (i : Nat) : wd V p (i + n) = wd V p i := by
  unfold wd
  rw [h.per, show i + n + 1 = i + 1 + n by omega, h.per]
theorem Cl.mod {V : Nat → Pt} {n : Nat} (h : Cl V n) (i : Nat) : V i = V (i % n) ∧ V (i + 1) = V (i % n + 1) :=
  ⟨per_mod h.per i, by rw [per_mod h.per (i + 1), per_mod h.per (i % n + 1), Nat.mod_add_mod]⟩
theorem Cl.lt {V : Nat → Pt} {n : Nat} (h : Cl V n) (i : Nat) : i % n < n := Nat.mod_lt _ h.pos
/-- Each side is one of those from a place on. -/
theorem Cl.find {V : Nat → Pt} {n : Nat} (h : Cl V n) (i j : Nat) : ∃ l, l < n ∧ V j = V (i + l) ∧ V (j + 1) = V (i + l + 1) := by
  have le : i ≤ n * i := Nat.le_mul_of_pos_left _ h.pos
  refine ⟨(j + n * i - i) % n, h.lt _, ?_, ?_⟩
  · have e := (h.mod j).1
    have e2 := (h.mod (i + (j + n * i - i) % n)).1
    rw [Nat.add_mod_mod, show i + (j + n * i - i) = j + n * i by omega, Nat.add_mul_mod_self_left] at e2
    rw [e, e2]
  · have e := (h.mod j).2
    have e2 := (h.mod (i + (j + n * i - i) % n)).2
    rw [Nat.add_mod_mod, show i + (j + n * i - i) = j + n * i by omega, Nat.add_mul_mod_self_left] at e2
    rw [e, e2]
theorem sep_sym {a b c d : Pt} (h : Sep a b c d) : Sep c d a b := by
  obtain ⟨n, h1, h2, h3, h4⟩ := h
  have e : ∀ p q, dot (ng n) (vec p q) = dot n (vec q p) := fun p q => by unfold dot ng vec; grind
  exact ⟨ng n, by rw [e]; exact h1, by rw [e]; exact h4, by rw [e]; exact h3, by rw [e]; exact h2⟩
theorem sep_sm {M : Int} (hM : 0 < M) {a b c d : Pt} (h : Sep a b c d) : Sep (sm M a) (sm M b) (sm M c) (sm M d) := by
  obtain ⟨n, h1, h2, h3, h4⟩ := h
  have e : ∀ p q, dot n (vec (sm M p) (sm M q)) = M * dot n (vec p q) := fun p q => by unfold dot sm vec; grind
  exact ⟨n, by rw [e]; exact Int.mul_pos hM h1, by rw [e]; exact Int.mul_pos hM h2, by rw [e]; exact Int.mul_pos hM h3, by rw [e]; exact Int.mul_pos hM h4⟩
theorem sep_swap {a b c d : Pt} (h : Sep a b c d) : Sep b a c d := by
  obtain ⟨n, h1, h2, h3, h4⟩ := h
  exact ⟨n, h4, h3, h2, h1⟩
theorem sep_seg {a b c d q : Pt} {N s : Int} (h : Sep a b c d) (m : Seg a b q N s) : Sep a q c d := by
  obtain ⟨n, h1, h2, h3, h4⟩ := h
  exact ⟨n, h1, h2, m.pos h2 h3, m.pos h1 h4⟩
section
variable {V : Nat → Pt} {n : Nat} (h : Cl V n)
include h
/-- The windings about two points are the same where no side separates them. -/
theorem two_all {a b : Pt} (hs : ∀ k, k < n → Sep a b (V k) (V (k + 1))) : W V n a = W V n b := by
  have e : W V n a - W V n b = 0 := by
    unfold W
    rw [← sumI_sub]
    have k : sumI (fun l => wd V a l - wd V b l) n = sumI (fun l => (fun j => wnd (vec a (V j)) (vec b (V j))) l - (fun j => wnd (vec a (V j)) (vec b (V j))) (l + 1)) n :=
      sumI_congr fun l hl => cell (hs l hl)
    rw [k, sum_tele]
    have z : V n = V 0 := by have := h.per 0; rwa [Nat.zero_add] at this
    rw [z]
    omega
  omega
/-- All sides but one. -/
theorem two_but {a b : Pt} (i : Nat) (hs : ∀ l, l + 1 < n → Sep a b (V (i + 1 + l)) (V (i + 1 + l + 1))) :
    (W V n a - wd V a i) - (W V n b - wd V b i) = wnd (vec a (V (i + 1))) (vec b (V (i + 1))) - wnd (vec a (V i)) (vec b (V i)) := by
  obtain ⟨m, hm⟩ : ∃ m, n = 1 + m := ⟨n - 1, by have := h.pos; omega⟩
  have e : ∀ p, W V n p - wd V p i = sumI (fun l => wd V p (i + 1 + l)) m := fun p => by
    unfold W
    rw [← sum_shift (h.wd_per p) i]
    have e0 : sumI (fun k => wd V p (i + k)) n = sumI (fun k => wd V p (i + k)) 1 + sumI (fun k => wd V p (i + (1 + k))) m := by rw [hm]; exact sumI_add
    have e1 : sumI (fun k => wd V p (i + k)) 1 = wd V p i := by simp [sumI]
    have e2 : sumI (fun k => wd V p (i + (1 + k))) m = sumI (fun l => wd V p (i + 1 + l)) m := sumI_congr fun l _ => by rw [Nat.add_assoc]
    omega
  rw [e, e, ← sumI_sub]
  have k : sumI (fun l => wd V a (i + 1 + l) - wd V b (i + 1 + l)) m = sumI (fun l => (fun j => wnd (vec a (V (i + 1 + j))) (vec b (V (i + 1 + j)))) l - (fun j => wnd (vec a (V (i + 1 + j))) (vec b (V (i + 1 + j)))) (l + 1)) m :=
    sumI_congr fun l hl => cell (hs l (by omega))
  rw [k, sum_tele]
  have z : V (i + 1 + m) = V i := by rw [show i + 1 + m = i + n by omega, h.per]
  rw [z]
theorem common : ∃ M : Int, 0 < M ∧ ∀ k, (V (k + 1)).2 = (V k).2 ∨ ∃ c, M = c * ((V (k + 1)).2 - (V k).2) := by
  have h3 := h.pos
  have p0 := prod_ne (f := fac V) (n := n) fun k _ => fac_ne V k
  refine ⟨prodI (fac V) n * prodI (fac V) n, ?_, fun k => ?_⟩
  · rcases Int.lt_or_gt_of_ne p0 with k | k
    · have := Int.mul_pos (show 0 < -prodI (fac V) n by omega) (show 0 < -prodI (fac V) n by omega)
      rwa [Int.neg_mul_neg] at this
    · exact Int.mul_pos k k
  · by_cases e : (V (k + 1)).2 = (V k).2
    · exact Or.inl e
    · refine Or.inr ?_
      have e1 : fac V (k % n) = (V (k + 1)).2 - (V k).2 := by
        have e2 : V (k % n) = V k := (per_mod h.per k).symm
        have e3 : V (k % n + 1) = V (k + 1) := by rw [per_mod h.per (k + 1), per_mod h.per (k % n + 1), Nat.mod_add_mod]
        unfold fac
        rw [e2, e3, if_neg e]
      obtain ⟨c, hc⟩ := prod_dvd (f := fac V) (Nat.mod_lt k (show 0 < n by omega))
      rw [e1] at hc
      refine ⟨prodI (fac V) n * c, ?_⟩
      rw [Int.mul_assoc]
      rw [Int.mul_comm c, ← hc]
theorem bound_x : ∃ B : Int, ∀ k, (V k).1 < B := by
  obtain ⟨B, hB⟩ := bound (fun k => (V k).1) n
  exact ⟨B, fun k => by rw [per_mod h.per k]; exact hB _ (h.lt k)⟩
omit h in
/-- To the right of all there is no winding. -/
theorem W_right {p : Pt} (hB : ∀ k, (V k).1 ≤ p.1) : W V n p = 0 := sum_zero fun k _ => by
  have k1 : (vec p (V k)).1 ≤ 0 := by have := hB k; unfold vec; dsimp only; omega
  have k2 : (vec p (V (k + 1))).1 ≤ 0 := by have := hB (k + 1); unfold vec; dsimp only; omega
  unfold wd
  generalize vec p (V k) = X at *
  generalize vec p (V (k + 1)) = Y at *
  have c : crs X Y = X.1 * Y.2 - X.2 * Y.1 := rfl
  unfold wnd
  split
  · rename_i h
    exfalso
    have l1 := Int.mul_nonneg (show 0 ≤ -X.1 by omega) (Int.le_of_lt h.2.1)
    have l2 := Int.mul_nonneg (show 0 ≤ -X.2 by omega) (show 0 ≤ -Y.1 by omega)
    rw [Int.neg_mul_neg] at l2
    rw [Int.neg_mul] at l1
    omega
  · split
    · rename_i h
      exfalso
      have l1 := Int.mul_nonneg (show 0 ≤ -X.1 by omega) (show 0 ≤ -Y.2 by omega)
      have l2 := Int.mul_nonneg (Int.le_of_lt h.1) (show 0 ≤ -Y.1 by omega)
      rw [Int.neg_mul_neg] at l1
      rw [Int.mul_neg] at l2
      omega
    · rfl
end
theorem grid_mul {V : Nat → Pt} {M c : Int} (hc : ∀ k, (V (k + 1)).2 = (V k).2 ∨ ∃ c, M = c * ((V (k + 1)).2 - (V k).2)) {M' : Int} (e : M' = c * M) (x y : Int) : Grid (sV M' V) (x, M' * y) := fun k => by
  rcases hc k with e1 | ⟨b, e1⟩
  · exact Or.inl (congrArg (M' * ·) e1)
  · refine Or.inr ⟨c * b * ((V (k + 1)).1 - (V k).1) * (y - (V k).2) - (x - M' * (V k).1), ?_⟩
    have e2 : M' = c * b * ((V (k + 1)).2 - (V k).2) := by rw [e, e1, Int.mul_assoc]
    unfold ar crs vec sV sm
    dsimp only
    grind
/-- Two closed rings that do not meet. -/
def Apt (A C : Nat → Pt) : Prop := ∀ i j, Sep (A i) (A (i + 1)) (C j) (C (j + 1))
theorem Apt.sym {A C : Nat → Pt} (h : Apt A C) : Apt C A := fun i j => sep_sym (h j i)
theorem Apt.sm {A C : Nat → Pt} (h : Apt A C) {M : Int} (hM : 0 < M) : Apt (sV M A) (sV M C) := fun i j => sep_sm hM (h i j)
section
variable {A C : Nat → Pt} {n m : Nat} (hA : Cl A n) (hC : Cl C m) (hd : Apt A C)
include hC hd
theorem Apt.same (i : Nat) : W C m (A i) = W C m (A 0) := by
  induction i with
  | zero => rfl
  | succ i ih => rw [← ih]; exact (two_all hC fun k _ => hd i k).symm
theorem Apt.on {i : Nat} {q : Pt} {N s : Int} (hq : Seg (A i) (A (i + 1)) q N s) : W C m q = W C m (A 0) := by
  rw [← hd.same hC i]
  exact (two_all hC fun k _ => sep_seg (hd i k) hq).symm
include hA
/-- The way to the right. -/
theorem ray (p : Pt) : W A n p = W A n (C 0) ∨ W C m p = W C m (A 0) ∨ (W A n p = 0 ∧ W C m p = 0) := by
  obtain ⟨M1, p1, c1⟩ := common hA
  obtain ⟨M2, p2, c2⟩ := common hC
  have hM := Int.mul_pos p1 p2
  have hd' := hd.sm hM
  have hA' := hA.sm (M1 * M2)
  have hC' := hC.sm (M1 * M2)
  obtain ⟨B1, b1⟩ := bound_x hA'
  obtain ⟨B2, b2⟩ := bound_x hC'
  have gA : ∀ x, Grid (sV (M1 * M2) A) (x, M1 * M2 * p.2) := fun x => grid_mul c1 (Int.mul_comm M1 M2) x p.2
  have gC : ∀ x, Grid (sV (M1 * M2) C) (x, M1 * M2 * p.2) := fun x => grid_mul c2 rfl x p.2
  have main : ∀ t : Nat, ∀ x : Int, max B1 B2 - x ≤ t → W (sV (M1 * M2) A) n (x, M1 * M2 * p.2) = W (sV (M1 * M2) A) n (sV (M1 * M2) C 0) ∨ W (sV (M1 * M2) C) m (x, M1 * M2 * p.2) = W (sV (M1 * M2) C) m (sV (M1 * M2) A 0) ∨ (W (sV (M1 * M2) A) n (x, M1 * M2 * p.2) = 0 ∧ W (sV (M1 * M2) C) m (x, M1 * M2 * p.2) = 0) := fun t => by
    induction t with
    | zero =>
      intro x hx
      refine Or.inr (Or.inr ⟨W_right fun k => ?_, W_right fun k => ?_⟩)
      · have := b1 k; dsimp only; omega
      · have := b2 k; dsimp only; omega
    | succ t ih =>
      intro x hx
      have ih' := ih (x + 1) (by omega)
      by_cases ka : ∀ k, wd (sV (M1 * M2) A) (x, M1 * M2 * p.2) k = wd (sV (M1 * M2) A) (x + 1, M1 * M2 * p.2) k
      · have ea : W (sV (M1 * M2) A) n (x, M1 * M2 * p.2) = W (sV (M1 * M2) A) n (x + 1, M1 * M2 * p.2) := sumI_congr fun k _ => ka k
        by_cases kc : ∀ k, wd (sV (M1 * M2) C) (x, M1 * M2 * p.2) k = wd (sV (M1 * M2) C) (x + 1, M1 * M2 * p.2) k
        · have ec : W (sV (M1 * M2) C) m (x, M1 * M2 * p.2) = W (sV (M1 * M2) C) m (x + 1, M1 * M2 * p.2) := sumI_congr fun k _ => kc k
          rw [ea, ec]
          exact ih'
        · obtain ⟨k, hk⟩ := Classical.not_forall.1 kc
          obtain ⟨⟨N, s, hs⟩, _⟩ := hits (p := (x, M1 * M2 * p.2)) (q := (x + 1, M1 * M2 * p.2)) rfl (gC _) k hk
          exact Or.inl (ea.trans (hd'.sym.on hA' hs))
      · obtain ⟨k, hk⟩ := Classical.not_forall.1 ka
        obtain ⟨⟨N, s, hs⟩, _⟩ := hits (p := (x, M1 * M2 * p.2)) (q := (x + 1, M1 * M2 * p.2)) rfl (gA _) k hk
        refine Or.inr (Or.inl ?_)
        have kc : ∀ j, wd (sV (M1 * M2) C) (x, M1 * M2 * p.2) j = wd (sV (M1 * M2) C) (x + 1, M1 * M2 * p.2) j := fun j => by
          refine Classical.byContradiction fun hj => ?_
          obtain ⟨⟨N', s', hs'⟩, _⟩ := hits (p := (x, M1 * M2 * p.2)) (q := (x + 1, M1 * M2 * p.2)) rfl (gC _) j hj
          exact no_two (hd' k j) hs hs'
        have ec : W (sV (M1 * M2) C) m (x, M1 * M2 * p.2) = W (sV (M1 * M2) C) m (x + 1, M1 * M2 * p.2) := sumI_congr fun k _ => kc k
        exact ec.trans (hd'.on hC' hs)
  have k := main (max B1 B2 - M1 * M2 * p.1).toNat (M1 * M2 * p.1) (by omega)
  have e1 : W (sV (M1 * M2) A) n (M1 * M2 * p.1, M1 * M2 * p.2) = W A n p := W_sm hM A n p
  have e2 : W (sV (M1 * M2) C) m (M1 * M2 * p.1, M1 * M2 * p.2) = W C m p := W_sm hM C m p
  have e3 : W (sV (M1 * M2) A) n (sV (M1 * M2) C 0) = W A n (C 0) := W_sm hM A n (C 0)
  have e4 : W (sV (M1 * M2) C) m (sV (M1 * M2) A 0) = W C m (A 0) := W_sm hM C m (A 0)
  rw [e1, e2, e3, e4] at k
  exact k
end
end K1
end
/- Points that are not on a ring, and those inside a side: what is near them. -/
section
open Go.Proofs G1 G2 G3 G4 G11 G16 G19 J1 J2 J3 J4 J5 J6 J7 J12 K1
set_option maxRecDepth 100000
namespace K2
theorem ad_z (X : Pt) : ad X (0, 0) = X := Prod.ext (Int.add_zero _) (Int.add_zero _)
theorem seg_on {p a b : Pt} (h : onS p a b = true) : ∃ N s, Seg a b p N s := by
  rcases onS_iff.1 h with rfl | rfl | ⟨h1, h2⟩
  · exact ⟨1, 0, Seg.at _ _⟩
  · exact ⟨1, 1, by omega, by omega, by omega, by omega, by omega⟩
  · refine seg_of (fun e => ?_) ?_ (by omega)
    · subst e
      have k1 := J1.sq0 (a.1 - p.1)
      have k2 := J1.sq0 (a.2 - p.2)
      unfold dot vec at h2
      dsimp only at h2
      omega
    · rw [← h1]; unfold ar crs vec; grind
theorem on_seg {p a b : Pt} {N s : Int} (m : Seg a b p N s) : onS p a b = true := by
  rw [← Bool.not_eq_false, onS_no]
  rintro ⟨h1, h2, h3⟩
  have h4 := h3 m.lin
  have hs0 : s ≠ 0 := fun e => by subst e; exact h1 m.first
  have hsN : s ≠ N := fun e => by subst e; exact h2 m.last
  have e : N * N * dot (vec p a) (vec p b) = -(s * (N - s) * dot (vec a b) (vec a b)) := by
    have e1 := m.e1
    have e2 := m.e2
    unfold dot vec
    dsimp only
    grind
  have k1 := Int.mul_nonneg (Int.mul_nonneg (Int.le_of_lt m.N0) (Int.le_of_lt m.N0)) h4
  have k2 : 0 < s * (N - s) := Int.mul_pos (by have := m.s0; omega) (by have := m.sN; omega)
  by_cases hab : a = b
  · subst hab
    have e1 := m.e1
    have e2 := m.e2
    rw [Int.sub_self, Int.mul_zero] at e1 e2
    have := m.N0
    have f1 := Int.mul_eq_zero.1 e1
    have f2 := Int.mul_eq_zero.1 e2
    exact h1 (Prod.ext (by omega) (by omega))
  · have k3 := Int.mul_pos k2 (sq_pos hab)
    omega
/-- Where all is on one side of the point. -/
theorem off_of {ν p a b : Pt} (h1 : 0 < dot ν (vec p a)) (h2 : 0 < dot ν (vec p b)) : onS p a b = false := by
  rw [← Bool.not_eq_true]
  intro h
  obtain ⟨N, s, m⟩ := seg_on h
  have e : ∀ q, dot (ng ν) (vec q p) = dot ν (vec p q) := fun q => by unfold dot ng vec; grind
  have k := m.pos (n := ng ν) (t := p) (by rw [e]; exact h1) (by rw [e]; exact h2)
  have z : dot (ng ν) (vec p p) = 0 := by unfold dot vec; grind
  omega
theorem sep_off {p q a b : Pt} (h : Sep p q a b) : onS p a b = false ∧ onS q a b = false := by
  obtain ⟨ν, h1, h2, h3, h4⟩ := h
  exact ⟨off_of h1 h2, off_of h4 h3⟩
theorem off_sep {p a b : Pt} (h : onS p a b = false) : Sep p p a b := by
  by_cases hab : a = b
  · subst hab
    obtain ⟨h1, _, _⟩ := onS_no.1 h
    exact ⟨vec p a, sq_pos h1, sq_pos h1, sq_pos h1, sq_pos h1⟩
  · obtain ⟨h1, h2, _⟩ := onS_no.1 h
    have z : ∀ c : Pt, ar p p c = 0 := fun c => by unfold ar crs vec; grind
    refine sep_of hab ⟨h, h, ?_, ?_, fun k => ?_⟩
    · exact onS_no.2 ⟨fun e => h1 e.symm, fun e => h1 e.symm, fun _ => Int.le_of_lt (sq_pos fun e => h1 e.symm)⟩
    · exact onS_no.2 ⟨fun e => h2 e.symm, fun e => h2 e.symm, fun _ => Int.le_of_lt (sq_pos fun e => h2 e.symm)⟩
    · have := k.1
      rw [z, z] at this
      unfold opp at this
      omega
theorem dot_near (ν a c u t : Pt) (N : Int) : dot ν (vec (ad (sm N a) u) (ad (sm N c) t)) = N * dot ν (vec a c) + (dot ν t - dot ν u) := by unfold dot vec ad sm; grind
/-- What is separated stays so. -/
theorem ev_sep {a b c d : Pt} (h : Sep a b c d) (u1 u2 u3 u4 : Pt) : Ev fun N => Sep (ad (sm N a) u1) (ad (sm N b) u2) (ad (sm N c) u3) (ad (sm N d) u4) := by
  obtain ⟨ν, h1, h2, h3, h4⟩ := h
  refine ((((Ev.lin (dot ν u3 - dot ν u1) h1).and (Ev.lin (dot ν u4 - dot ν u1) h2)).and (Ev.lin (dot ν u4 - dot ν u2) h3)).and (Ev.lin (dot ν u3 - dot ν u2) h4)).mono ?_
  rintro N ⟨⟨⟨k1, k2⟩, k3⟩, k4⟩
  exact ⟨ν, by rw [dot_near]; exact k1, by rw [dot_near]; exact k2, by rw [dot_near]; exact k3, by rw [dot_near]; exact k4⟩
/-- A point that is on no side. -/
def Off (V : Nat → Pt) (p : Pt) : Prop := ∀ k, onS p (V k) (V (k + 1)) = false
theorem off_lt {V : Nat → Pt} {n : Nat} (h : Cl V n) {p : Pt} (k : ∀ i, i < n → onS p (V i) (V (i + 1)) = false) : Off V p := fun i => by
  have e := h.mod i
  rw [e.1, e.2]
  exact k _ (h.lt i)
section
variable {V : Nat → Pt} {n : Nat}
theorem near_off (h : Cl V n) {p : Pt} (hp : Off V p) (v : Pt) : Ev fun N => Off (sV N V) (ad (sm N p) v) ∧ W (sV N V) n (ad (sm N p) v) = W V n p := by
  have k := Ev.all (n := n) (P := fun k N => Sep (ad (sm N p) (0, 0)) (ad (sm N p) v) (ad (sm N (V k)) (0, 0)) (ad (sm N (V (k + 1))) (0, 0))) fun k _ => ev_sep (off_sep (hp k)) _ _ _ _
  refine (k.and (Ev.ge 1)).mono ?_
  rintro N ⟨h1, h2⟩
  have h1' : ∀ k, k < n → Sep (sm N p) (ad (sm N p) v) (sV N V k) (sV N V (k + 1)) := fun k hk => by
    have := h1 k hk
    rwa [ad_z, ad_z, ad_z] at this
  refine ⟨off_lt (h.sm N) fun i hi => (sep_off (h1' i hi)).2, ?_⟩
  rw [← two_all (h.sm N) h1', W_sm (by omega)]
/-- Scaled. -/
theorem off_sm {p : Pt} {M : Int} (hM : 0 < M) (h : Off V p) : Off (sV M V) (sm M p) := fun k => onS_sm hM (h k)
theorem off_sm' {p : Pt} {M : Int} (h : Off (sV M V) (sm M p)) : Off V p := fun k => by
  rw [← Bool.not_eq_true]
  intro e
  obtain ⟨N, s, m⟩ := seg_on e
  have := on_seg (a := sm M (V k)) (b := sm M (V (k + 1))) (p := sm M p) (N := N) (s := s) ⟨m.N0, m.s0, m.sN, by have := m.e1; unfold sm; dsimp only; grind, by have := m.e2; unfold sm; dsimp only; grind⟩
  have k2 := h k
  unfold sV at k2
  rw [this] at k2
  cases k2
end
/-! ### Beside a side -/
theorem beside {X v : Pt} (h : crs X v ≠ 0) : tD X - wnd X (ng v) + wnd (ng X) (ng v) = if 0 < crs X v then 1 else 0 := by
  have e1 : crs X (ng v) = -crs X v := by unfold crs ng; grind
  have e2 : crs (ng X) (ng v) = crs X v := by unfold crs ng; grind
  have na : (ng X).2 = -X.2 := rfl
  have nv : (ng v).2 = -v.2 := rfl
  have c : crs X v = X.1 * v.2 - X.2 * v.1 := rfl
  have z1 : X.2 = 0 → crs X v = X.1 * v.2 := fun k => by rw [c, k]; omega
  have z2 : v.2 = 0 → crs X v = -(X.2 * v.1) := fun k => by rw [c, k]; omega
  have y1 : 0 < X.1 * v.2 → same X.1 v.2 := same_mul
  have y2 : 0 < X.1 * -v.2 → same X.1 (-v.2) := same_mul
  rw [Int.mul_neg] at y2
  unfold same at y1 y2
  unfold wnd tD
  rw [e1, e2, na, nv]
  generalize crs X v = x at *
  clear c
  repeat' split
  all_goals omega
section
variable {V : Nat → Pt} {n : Nat} (h : Sim V n)
include h
/-- A point inside a side is on no other one. -/
theorem mid_other {i : Nat} {x : Pt} {N s : Int} (m : Mid (V (i + 1)) (V (i + 2)) x N s) {l : Nat} (hl : l + 1 < n) : onS x (V (i + 2 + l)) (V (i + 2 + l + 1)) = false := by
  rw [← Bool.not_eq_true]
  intro e
  obtain ⟨N', s', m'⟩ := seg_on e
  have s0 : Seg (V (i + 1)) (V (i + 2)) x N s := ⟨by have := m.s0; have := m.sN; omega, by have := m.s0; omega, by have := m.sN; omega, m.e1, m.e2⟩
  by_cases k0 : l = 0
  · subst k0
    have := (no_next (h.turn (i + 1)) s0 m').1
    have := m.sN
    omega
  by_cases k1 : l + 2 = n
  · have e1 : V (i + 2 + l) = V i := by rw [show i + 2 + l = i + n by omega, h.per]
    have e2 : V (i + 2 + l + 1) = V (i + 1) := by rw [show i + 2 + l + 1 = i + 1 + n by omega, h.per]
    rw [e1, e2] at m'
    have := (no_next (h.turn i) m' s0).2
    have := m.s0
    omega
  · have d := sep_of (h.ne _) (h.dis (i + 1) (l + 1) (by omega) (by omega))
    rw [show i + 1 + (l + 1) = i + 2 + l by omega] at d
    exact no_two d s0 m'
/-- To the left of a side is the inside. -/
theorem near_mid (hb : ∀ i, base V n i = 0) {i : Nat} {x : Pt} {N₀ s : Int} (m : Mid (V (i + 1)) (V (i + 2)) x N₀ s) {v : Pt} (hv : crs (E V (i + 1)) v ≠ 0) :
    Ev fun N => Off (sV N V) (ad (sm N x) v) ∧ W (sV N V) n (ad (sm N x) v) = if 0 < crs (E V (i + 1)) v then 1 else 0 := by
  have c := cl_of h
  have k := Ev.all (n := n - 1) (P := fun l N => Sep (ad (sm N x) (0, 0)) (ad (sm N x) v) (ad (sm N (V (i + 2 + l))) (0, 0)) (ad (sm N (V (i + 2 + l + 1))) (0, 0))) fun l hl => ev_sep (off_sep (mid_other h m (by omega))) _ _ _ _
  refine (k.and (Ev.ge 1)).mono ?_
  rintro N ⟨h1, h2⟩
  have hN : 0 < N := by omega
  have h1' : ∀ l, l + 1 < n → Sep (sm N x) (ad (sm N x) v) (sV N V (i + 1 + 1 + l)) (sV N V (i + 1 + 1 + l + 1)) := fun l hl => by
    have := h1 l (by omega)
    rwa [ad_z, ad_z, ad_z] at this
  have n0 : 0 < N₀ := by have := m.s0; have := m.sN; omega
  have hlin := m.lin
  have c0 : ar (sV N V (i + 1)) (sV N V (i + 1 + 1)) (ad (sm N x) v) = N * crs (E V (i + 1)) v := by
    have : ar (sV N V (i + 1)) (sV N V (i + 1 + 1)) (ad (sm N x) v) = N * crs (E V (i + 1)) v + N * N * ar (V (i + 1)) (V (i + 2)) x := by unfold E ar crs sV sm ad vec; rw [show i + 1 + 1 = i + 2 from rfl]; dsimp only; grind
    rw [this, hlin]
    omega
  have c1 : N * crs (E V (i + 1)) v ≠ 0 := Int.mul_ne_zero (by omega) hv
  refine ⟨fun j => ?_, ?_⟩
  · -- on no side
    obtain ⟨l, hl, e1, e2⟩ := (c.sm N).find (i + 1) j
    rw [e1, e2]
    match l, hl with
    | 0, _ =>
      rw [← Bool.not_eq_true]
      intro e
      obtain ⟨N', s', m'⟩ := seg_on e
      have := m'.lin
      rw [Nat.add_zero] at this
      rw [c0] at this
      exact c1 this
    | l + 1, hl =>
      have := (sep_off (h1' l hl)).2
      rwa [show i + 1 + 1 + l = i + 1 + (l + 1) by omega] at this
  have t := two_but (c.sm N) (i + 1) h1'
  have w0 : W (sV N V) n (sm N x) = tD (E V (i + 1)) := by rw [W_sm hN, J3.mid h i m, hb]; omega
  have a0 : wd (sV N V) (sm N x) (i + 1) = 0 := wnd_zero _ _ (by
    have : crs (vec (sm N x) (sV N V (i + 1))) (vec (sm N x) (sV N V (i + 1 + 1))) = N * N * ar (V (i + 1)) (V (i + 2)) x := by unfold ar crs sV sm vec; grind
    rw [this, hlin]
    omega)
  have eP : sm N₀ (vec (sm N x) (sV N V (i + 1))) = sm (N * s) (ng (E V (i + 1))) := by
    have h1 := m.e1
    have h2 := m.e2
    refine Prod.ext ?_ ?_ <;> (unfold sm ng E vec sV sm; dsimp only; grind)
  have eQ : sm N₀ (vec (sm N x) (sV N V (i + 1 + 1))) = sm (N * (N₀ - s)) (E V (i + 1)) := by
    have h1 := m.e1
    have h2 := m.e2
    refine Prod.ext ?_ ?_ <;> (unfold sm E vec sV sm; dsimp only; grind)
  have vP : vec (ad (sm N x) v) (sV N V (i + 1)) = ad (vec (sm N x) (sV N V (i + 1))) (ng v) := Prod.ext (by unfold vec ad ng; dsimp only; omega) (by unfold vec ad ng; dsimp only; omega)
  have vQ : vec (ad (sm N x) v) (sV N V (i + 1 + 1)) = ad (vec (sm N x) (sV N V (i + 1 + 1))) (ng v) := Prod.ext (by unfold vec ad ng; dsimp only; omega) (by unfold vec ad ng; dsimp only; omega)
  have wb : wd (sV N V) (ad (sm N x) v) (i + 1) = wnd (ad (vec (sm N x) (sV N V (i + 1))) (ng v)) (ad (vec (sm N x) (sV N V (i + 1 + 1))) (ng v)) := by unfold wd; rw [vP, vQ]
  rw [vP, vQ, wb, w0, a0] at t
  have pN : 0 < N * s := Int.mul_pos hN m.s0
  have pM : 0 < N * (N₀ - s) := Int.mul_pos hN (by have := m.sN; omega)
  have b1 := wnd_cut (vec (sm N x) (sV N V (i + 1))) (ng v)
  have b2 := wnd_cut (vec (sm N x) (sV N V (i + 1 + 1))) (ng v)
  have f1 : wnd (vec (sm N x) (sV N V (i + 1))) (ng v) = wnd (ng (E V (i + 1))) (ng v) := by rw [← wnd_sml n0, eP, wnd_sml pN]
  have f2 : wnd (vec (sm N x) (sV N V (i + 1 + 1))) (ng v) = wnd (E V (i + 1)) (ng v) := by rw [← wnd_sml n0, eQ, wnd_sml pM]
  have b3 := wnd_cut (sm (N₀ - s) (ad (vec (sm N x) (sV N V (i + 1))) (ng v))) (sm s (ad (vec (sm N x) (sV N V (i + 1 + 1))) (ng v)))
  have e3 : ad (sm (N₀ - s) (ad (vec (sm N x) (sV N V (i + 1))) (ng v))) (sm s (ad (vec (sm N x) (sV N V (i + 1 + 1))) (ng v))) = sm N₀ (ng v) := by
    have h1 := m.e1
    have h2 := m.e2
    refine Prod.ext ?_ ?_ <;> (unfold sm ng vec sV ad sm; dsimp only; grind)
  have pS : 0 < N₀ - s := by have := m.sN; omega
  rw [e3, wnd_sml pS, wnd_sml pS, wnd_sm n0, wnd_sm m.s0, wnd_sml n0, wnd_sm m.s0] at b3
  have b4 := wnd_anti (ng v) (ad (vec (sm N x) (sV N V (i + 1 + 1))) (ng v))
  have b5 := beside hv
  omega
end
end K2
end
/- A ring beside a ring. -/
section
open Go.Proofs G1 G2 G3 G4 G11 G16 G19 J1 J2 J3 J4 J5 J6 J7 J12 K1 K2
set_option maxRecDepth 100000
namespace K3
/-- At a corner, to the right of both sides. -/
def wv (V : Nat → Pt) (i : Nat) : Pt := if 0 < crs (E V i) (E V (i + 1)) then vec (E V (i + 1)) (E V i) else vec (E V i) (E V (i + 1))
/-- The ring to the right (1) or to the left (-1). -/
def oV (σ N : Int) (V : Nat → Pt) (i : Nat) : Pt := ad (sm N (V (i + 1))) (sm σ (wv V i))
theorem sm_sm (M N : Int) (p : Pt) : sm M (sm N p) = sm (M * N) p := Prod.ext (by unfold sm; dsimp only; grind) (by unfold sm; dsimp only; grind)
theorem sV_sV (M N : Int) (V : Nat → Pt) : sV M (sV N V) = sV (M * N) V := funext fun i => sm_sm M N (V i)
theorem E_sm (M : Int) (V : Nat → Pt) (i : Nat) : E (sV M V) i = sm M (E V i) := vec_sm _ _ _
theorem crs_sm (M : Int) (X Y : Pt) : crs (sm M X) (sm M Y) = M * M * crs X Y := by unfold crs sm; grind
theorem wv_sm {M : Int} (hM : 0 < M) (V : Nat → Pt) (i : Nat) : wv (sV M V) i = sm M (wv V i) := by
  have k := (mul_sign hM (crs (E V i) (E V (i + 1)))).1
  unfold wv
  rw [E_sm, E_sm, crs_sm]
  by_cases c : 0 < crs (E V i) (E V (i + 1))
  · rw [if_pos c, if_pos (k.2 c), vec_sm]
  · rw [if_neg c, if_neg fun e => c (k.1 e), vec_sm]
theorem oV_sm {M : Int} (hM : 0 < M) (σ N : Int) (V : Nat → Pt) : oV σ N (sV M V) = sV M (oV σ N V) := funext fun i => by
  unfold oV
  rw [wv_sm hM]
  unfold sV ad sm
  refine Prod.ext ?_ ?_ <;> (dsimp only; grind)
section
variable {V : Nat → Pt} {n : Nat} (h : Sim V n)
include h
theorem wv_r (i : Nat) : crs (E V i) (wv V i) < 0 ∧ crs (E V (i + 1)) (wv V i) < 0 := by
  have t := h.turn' i
  have e1 : crs (E V i) (vec (E V (i + 1)) (E V i)) = -crs (E V i) (E V (i + 1)) := by unfold crs vec; grind
  have e2 : crs (E V (i + 1)) (vec (E V (i + 1)) (E V i)) = -crs (E V i) (E V (i + 1)) := by unfold crs vec; grind
  have e3 : crs (E V i) (vec (E V i) (E V (i + 1))) = crs (E V i) (E V (i + 1)) := by unfold crs vec; grind
  have e4 : crs (E V (i + 1)) (vec (E V i) (E V (i + 1))) = crs (E V i) (E V (i + 1)) := by unfold crs vec; grind
  unfold wv
  split
  · rw [e1, e2]; omega
  · rw [e3, e4]; omega
theorem cl_oV (σ N : Int) : Cl (oV σ N V) n := ⟨(cl_of h).pos, fun i => by
  have e1 : E V (i + n) = E V i := by unfold E; rw [h.per, show i + n + 1 = i + 1 + n by omega, h.per]
  have e2 : E V (i + n + 1) = E V (i + 1) := by unfold E; rw [show i + n + 1 = i + 1 + n by omega, h.per, show i + 1 + n + 1 = i + 1 + 1 + n by omega, h.per]
  unfold oV wv
  rw [e1, e2, show i + n + 1 = i + 1 + n by omega, h.per]⟩
/-- A normal. -/
def nr (σ : Int) (U : Pt) : Pt := (σ * U.2, -(σ * U.1))
omit h in
theorem dot_nr (σ : Int) (U X : Pt) : dot (nr σ U) X = -(σ * crs U X) := by unfold dot nr crs; grind
omit h in
theorem nr_sep {σ : Int} {U a b c d : Pt} (h1 : 0 < -(σ * crs U (vec a c))) (h2 : 0 < -(σ * crs U (vec a d))) (h3 : 0 < -(σ * crs U (vec b d))) (h4 : 0 < -(σ * crs U (vec b c))) : Sep a b c d :=
  ⟨nr σ U, by rw [dot_nr]; exact h1, by rw [dot_nr]; exact h2, by rw [dot_nr]; exact h3, by rw [dot_nr]; exact h4⟩
theorem sep_own {σ N : Int} (hσ : σ = 1 ∨ σ = -1) (i : Nat) : Sep (sV N V (i + 1)) (sV N V (i + 2)) (oV σ N V i) (oV σ N V (i + 1)) := by
  have k1 := (wv_r h i).2
  have k2 := (wv_r h (i + 1)).1
  have ss : σ * σ = 1 := by rcases hσ with rfl | rfl <;> rfl
  have f1 : -(σ * crs (E V (i + 1)) (vec (sV N V (i + 1)) (oV σ N V i))) = -crs (E V (i + 1)) (wv V i) := by unfold oV sV crs vec ad sm; grind
  have f2 : -(σ * crs (E V (i + 1)) (vec (sV N V (i + 1)) (oV σ N V (i + 1)))) = -crs (E V (i + 1)) (wv V (i + 1)) := by unfold oV sV crs vec ad sm E vec; grind
  have f3 : -(σ * crs (E V (i + 1)) (vec (sV N V (i + 2)) (oV σ N V (i + 1)))) = -crs (E V (i + 1)) (wv V (i + 1)) := by unfold oV sV crs vec ad sm E vec; grind
  have f4 : -(σ * crs (E V (i + 1)) (vec (sV N V (i + 2)) (oV σ N V i))) = -crs (E V (i + 1)) (wv V i) := by unfold oV sV crs vec ad sm E vec; grind
  exact nr_sep (by rw [f1]; omega) (by rw [f2]; omega) (by rw [f3]; omega) (by rw [f4]; omega)
theorem sep_next {σ : Int} (hσ : σ = 1 ∨ σ = -1) (i : Nat) : Ev fun N => Sep (sV N V (i + 2)) (sV N V (i + 3)) (oV σ N V i) (oV σ N V (i + 1)) := by
  have k1 := (wv_r h i).2
  have k2 := wv_r h (i + 1)
  have t := h.turn' (i + 1)
  rw [show i + 1 + 1 = i + 2 from rfl] at k2 t
  have ss : σ * σ = 1 := by rcases hσ with rfl | rfl <;> rfl
  by_cases c : 0 < σ * crs (E V (i + 1)) (E V (i + 2))
  · refine (Ev.ge 0).mono fun N hN => ?_
    have kn := Int.mul_nonneg hN (Int.le_of_lt c)
    have f1 : -(σ * crs (E V (i + 1)) (vec (sV N V (i + 2)) (oV σ N V i))) = -crs (E V (i + 1)) (wv V i) := by unfold oV sV crs vec ad sm E vec; grind
    have f2 : -(σ * crs (E V (i + 1)) (vec (sV N V (i + 2)) (oV σ N V (i + 1)))) = -crs (E V (i + 1)) (wv V (i + 1)) := by unfold oV sV crs vec ad sm E vec; grind
    have f3 : -(σ * crs (E V (i + 1)) (vec (sV N V (i + 3)) (oV σ N V (i + 1)))) = -crs (E V (i + 1)) (wv V (i + 1)) + N * (σ * crs (E V (i + 1)) (E V (i + 2))) := by unfold oV sV crs vec ad sm E vec; grind
    have f4 : -(σ * crs (E V (i + 1)) (vec (sV N V (i + 3)) (oV σ N V i))) = -crs (E V (i + 1)) (wv V i) + N * (σ * crs (E V (i + 1)) (E V (i + 2))) := by unfold oV sV crs vec ad sm E vec; grind
    exact nr_sep (by rw [f1]; omega) (by rw [f2]; omega) (by rw [f3]; omega) (by rw [f4]; omega)
  · have c' : 0 < -(σ * crs (E V (i + 1)) (E V (i + 2))) := by
      have : σ * crs (E V (i + 1)) (E V (i + 2)) ≠ 0 := Int.mul_ne_zero (by omega) t
      omega
    refine (Ev.lin (-crs (E V (i + 2)) (wv V i)) c').mono fun N hN => ?_
    have f1 : -(σ * crs (E V (i + 2)) (vec (sV N V (i + 2)) (oV σ N V i))) = N * -(σ * crs (E V (i + 1)) (E V (i + 2))) + -crs (E V (i + 2)) (wv V i) := by unfold oV sV crs vec ad sm E vec; grind
    have f2 : -(σ * crs (E V (i + 2)) (vec (sV N V (i + 2)) (oV σ N V (i + 1)))) = -crs (E V (i + 2)) (wv V (i + 1)) := by unfold oV sV crs vec ad sm E vec; grind
    have f3 : -(σ * crs (E V (i + 2)) (vec (sV N V (i + 3)) (oV σ N V (i + 1)))) = -crs (E V (i + 2)) (wv V (i + 1)) := by unfold oV sV crs vec ad sm E vec; grind
    have f4 : -(σ * crs (E V (i + 2)) (vec (sV N V (i + 3)) (oV σ N V i))) = N * -(σ * crs (E V (i + 1)) (E V (i + 2))) + -crs (E V (i + 2)) (wv V i) := by unfold oV sV crs vec ad sm E vec; grind
    exact nr_sep (by rw [f1]; omega) (by rw [f2]; omega) (by rw [f3]; omega) (by rw [f4]; omega)
theorem sep_prev {σ : Int} (hσ : σ = 1 ∨ σ = -1) (i : Nat) : Ev fun N => Sep (sV N V i) (sV N V (i + 1)) (oV σ N V i) (oV σ N V (i + 1)) := by
  have k1 := wv_r h i
  have k2 := (wv_r h (i + 1)).1
  have t := h.turn' i
  have ss : σ * σ = 1 := by rcases hσ with rfl | rfl <;> rfl
  by_cases c : 0 < σ * crs (E V i) (E V (i + 1))
  · refine (Ev.ge 0).mono fun N hN => ?_
    have kn := Int.mul_nonneg hN (Int.le_of_lt c)
    have f1 : -(σ * crs (E V (i + 1)) (vec (sV N V i) (oV σ N V i))) = -crs (E V (i + 1)) (wv V i) + N * (σ * crs (E V i) (E V (i + 1))) := by unfold oV sV crs vec ad sm E vec; grind
    have f2 : -(σ * crs (E V (i + 1)) (vec (sV N V i) (oV σ N V (i + 1)))) = -crs (E V (i + 1)) (wv V (i + 1)) + N * (σ * crs (E V i) (E V (i + 1))) := by unfold oV sV crs vec ad sm E vec; grind
    have f3 : -(σ * crs (E V (i + 1)) (vec (sV N V (i + 1)) (oV σ N V (i + 1)))) = -crs (E V (i + 1)) (wv V (i + 1)) := by unfold oV sV crs vec ad sm E vec; grind
    have f4 : -(σ * crs (E V (i + 1)) (vec (sV N V (i + 1)) (oV σ N V i))) = -crs (E V (i + 1)) (wv V i) := by unfold oV sV crs vec ad sm E vec; grind
    exact nr_sep (by rw [f1]; omega) (by rw [f2]; omega) (by rw [f3]; omega) (by rw [f4]; omega)
  · have c' : 0 < -(σ * crs (E V i) (E V (i + 1))) := by
      have : σ * crs (E V i) (E V (i + 1)) ≠ 0 := Int.mul_ne_zero (by omega) t
      omega
    refine (Ev.lin (-crs (E V i) (wv V (i + 1))) c').mono fun N hN => ?_
    have f1 : -(σ * crs (E V i) (vec (sV N V i) (oV σ N V i))) = -crs (E V i) (wv V i) := by unfold oV sV crs vec ad sm E vec; grind
    have f2 : -(σ * crs (E V i) (vec (sV N V i) (oV σ N V (i + 1)))) = N * -(σ * crs (E V i) (E V (i + 1))) + -crs (E V i) (wv V (i + 1)) := by unfold oV sV crs vec ad sm E vec; grind
    have f3 : -(σ * crs (E V i) (vec (sV N V (i + 1)) (oV σ N V (i + 1)))) = N * -(σ * crs (E V i) (E V (i + 1))) + -crs (E V i) (wv V (i + 1)) := by unfold oV sV crs vec ad sm E vec; grind
    have f4 : -(σ * crs (E V i) (vec (sV N V (i + 1)) (oV σ N V i))) = -crs (E V i) (wv V i) := by unfold oV sV crs vec ad sm E vec; grind
    exact nr_sep (by rw [f1]; omega) (by rw [f2]; omega) (by rw [f3]; omega) (by rw [f4]; omega)
theorem apt_oV {σ : Int} (hσ : σ = 1 ∨ σ = -1) : Ev fun N => Apt (sV N V) (oV σ N V) := by
  have h3 := h.three
  have c := cl_of h
  have k : Ev fun N => ∀ i, i < n → ∀ l, l < n → Sep (sV N V (i + 1 + l)) (sV N V (i + 1 + l + 1)) (oV σ N V i) (oV σ N V (i + 1)) := by
    refine Ev.all fun i _ => Ev.all fun l hl => ?_
    by_cases l0 : l = 0
    · subst l0; exact Ev.of fun N => sep_own h hσ i
    by_cases l1 : l = 1
    · subst l1; exact sep_next h hσ i
    by_cases l2 : l + 1 = n
    · refine (sep_prev h hσ i).mono fun N k => ?_
      have e1 : sV N V (i + 1 + l) = sV N V i := by rw [show i + 1 + l = i + n by omega]; exact (c.sm N).per i
      have e2 : sV N V (i + 1 + l + 1) = sV N V (i + 1) := by rw [show i + 1 + l + 1 = i + 1 + n by omega]; exact (c.sm N).per (i + 1)
      rw [e1, e2]
      exact k
    · have d := sep_sym (sep_of (h.ne _) (h.dis (i + 1) l (by omega) (by omega)))
      refine (ev_sep d (0, 0) (0, 0) (sm σ (wv V i)) (sm σ (wv V (i + 1)))).mono fun N k => ?_
      rw [ad_z, ad_z] at k
      exact k
  refine k.mono fun N k i j => ?_
  have cj := (cl_oV h σ N).mod j
  obtain ⟨l, hl, e1, e2⟩ := (c.sm N).find (j % n + 1) i
  rw [e1, e2, cj.1, cj.2]
  exact k _ (c.lt j) l hl
/-- A point that is on no side: the ring beside winds as the ring does. -/
theorem near_oV (σ : Int) {p : Pt} (hp : Off V p) : Ev fun N => W (oV σ N V) n (sm N p) = W V n p := by
  have c := cl_of h
  have k : Ev fun N => ∀ k, k < n → ∃ ν, (0 < dot ν (vec (sm N p) (sV N V (k + 1))) ∧ 0 < dot ν (vec (sm N p) (sV N V (k + 2)))) ∧ 0 < dot ν (vec (sm N p) (oV σ N V k)) ∧ 0 < dot ν (vec (sm N p) (oV σ N V (k + 1))) := by
    refine Ev.all fun k _ => ?_
    obtain ⟨ν, h1, h2, _, _⟩ := off_sep (hp (k + 1))
    refine (((Ev.lin 0 h1).and (Ev.lin 0 h2)).and ((Ev.lin (dot ν (sm σ (wv V k))) h1).and (Ev.lin (dot ν (sm σ (wv V (k + 1)))) h2))).mono ?_
    rintro N ⟨⟨k1, k2⟩, k3, k4⟩
    have e1 : dot ν (vec (sm N p) (sV N V (k + 1))) = N * dot ν (vec p (V (k + 1))) + 0 := by unfold sV dot vec sm; grind
    have e2 : dot ν (vec (sm N p) (sV N V (k + 2))) = N * dot ν (vec p (V (k + 1 + 1))) + 0 := by unfold sV dot vec sm; grind
    have e3 : dot ν (vec (sm N p) (oV σ N V k)) = N * dot ν (vec p (V (k + 1))) + dot ν (sm σ (wv V k)) := by unfold oV ad dot vec sm; grind
    have e4 : dot ν (vec (sm N p) (oV σ N V (k + 1))) = N * dot ν (vec p (V (k + 1 + 1))) + dot ν (sm σ (wv V (k + 1))) := by unfold oV ad dot vec sm; grind
    exact ⟨ν, ⟨by rw [e1]; exact k1, by rw [e2]; exact k2⟩, by rw [e3]; exact k3, by rw [e4]; exact k4⟩
  refine (k.and (Ev.ge 1)).mono ?_
  rintro N ⟨k, hN⟩
  have e0 : W V n p = sumI (fun k => wd (sV N V) (sm N p) (1 + k)) n := by
    rw [← W_sm (M := N) (by omega) V n p]
    unfold W
    exact (sum_shift ((c.sm N).wd_per (sm N p)) 1).symm
  have e : sumI (fun k => wd (sV N V) (sm N p) (1 + k)) n - W (oV σ N V) n (sm N p) = 0 := by
    unfold W
    rw [← sumI_sub]
    have k' : sumI (fun l => wd (sV N V) (sm N p) (1 + l) - wd (oV σ N V) (sm N p) l) n = sumI (fun l => (fun j => wnd (vec (sm N p) (sV N V (j + 1))) (vec (sm N p) (oV σ N V j))) l - (fun j => wnd (vec (sm N p) (sV N V (j + 1))) (vec (sm N p) (oV σ N V j))) (l + 1)) n :=
      sumI_congr fun l hl => by
        obtain ⟨ν, ⟨h1, h2⟩, h3, h4⟩ := k l hl
        unfold wd
        rw [Nat.add_comm 1 l]
        show wnd _ _ - wnd _ _ = wnd (vec (sm N p) (sV N V (l + 1))) (vec (sm N p) (oV σ N V l)) - wnd (vec (sm N p) (sV N V (l + 2))) (vec (sm N p) (oV σ N V (l + 1)))
        rw [wnd_half h1 h2, wnd_half h3 h4, wnd_half h1 h3, wnd_half h2 h4]
        split <;> omega
    rw [k', sum_tele]
    have z1 : sV N V (n + 1) = sV N V (0 + 1) := by rw [Nat.add_comm n 1]; exact (c.sm N).per 1
    have z2 : oV σ N V n = oV σ N V 0 := by have := (cl_oV h σ N).per 0; rwa [Nat.zero_add] at this
    rw [z1, z2]
    omega
  omega
end
end K3
end
/- What a ring that avoids the outside (or the inside) of another one winds about. -/
section
open Go.Proofs G1 G2 G3 G4 G11 G16 G19 J1 J2 J3 J4 J5 J6 J7 J12 K1 K2 K3
set_option maxRecDepth 100000
namespace K4
theorem seg_sm {a b q : Pt} {N s : Int} (M : Int) (m : Seg a b q N s) : Seg (sm M a) (sm M b) (sm M q) N s :=
  ⟨m.N0, m.s0, m.sN, by have := m.e1; unfold sm; dsimp only; grind, by have := m.e2; unfold sm; dsimp only; grind⟩
theorem sm_one (p : Pt) : sm 1 p = p := Prod.ext (Int.one_mul _) (Int.one_mul _)
theorem at_one (A : Nat → Pt) (k : Nat) : Seg (sV 1 A k) (sV 1 A (k + 1)) (A k) 1 0 := by
  unfold sV
  rw [sm_one, sm_one]
  exact Seg.at _ _
/-- Two segments that are not apart have a common point. -/
theorem meet {a b c d : Pt} (h : ¬ Dis a b c d) : ∃ M q, 0 < M ∧ (∃ N s, Seg (sm M a) (sm M b) q N s) ∧ ∃ N s, Seg (sm M c) (sm M d) q N s := by
  have at1 : ∀ {p q r : Pt}, onS p q r = true → ∃ N s, Seg (sm 1 q) (sm 1 r) (sm 1 p) N s := fun k => by
    obtain ⟨N, s, m⟩ := seg_on k
    exact ⟨N, s, seg_sm 1 m⟩
  have endA : ∀ p q : Pt, ∃ N s, Seg (sm 1 p) (sm 1 q) (sm 1 p) N s := fun p q => ⟨1, 0, Seg.at _ _⟩
  have endB : ∀ p q : Pt, ∃ N s, Seg (sm 1 p) (sm 1 q) (sm 1 q) N s := fun p q => ⟨1, 1, by omega, by omega, by omega, by omega, by omega⟩
  by_cases h1 : onS a c d = true
  · exact ⟨1, sm 1 a, by omega, endA a b, at1 h1⟩
  by_cases h2 : onS b c d = true
  · exact ⟨1, sm 1 b, by omega, endB a b, at1 h2⟩
  by_cases h3 : onS c a b = true
  · exact ⟨1, sm 1 c, by omega, at1 h3, endA c d⟩
  by_cases h4 : onS d a b = true
  · exact ⟨1, sm 1 d, by omega, at1 h4, endB c d⟩
  by_cases hx : opp (ar a b c) (ar a b d) ∧ opp (ar c d a) (ar c d b)
  · have lin : ar a b c - ar a b d + ar c d a - ar c d b = 0 := by unfold ar crs vec; grind
    have i1 : (ar c d a - ar c d b) * a.1 + ar c d a * (b.1 - a.1) = (ar c d a - ar c d b) * c.1 - ar a b c * (d.1 - c.1) := by unfold ar crs vec; grind
    have i2 : (ar c d a - ar c d b) * a.2 + ar c d a * (b.2 - a.2) = (ar c d a - ar c d b) * c.2 - ar a b c * (d.2 - c.2) := by unfold ar crs vec; grind
    obtain ⟨o1, o2⟩ := hx
    unfold opp at o1 o2
    generalize ar c d a = x at *
    generalize ar c d b = y at *
    generalize ar a b c = z at *
    generalize ar a b d = t at *
    by_cases k : 0 < x
    · refine ⟨x - y, ((x - y) * a.1 + x * (b.1 - a.1), (x - y) * a.2 + x * (b.2 - a.2)), by omega, ⟨x - y, x, by omega, by omega, by omega, ?_, ?_⟩, x - y, -z, by omega, by omega, by omega, ?_, ?_⟩ <;> (unfold sm; dsimp only; grind)
    · refine ⟨y - x, ((y - x) * a.1 + -x * (b.1 - a.1), (y - x) * a.2 + -x * (b.2 - a.2)), by omega, ⟨y - x, -x, by omega, by omega, by omega, ?_, ?_⟩, y - x, z, by omega, by omega, by omega, ?_, ?_⟩ <;> (unfold sm; dsimp only; grind)
  · exact absurd ⟨Bool.not_eq_true _ ▸ h1, Bool.not_eq_true _ ▸ h2, Bool.not_eq_true _ ▸ h3, Bool.not_eq_true _ ▸ h4, hx⟩ h
def Avoid (β : Int) (A V : Nat → Pt) (n : Nat) : Prop := ∀ M : Int, 0 < M → ∀ i q N s, Seg (sV M A i) (sV M A (i + 1)) q N s → Off (sV M V) q → W (sV M V) n q ≠ β
/-- The winding outside (1) or inside (-1). -/
def bet (σ : Int) : Int := if 0 < σ then 0 else 1
theorem max_at (f : Nat → Int) : ∀ n, 0 < n → ∃ j, j < n ∧ ∀ i, i < n → f i ≤ f j
  | 0, h => absurd h (by omega)
  | 1, _ => ⟨0, by omega, fun i hi => by obtain rfl : i = 0 := by omega
                                         omega⟩
  | n + 2, _ => by
    obtain ⟨j, hj, h⟩ := max_at f (n + 1) (by omega)
    by_cases k : f (n + 1) ≤ f j
    · refine ⟨j, by omega, fun i hi => ?_⟩
      by_cases e : i = n + 1
      · rw [e]; exact k
      · exact h i (by omega)
    · refine ⟨n + 1, by omega, fun i hi => ?_⟩
      by_cases e : i = n + 1
      · rw [e]; omega
      · have := h i (by omega)
        omega
section
variable {V : Nat → Pt} {n : Nat} (h : Sim V n)
include h
theorem right : ∃ i, i < n ∧ ∀ k, (V k).1 ≤ (V (i + 1)).1 := by
  have c := cl_of h
  obtain ⟨j, hj, k⟩ := max_at (fun i => (V (i + 1)).1) n c.pos
  refine ⟨j, hj, fun i => ?_⟩
  have e : V i = V ((i + n - 1) % n + 1) := by
    rw [← (c.mod (i + n - 1)).2, show i + n - 1 + 1 = i + n by have := c.pos; omega, h.per]
  rw [e]
  exact k _ (c.lt _)
variable (hb : ∀ i, base V n i = 0)
include hb
theorem right_turn {i : Nat} (hi : ∀ k, (V k).1 ≤ (V (i + 1)).1) : 0 < (wv V i).1 := by
  have w := W_right (n := n) hi
  have b := hb i
  have t := h.turn' i
  unfold base at b
  rw [w] at b
  have t1 : 0 ≤ (E V i).1 := by have := hi i; unfold E vec; dsimp only; omega
  have u1 : (E V (i + 1)).1 ≤ 0 := by have := hi (i + 1 + 1); unfold E vec; dsimp only; omega
  have key : 0 < crs (E V i) (E V (i + 1)) := by
    refine Classical.byContradiction fun hn => ?_
    have c : crs (E V i) (E V (i + 1)) = (E V i).1 * (E V (i + 1)).2 - (E V i).2 * (E V (i + 1)).1 := rfl
    have y1 : 0 < (E V i).2 → 0 < (E V (i + 1)).2 → 0 ≤ crs (E V i) (E V (i + 1)) := fun a1 a2 => by
      have l1 := Int.mul_nonneg t1 (Int.le_of_lt a2)
      have l2 := Int.mul_nonneg (Int.le_of_lt a1) (show 0 ≤ -(E V (i + 1)).1 by omega)
      rw [Int.mul_neg] at l2
      omega
    have y2 : (E V i).1 = 0 → (E V i).2 = 0 → crs (E V i) (E V (i + 1)) = 0 := fun a1 a2 => by
      rw [c, a1, a2]
      omega
    unfold wnd tD at b
    generalize crs (E V i) (E V (i + 1)) = x at *
    clear c
    revert b
    repeat' split
    all_goals omega
  have z : ¬((E V i).1 = 0 ∧ (E V (i + 1)).1 = 0) := fun ⟨a1, a2⟩ => by
    unfold crs at key
    rw [a1, a2] at key
    omega
  unfold wv
  rw [if_pos key]
  unfold vec
  dsimp only
  omega
/-- The winding of the ring about the ring beside it. -/
theorem kap {σ : Int} (hσ : σ = 1 ∨ σ = -1) : Ev fun N => ∀ j, W (sV N V) n (oV σ N V j) = bet σ := by
  have h2 := sim_sm (M := 2) (by omega) h
  have hb2 : ∀ i, base (sV 2 V) n i = 0 := fun i => (base_sm (by omega) V n i).trans (hb i)
  have m : Mid (sV 2 V (0 + 1)) (sV 2 V (0 + 2)) (ad (V 1) (V 2)) 2 1 := ⟨by omega, by omega, by show 2 * ((V 1).1 + (V 2).1 - 2 * (V 1).1) = 1 * (2 * (V 2).1 - 2 * (V 1).1); omega, by show 2 * ((V 1).2 + (V 2).2 - 2 * (V 1).2) = 1 * (2 * (V 2).2 - 2 * (V 1).2); omega⟩
  have k1 := (wv_r h 0).2
  have k2 := (wv_r h 1).1
  rw [show 0 + 1 = 1 from rfl] at k1
  have ec : crs (E (sV 2 V) (0 + 1)) (sm σ (ad (wv V 0) (wv V 1))) = 2 * (σ * (crs (E V 1) (wv V 0) + crs (E V 1) (wv V 1))) := by
    rw [E_sm]
    unfold crs sm ad
    grind
  have hs : crs (E (sV 2 V) (0 + 1)) (sm σ (ad (wv V 0) (wv V 1))) ≠ 0 := by
    rw [ec]
    rcases hσ with rfl | rfl <;> omega
  have hs' : (if 0 < crs (E (sV 2 V) (0 + 1)) (sm σ (ad (wv V 0) (wv V 1))) then 1 else 0 : Int) = bet σ := by
    rw [ec]
    unfold bet
    rcases hσ with rfl | rfl
    · rw [if_neg (by omega), if_pos (by omega)]
    · rw [if_pos (by omega), if_neg (by omega)]
  refine (((near_mid h2 hb2 m hs).and (apt_oV h hσ)).and (Ev.ge 1)).mono ?_
  rintro N ⟨⟨⟨_, e⟩, hd⟩, hN⟩ j
  have c := (cl_of h).sm N
  have sg : Seg (sV 2 (oV σ N V) 0) (sV 2 (oV σ N V) (0 + 1)) (ad (sm N (ad (V 1) (V 2))) (sm σ (ad (wv V 0) (wv V 1)))) 2 1 :=
    ⟨by omega, by omega, by omega, by unfold sV oV sm ad; dsimp only; grind, by unfold sV oV sm ad; dsimp only; grind⟩
  rw [hd.sym.same c j]
  have e1 := (hd.sym.sm (M := 2) (by omega)).on (c.sm 2) sg
  have e2 : W (sV 2 (sV N V)) n (sV 2 (oV σ N V) 0) = W (sV N V) n (oV σ N V 0) := W_sm (by omega) _ _ _
  rw [e2, sV_sV] at e1
  rw [sV_sV, Int.mul_comm N 2, e1, hs'] at e
  exact e
/-- A point inside. -/
theorem inner : ∃ M p, 0 < M ∧ Off (sV M V) p ∧ W (sV M V) n p = 1 := by
  have h2 := sim_sm (M := 2) (by omega) h
  have hb2 : ∀ i, base (sV 2 V) n i = 0 := fun i => (base_sm (by omega) V n i).trans (hb i)
  have m : Mid (sV 2 V (0 + 1)) (sV 2 V (0 + 2)) (ad (V 1) (V 2)) 2 1 := ⟨by omega, by omega, by show 2 * ((V 1).1 + (V 2).1 - 2 * (V 1).1) = 1 * (2 * (V 2).1 - 2 * (V 1).1); omega, by show 2 * ((V 1).2 + (V 2).2 - 2 * (V 1).2) = 1 * (2 * (V 2).2 - 2 * (V 1).2); omega⟩
  have k2 := (wv_r h 1).1
  have ec : crs (E (sV 2 V) (0 + 1)) (ng (wv V 1)) = 2 * -crs (E V 1) (wv V 1) := by
    rw [E_sm]
    unfold crs sm ng
    grind
  obtain ⟨N, hN, h1, e1⟩ := (near_mid h2 hb2 m (v := ng (wv V 1)) (by rw [ec]; omega)).ex
  rw [if_pos (by rw [ec]; omega)] at e1
  rw [sV_sV] at h1 e1
  exact ⟨N * 2, _, by omega, h1, e1⟩
theorem gam {σ : Int} (hσ : σ = 1 ∨ σ = -1) : Ev fun N => ∀ j, W (oV σ N V) n (sV N V j) = 1 - bet σ := by
  have c := cl_of h
  rcases hσ with rfl | rfl
  · obtain ⟨M, p, hM, ho, hw⟩ := inner h hb
    have hM' := sim_sm hM h
    have hbM : ∀ i, base (sV M V) n i = 0 := fun i => (base_sm hM V n i).trans (hb i)
    refine ((((near_oV hM' 1 ho).and (apt_oV hM' (Or.inl rfl))).and (kap hM' hbM (σ := 1) (Or.inl rfl))).and ((Ev.ge 1).and (apt_oV h (σ := 1) (Or.inl rfl)))).mono ?_
    rintro N ⟨⟨⟨e1, hd⟩, e2⟩, hN, hd0⟩ j
    rw [hd0.same (cl_oV h 1 N) j]
    have r := ray ((cl_of hM').sm N) (cl_oV hM' 1 N) hd (sm N p)
    rw [e1, e2, hw, W_sm (by omega), hw] at r
    have e3 : W (oV 1 N (sV M V)) n (sV N (sV M V) 0) = W (oV 1 N V) n (sV N V 0) := by
      rw [oV_sm hM, sV_sV, Int.mul_comm N M, ← sV_sV]
      exact W_sm hM _ _ _
    rw [e3] at r
    have b1 : bet 1 = 0 := rfl
    omega
  · obtain ⟨t, ht, hmax⟩ := right h
    have k : Ev fun N => ∀ i, i < n → (oV (-1) N V i).1 ≤ (sV N V (t + 1)).1 := by
      refine Ev.all fun i _ => ?_
      by_cases e : (V (i + 1)).1 = (V (t + 1)).1
      · have := right_turn h hb (i := i) fun k => by have := hmax k; omega
        refine Ev.of fun N => ?_
        unfold oV sV ad sm
        dsimp only
        rw [e]
        omega
      · have := hmax (i + 1)
        refine (Ev.lin_neg (x := (V (i + 1)).1 - (V (t + 1)).1) (-1 * (wv V i).1) (by omega)).mono fun N hN => ?_
        unfold oV sV ad sm
        dsimp only
        have e2 : N * ((V (i + 1)).1 - (V (t + 1)).1) = N * (V (i + 1)).1 - N * (V (t + 1)).1 := Int.mul_sub _ _ _
        omega
    refine (k.and (apt_oV h (σ := -1) (Or.inr rfl))).mono ?_
    rintro N ⟨k, hd⟩ j
    rw [hd.same (cl_oV h (-1) N) j, ← hd.same (cl_oV h (-1) N) (t + 1)]
    have b1 : bet (-1) = 1 := rfl
    rw [b1]
    refine W_right fun i => ?_
    rw [((cl_oV h (-1) N).mod i).1]
    exact k _ (c.lt i)
section
variable {A : Nat → Pt} {m : Nat} (hA : Cl A m) (hne : ∀ i, A i ≠ A (i + 1))
include hne
omit hb in
theorem apt_of {σ N : Int} (hN : 0 < N) (hv : Avoid (bet σ) A V n) (hd : Apt (sV N V) (oV σ N V)) (hk : ∀ j, W (sV N V) n (oV σ N V j) = bet σ) : Apt (sV N A) (oV σ N V) := fun i j => by
  refine sep_sym ?_
  have hne' : sV N A i ≠ sV N A (i + 1) := fun e => hne i (sm_inj hN e)
  refine Classical.byContradiction fun hs => ?_
  obtain ⟨M, q, hM, ⟨N1, s1, m1⟩, N2, s2, m2⟩ := meet fun k => hs (sep_of hne' k)
  have c := (cl_of h).sm N
  have hd' := hd.sm hM
  have m1' : Seg (sV M (oV σ N V) j) (sV M (oV σ N V) (j + 1)) q N1 s1 := m1
  have m2' : Seg (sV (M * N) A i) (sV (M * N) A (i + 1)) q N2 s2 := by rw [← sV_sV]; exact m2
  have ho : Off (sV (M * N) V) q := fun k => by
    rw [← sV_sV, ← Bool.not_eq_true]
    intro e
    obtain ⟨N3, s3, m3⟩ := seg_on e
    exact no_two (hd' k j) m3 m1'
  have hw : W (sV (M * N) V) n q = bet σ := by
    rw [← sV_sV, hd'.sym.on (c.sm M) m1', ← hk 0]
    exact W_sm hM _ _ _
  exact hv _ (Int.mul_pos hM hN) i q N2 s2 m2' ho hw
include hA
omit hA hne in
/-- The winding about a ring that avoids the outside (inside): 1 (0) about its points. -/
theorem gam_A {σ : Int} (hσ : σ = 1 ∨ σ = -1) (hv : Avoid (bet σ) A V n) : Ev fun N => W (oV σ N V) n (sV N A 0) = 1 - bet σ := by
  have c := cl_of h
  have w01 : ∀ p, W V n p = 0 ∨ W V n p = 1 := fun p => by have := any h hb p; omega
  by_cases ho : Off V (A 0)
  · have e : W V n (A 0) = 1 - bet σ := by
      have k := hv 1 (by omega) 0 (A 0) 1 0 (at_one A 0) (fun k => by unfold sV; rw [sm_one, sm_one]; exact ho k)
      have e1 : W (sV 1 V) n (A 0) = W V n (A 0) := by
        have := W_sm (M := 1) (by omega) V n (A 0)
        rwa [sm_one] at this
      rw [e1] at k
      have := w01 (A 0)
      unfold bet at *
      split at k <;> omega
    exact (near_oV h σ ho).mono fun N k => k.trans e
  · obtain ⟨k, hk⟩ := Classical.not_forall.1 ho
    rw [Bool.not_eq_false] at hk
    obtain ⟨N', s', m'⟩ := seg_on hk
    refine ((gam h hb hσ).and (apt_oV h hσ)).mono ?_
    rintro N ⟨e, hd⟩
    rw [← e 0]
    exact hd.on (cl_oV h σ N) (seg_sm N m')
/-- What avoids the outside does not wind about it. -/
theorem incl (hv : Avoid 0 A V n) {p : Pt} (hp : Off V p) (hw : W V n p = 0) : W A m p = 0 := by
  have h1 : (1 : Int) = 1 ∨ (1 : Int) = -1 := Or.inl rfl
  have b1 : bet 1 = 0 := rfl
  obtain ⟨t, _, hmax⟩ := right h
  have ht := right_turn h hb hmax
  obtain ⟨N, hN, ⟨⟨hd, hk⟩, hg⟩, e1⟩ := ((((apt_oV h h1).and (kap h hb h1)).and (gam_A h hb (σ := 1) h1 hv)).and (near_oV h 1 hp)).ex
  have hap := apt_of h (σ := 1) hne hN hv hd hk
  have r := ray (hA.sm N) (cl_oV h 1 N) hap (sm N p)
  have k0 : W (sV N A) m (oV 1 N V 0) = 0 := by
    rw [← hap.sym.same (hA.sm N) t]
    refine W_right fun k => ?_
    have ka : (A k).1 ≤ (V (t + 1)).1 := by
      refine Classical.byContradiction fun hn => ?_
      have hall : ∀ j, (V j).1 < (A k).1 := fun j => by have := hmax j; omega
      have ho : Off V (A k) := fun j => off_of (ν := (-1, 0)) (by have := hall j; unfold dot vec; dsimp only; omega) (by have := hall (j + 1); unfold dot vec; dsimp only; omega)
      have hz : W V n (A k) = 0 := W_right fun j => Int.le_of_lt (hall j)
      refine hv 1 (by omega) k (A k) 1 0 (at_one A k) (fun k => by unfold sV; rw [sm_one, sm_one]; exact ho k) ?_
      have := W_sm (M := 1) (by omega) V n (A k)
      rw [sm_one] at this
      rw [this, hz]
    have := Int.mul_le_mul_of_nonneg_left ka (Int.le_of_lt hN)
    unfold oV sV ad sm
    dsimp only
    omega
  rw [k0, hg, e1, hw, b1, W_sm hN] at r
  omega
/-- What avoids the inside winds about all of it alike. -/
theorem core (hv : Avoid 1 A V n) {p p' : Pt} (hp : Off V p) (hw : W V n p = 1) (hp' : Off V p') (hw' : W V n p' = 1) : W A m p = W A m p' := by
  have h1 : (-1 : Int) = 1 ∨ (-1 : Int) = -1 := Or.inr rfl
  have b1 : bet (-1) = 1 := rfl
  have hv' : Avoid (bet (-1)) A V n := by rw [b1]; exact hv
  obtain ⟨N, hN, ⟨⟨⟨hd, hk⟩, hg⟩, e1⟩, e2⟩ := (((((apt_oV h h1).and (kap h hb h1)).and (gam_A h hb (σ := -1) h1 hv')).and (near_oV h (-1) hp)).and (near_oV h (-1) hp')).ex
  have hap := apt_of h (σ := -1) hne hN hv' hd hk
  have r := ray (hA.sm N) (cl_oV h (-1) N) hap (sm N p)
  have r' := ray (hA.sm N) (cl_oV h (-1) N) hap (sm N p')
  rw [hg, e1, hw, b1, W_sm hN] at r
  rw [hg, e2, hw', b1, W_sm hN] at r'
  omega
end
end
end K4
end
/- The parts into which a side is cut. -/
section
open Go.Proofs G1 G2 G3 G4 G11 G16 G19 J1 J2 J3 J4 J5 J6 J7 J12 K1 K2 K3 K4
set_option maxRecDepth 100000
namespace K5
/-- How far along a side a point is. -/
def fp (a b X : Pt) : Int := dot (vec a b) (vec a X)
/-- Points of one straight line, in order. -/
theorem on_between {e a P Q X : Pt} (he : e ≠ (0, 0)) (hP : crs e (vec a P) = 0) (hQ : crs e (vec a Q) = 0) (hX : crs e (vec a X) = 0) (h1 : dot e (vec a P) ≤ dot e (vec a X)) (h2 : dot e (vec a X) ≤ dot e (vec a Q)) (h3 : dot e (vec a P) < dot e (vec a Q)) : ∃ N s, Seg P Q X N s := by
  have hD : 0 < e.1 * e.1 + e.2 * e.2 := nrm_pos fun k => he (Prod.ext k.1 k.2)
  have f1 : dot e (vec a Q) - dot e (vec a P) = dot e (vec P Q) := by unfold dot vec; grind
  have f2 : dot e (vec a X) - dot e (vec a P) = dot e (vec P X) := by unfold dot vec; grind
  have g1 : crs e (vec P Q) = 0 := by unfold crs vec at *; grind
  have g2 : crs e (vec P X) = 0 := by unfold crs vec at *; grind
  have k : crs (vec P X) (vec P Q) = 0 := by
    have : (e.1 * e.1 + e.2 * e.2) * crs (vec P X) (vec P Q) = 0 := by
      have : (e.1 * e.1 + e.2 * e.2) * crs (vec P X) (vec P Q) = dot e (vec P X) * crs e (vec P Q) - dot e (vec P Q) * crs e (vec P X) := by unfold crs dot; grind
      rw [this, g1, g2]
      omega
    rcases Int.mul_eq_zero.1 this with h | h
    · omega
    · exact h
  refine ⟨dot e (vec P Q), dot e (vec P X), by omega, by omega, by omega, ?_, ?_⟩
  · unfold crs dot vec at *
    dsimp only at *
    grind
  · unfold crs dot vec at *
    dsimp only at *
    grind
theorem ar_fp {a b X : Pt} : ar a b X = crs (vec a b) (vec a X) := by unfold ar crs vec; grind
theorem vec_ne {a b : Pt} (h : a ≠ b) : vec a b ≠ (0, 0) := fun e => h (by
  have h1 : b.1 - a.1 = 0 := congrArg Prod.fst e
  have h2 : b.2 - a.2 = 0 := congrArg Prod.snd e
  exact Prod.ext (by omega) (by omega))
theorem fp_a (a b : Pt) : fp a b a = 0 := by unfold fp dot vec; grind
theorem fp_seg {a b u : Pt} {N s : Int} (m : Seg a b u N s) : N * fp a b u = s * fp a b b := by
  have h1 := m.e1
  have h2 := m.e2
  unfold fp dot vec
  dsimp only
  grind
theorem fp_segK {K : Int} {a b z : Pt} {N s : Int} (m : Seg (sm K a) (sm K b) z N s) : N * dot (vec a b) (vec (sm K a) z) = K * (s * fp a b b) := by
  have e1 := m.e1
  have e2 := m.e2
  unfold fp dot vec sm at *
  dsimp only at *
  grind
theorem fp_pos {a b : Pt} (h : a ≠ b) : 0 < fp a b b := sq_pos h
theorem mul_le_of {N x y : Int} (hN : 0 < N) (h : N * x ≤ N * y) : x ≤ y := Int.le_of_mul_le_mul_left h hN
theorem fp_on {a b u : Pt} (hab : a ≠ b) (h : onS u a b = true) : (0 ≤ fp a b u ∧ fp a b u ≤ fp a b b) ∧ ar a b u = 0 := by
  obtain ⟨N, s, m⟩ := seg_on h
  have e := fp_seg m
  have p := fp_pos hab
  refine ⟨⟨mul_le_of m.N0 ?_, mul_le_of m.N0 ?_⟩, m.lin⟩
  · rw [e, Int.mul_zero]
    exact Int.mul_nonneg m.s0 (Int.le_of_lt p)
  · rw [e]
    exact Int.mul_le_mul_of_nonneg_right m.sN (Int.le_of_lt p)
theorem on_fp {a b X : Pt} (hab : a ≠ b) (h0 : ar a b X = 0) (h1 : 0 ≤ fp a b X) (h2 : fp a b X ≤ fp a b b) : onS X a b = true := by
  have ea := fp_a a b
  obtain ⟨N, s, m⟩ := on_between (e := vec a b) (a := a) (P := a) (Q := b) (X := X) (vec_ne hab) (by unfold crs vec; grind) (by unfold crs; grind) (ar_fp ▸ h0) (by unfold fp at *; omega) h2 (by have := fp_pos hab; unfold fp at *; omega)
  exact on_seg m
/-- The places where a side is cut. -/
structure Stops (a b : Pt) (L : List Pt) (V : Nat → Pt) : Prop where
  ne : a ≠ b
  am : a ∈ L
  bm : b ∈ L
  on : ∀ u, u ∈ L → onS u a b = true
  all : ∀ k, onS (V k) a b = true → V k ∈ L
  nocr : ∀ k, ¬(opp (ar a b (V k)) (ar a b (V (k + 1))) ∧ opp (ar (V k) (V (k + 1)) a) (ar (V k) (V (k + 1)) b))
/-- Two of them that follow each other. -/
structure Nxt (a b : Pt) (L : List Pt) (u v : Pt) : Prop where
  um : u ∈ L
  vm : v ∈ L
  lt : fp a b u < fp a b v
  no : ∀ w, w ∈ L → ¬(fp a b u < fp a b w ∧ fp a b w < fp a b v)
theorem pos_mul {K x y : Int} (hK : 0 < K) (h : K * x < K * y) : x < y := Int.lt_of_mul_lt_mul_left h (Int.le_of_lt hK)
section
variable {a b : Pt} {L : List Pt} {V : Nat → Pt} (S : Stops a b L V) {u v : Pt} (x : Nxt a b L u v)
include S x
/-- A side that is met inside a part is one of the same straight line, and covers the part. -/
theorem part_hit {K : Int} (hK : 0 < K) {z : Pt} {N s N' s' : Int} {k : Nat} (m : Seg (sm K a) (sm K b) z N s) (m' : Seg (sm K (V k)) (sm K (V (k + 1))) z N' s') (h1 : K * fp a b u < dot (vec a b) (vec (sm K a) z)) (h2 : dot (vec a b) (vec (sm K a) z) < K * fp a b v) :
    (ar a b (V k) = 0 ∧ ar a b (V (k + 1)) = 0) ∧ ((fp a b (V k) ≤ fp a b u ∧ fp a b v ≤ fp a b (V (k + 1))) ∨ (fp a b (V (k + 1)) ≤ fp a b u ∧ fp a b v ≤ fp a b (V k))) := by
  have hu := fp_on S.ne (S.on u x.um)
  have hv := fp_on S.ne (S.on v x.vm)
  -- no end of the side lies inside the part
  have noin : ∀ j, ar a b (V j) = 0 → ¬(fp a b u < fp a b (V j) ∧ fp a b (V j) < fp a b v) := fun j h0 hh =>
    x.no (V j) (S.all j (on_fp S.ne h0 (by omega) (by omega))) hh
  have kk : 0 < K * K := Int.mul_pos hK hK
  have z0 : ar (sm K a) (sm K b) z = 0 := m.lin
  have lin := m'.ar (sm K a) (sm K b)
  rw [z0, ar_sm, ar_sm, Int.mul_zero] at lin
  have lin2 : (N' - s') * ar a b (V k) + s' * ar a b (V (k + 1)) = 0 := by
    have : K * K * ((N' - s') * ar a b (V k) + s' * ar a b (V (k + 1))) = 0 := by grind
    rcases Int.mul_eq_zero.1 this with h | h
    · omega
    · exact h
  have hz : N' * dot (vec a b) (vec (sm K a) z) = K * ((N' - s') * fp a b (V k) + s' * fp a b (V (k + 1))) := by
    have e1 := m'.e1
    have e2 := m'.e2
    unfold fp dot vec sm at *
    dsimp only at *
    grind
  have n0 := m'.N0
  have s0 := m'.s0
  have sN := m'.sN
  have endk : s' = 0 → dot (vec a b) (vec (sm K a) z) = K * fp a b (V k) := fun e => by
    rw [e] at hz
    exact Int.eq_of_mul_eq_mul_left (show N' ≠ 0 by omega) (by rw [hz]; grind)
  have endl : s' = N' → dot (vec a b) (vec (sm K a) z) = K * fp a b (V (k + 1)) := fun e => by
    rw [e] at hz
    exact Int.eq_of_mul_eq_mul_left (show N' ≠ 0 by omega) (by rw [hz]; grind)
  by_cases c1 : ar a b (V k) = 0
  · by_cases c2 : ar a b (V (k + 1)) = 0
    · refine ⟨⟨c1, c2⟩, ?_⟩
      have p1 := noin k c1
      have p2 := noin (k + 1) c2
      have w1 : N' * (K * fp a b u) < K * ((N' - s') * fp a b (V k) + s' * fp a b (V (k + 1))) := by rw [← hz]; exact Int.mul_lt_mul_of_pos_left h1 n0
      have w2 : K * ((N' - s') * fp a b (V k) + s' * fp a b (V (k + 1))) < N' * (K * fp a b v) := by rw [← hz]; exact Int.mul_lt_mul_of_pos_left h2 n0
      have w3 : N' * fp a b u < (N' - s') * fp a b (V k) + s' * fp a b (V (k + 1)) := pos_mul hK (by grind)
      have w4 : (N' - s') * fp a b (V k) + s' * fp a b (V (k + 1)) < N' * fp a b v := pos_mul hK (by grind)
      have r1 : ¬(fp a b (V k) ≤ fp a b u ∧ fp a b (V (k + 1)) ≤ fp a b u) := fun ⟨q1, q2⟩ => by
        have := Int.mul_le_mul_of_nonneg_left q1 (show 0 ≤ N' - s' by omega)
        have := Int.mul_le_mul_of_nonneg_left q2 s0
        grind
      have r2 : ¬(fp a b v ≤ fp a b (V k) ∧ fp a b v ≤ fp a b (V (k + 1))) := fun ⟨q1, q2⟩ => by
        have := Int.mul_le_mul_of_nonneg_left q1 (show 0 ≤ N' - s' by omega)
        have := Int.mul_le_mul_of_nonneg_left q2 s0
        grind
      omega
    · exfalso
      rw [c1, Int.mul_zero, Int.zero_add] at lin2
      rcases Int.mul_eq_zero.1 lin2 with e | e
      · have := endk e
        rw [this] at h1 h2
        exact noin k c1 ⟨pos_mul hK h1, pos_mul hK h2⟩
      · exact c2 e
  · by_cases c2 : ar a b (V (k + 1)) = 0
    · exfalso
      rw [c2, Int.mul_zero, Int.add_zero] at lin2
      rcases Int.mul_eq_zero.1 lin2 with e | e
      · have := endl (by omega)
        rw [this] at h1 h2
        exact noin (k + 1) c2 ⟨pos_mul hK h1, pos_mul hK h2⟩
      · exact c1 e
    · exfalso
      have o1 : opp (ar a b (V k)) (ar a b (V (k + 1))) := by
        have q1 : ¬(0 < ar a b (V k) ∧ 0 < ar a b (V (k + 1))) := fun ⟨q1, q2⟩ => by
          have := Int.mul_nonneg (show 0 ≤ N' - s' by omega) (Int.le_of_lt q1)
          have := Int.mul_nonneg s0 (Int.le_of_lt q2)
          by_cases e : s' = 0
          · have := Int.mul_pos (show 0 < N' - s' by omega) q1
            omega
          · have := Int.mul_pos (show 0 < s' by omega) q2
            omega
        have q2 : ¬(ar a b (V k) < 0 ∧ ar a b (V (k + 1)) < 0) := fun ⟨q1, q2⟩ => by
          have := Int.mul_nonneg (show 0 ≤ N' - s' by omega) (show 0 ≤ -ar a b (V k) by omega)
          have := Int.mul_nonneg s0 (show 0 ≤ -ar a b (V (k + 1)) by omega)
          by_cases e : s' = 0
          · have := Int.mul_pos (show 0 < N' - s' by omega) (show 0 < -ar a b (V k) by omega)
            grind
          · have := Int.mul_pos (show 0 < s' by omega) (show 0 < -ar a b (V (k + 1)) by omega)
            grind
        unfold opp
        omega
      refine S.nocr k ⟨o1, ?_⟩
      have lin3 := m.ar (sm K (V k)) (sm K (V (k + 1)))
      rw [m'.lin, ar_sm, ar_sm, Int.mul_zero] at lin3
      have lin4 : (N - s) * ar (V k) (V (k + 1)) a + s * ar (V k) (V (k + 1)) b = 0 := by
        have : K * K * ((N - s) * ar (V k) (V (k + 1)) a + s * ar (V k) (V (k + 1)) b) = 0 := by grind
        rcases Int.mul_eq_zero.1 this with h | h
        · omega
        · exact h
      have hz3 := fp_segK m
      have sp : 0 < s := by
        refine Int.lt_iff_le_and_ne.2 ⟨m.s0, fun e => ?_⟩
        rw [← e, Int.zero_mul, Int.mul_zero] at hz3
        rcases Int.mul_eq_zero.1 hz3 with h | h
        · have := m.N0; omega
        · have := Int.mul_nonneg (Int.le_of_lt hK) hu.1.1
          omega
      have sl : s < N := by
        refine Int.lt_iff_le_and_ne.2 ⟨m.sN, fun e => ?_⟩
        rw [e] at hz3
        have e2 : dot (vec a b) (vec (sm K a) z) = K * fp a b b := Int.eq_of_mul_eq_mul_left (show N ≠ 0 by have := m.N0; omega) (by rw [hz3]; grind)
        have := Int.mul_le_mul_of_nonneg_left hv.1.2 (Int.le_of_lt hK)
        omega
      have l5 : ar a b (V k) - ar a b (V (k + 1)) + ar (V k) (V (k + 1)) a - ar (V k) (V (k + 1)) b = 0 := by unfold ar crs vec; grind
      generalize ar (V k) (V (k + 1)) a = X at *
      generalize ar (V k) (V (k + 1)) b = Y at *
      unfold opp at *
      have q1 : 0 < X → ¬0 ≤ Y := fun g1 g2 => by
        have := Int.mul_pos (show 0 < N - s by omega) g1
        have := Int.mul_nonneg (Int.le_of_lt sp) g2
        omega
      have q2 : X < 0 → ¬Y ≤ 0 := fun g1 g2 => by
        have := Int.mul_pos (show 0 < N - s by omega) (show 0 < -X by omega)
        have := Int.mul_nonneg (Int.le_of_lt sp) (show 0 ≤ -Y by omega)
        grind
      have q3 : X = 0 → Y = 0 := fun g1 => by
        rw [g1, Int.mul_zero, Int.zero_add] at lin4
        rcases Int.mul_eq_zero.1 lin4 with h | h
        · omega
        · exact h
      omega
end
theorem arg_max {L : List Pt} {P : Pt → Prop} (f : Pt → Int) (h : ∃ u, u ∈ L ∧ P u) : ∃ u, u ∈ L ∧ P u ∧ ∀ w, w ∈ L → P w → f w ≤ f u := by
  induction L with
  | nil => obtain ⟨u, hu, _⟩ := h; cases hu
  | cons a L ih =>
    by_cases k : ∃ u, u ∈ L ∧ P u
    · obtain ⟨u, hu, pu, hm⟩ := ih k
      by_cases ka : P a ∧ f u ≤ f a
      · refine ⟨a, List.mem_cons_self, ka.1, fun w hw pw => ?_⟩
        rcases List.mem_cons.1 hw with rfl | hw
        · omega
        · have := hm w hw pw; omega
      · refine ⟨u, List.mem_cons_of_mem _ hu, pu, fun w hw pw => ?_⟩
        rcases List.mem_cons.1 hw with rfl | hw
        · exact Classical.byContradiction fun q => ka ⟨pw, by omega⟩
        · exact hm w hw pw
    · obtain ⟨u, hu, pu⟩ := h
      rcases List.mem_cons.1 hu with rfl | hu
      · refine ⟨u, List.mem_cons_self, pu, fun w hw pw => ?_⟩
        rcases List.mem_cons.1 hw with rfl | hw
        · omega
        · exact absurd ⟨w, hw, pw⟩ k
      · exact absurd ⟨u, hu, pu⟩ k
section
variable {a b : Pt} {L : List Pt} {V : Nat → Pt} (S : Stops a b L V)
include S
/-- The part in which a point lies. -/
theorem part_at {M : Int} (hM : 0 < M) {q : Pt} {N s : Int} (m : Seg (sm M a) (sm M b) q N s) : ∃ u v, Nxt a b L u v ∧ M * fp a b u ≤ dot (vec a b) (vec (sm M a) q) ∧ dot (vec a b) (vec (sm M a) q) ≤ M * fp a b v := by
  have hz := fp_segK m
  have pb := fp_pos S.ne
  have g0 : 0 ≤ dot (vec a b) (vec (sm M a) q) := mul_le_of m.N0 (by
    rw [hz, Int.mul_zero]
    exact Int.mul_nonneg (Int.le_of_lt hM) (Int.mul_nonneg m.s0 (Int.le_of_lt pb)))
  have g1 : dot (vec a b) (vec (sm M a) q) ≤ M * fp a b b := mul_le_of m.N0 (by
    rw [hz]
    have := Int.mul_le_mul_of_nonneg_left (Int.mul_le_mul_of_nonneg_right m.sN (Int.le_of_lt pb)) (Int.le_of_lt hM)
    grind)
  generalize dot (vec a b) (vec (sm M a) q) = g at *
  by_cases k : g < M * fp a b b
  · obtain ⟨u, hu, pu, mu⟩ := arg_max (L := L) (P := fun w => M * fp a b w ≤ g) (fp a b) ⟨a, S.am, by rw [fp_a]; omega⟩
    obtain ⟨v, hv, pv, mv⟩ := arg_max (L := L) (P := fun w => g < M * fp a b w) (fun w => -fp a b w) ⟨b, S.bm, k⟩
    refine ⟨u, v, ⟨hu, hv, pos_mul hM (by omega), fun w hw ⟨w1, w2⟩ => ?_⟩, pu, Int.le_of_lt pv⟩
    by_cases kw : M * fp a b w ≤ g
    · have := mu w hw kw; omega
    · have := mv w hw (by omega); omega
  · obtain ⟨u, hu, pu, mu⟩ := arg_max (L := L) (P := fun w => fp a b w < fp a b b) (fp a b) ⟨a, S.am, by rw [fp_a]; exact pb⟩
    refine ⟨u, b, ⟨hu, S.bm, pu, fun w hw ⟨w1, w2⟩ => ?_⟩, ?_, g1⟩
    · have := mu w hw w2; omega
    · have := Int.mul_le_mul_of_nonneg_left (Int.le_of_lt pu) (Int.le_of_lt hM)
      omega
/-- What is known of a point of a part that is on no side, is known of the middle. -/
theorem parts {n : Nat} (hV : Cl V n) (hn : ∀ k, V k ≠ V (k + 1)) {M : Int} (hM : 0 < M) {q : Pt} {N s : Int} (m : Seg (sm M a) (sm M b) q N s) (ho : Off (sV M V) q) :
    ∃ u v, Nxt a b L u v ∧ Off (sV 2 V) (ad u v) ∧ W (sV 2 V) n (ad u v) = W (sV M V) n q := by
  obtain ⟨u, v, x, k1, k2⟩ := part_at S hM m
  have hu := fp_on S.ne (S.on u x.um)
  have hv := fp_on S.ne (S.on v x.vm)
  refine ⟨u, v, x, ?_⟩
  have h2M : 0 < 2 * M := by omega
  have sep : ∀ k, Sep (sm 2 q) (sm M (ad u v)) (sV (2 * M) V k) (sV (2 * M) V (k + 1)) := fun k => by
    refine sep_of (fun e => hn k (sm_inj h2M e)) (Classical.byContradiction fun hd => ?_)
    obtain ⟨M', z, hM', ⟨N1, s1, m1⟩, N2, s2, m2⟩ := meet hd
    have hK : 0 < M' * (2 * M) := Int.mul_pos hM' h2M
    have m2' : Seg (sm (M' * (2 * M)) (V k)) (sm (M' * (2 * M)) (V (k + 1))) z N2 s2 := by
      have := m2
      unfold sV at this
      rwa [sm_sm, sm_sm] at this
    -- where z is
    have e1 := m1.e1
    have e2 := m1.e2
    have n1 := m1.N0
    have arq : ar (sm M a) (sm M b) q = 0 := m.lin
    have hz : N1 * dot (vec a b) (vec (sm (M' * (2 * M)) a) z) = M' * ((N1 - s1) * (2 * dot (vec a b) (vec (sm M a) q)) + s1 * (M * (fp a b u + fp a b v))) := by
      unfold fp dot vec sm ad at *
      dsimp only at *
      grind
    have zl : crs (vec a b) (vec (sm (M' * (2 * M)) a) z) = 0 := by
      have : N1 * crs (vec a b) (vec (sm (M' * (2 * M)) a) z) = M' * ((N1 - s1) * (2 * crs (vec a b) (vec (sm M a) q)) + s1 * (M * (crs (vec a b) (vec a u) + crs (vec a b) (vec a v)))) := by
        unfold crs vec sm ad at *
        dsimp only at *
        grind
      rw [← ar_fp (X := u), ← ar_fp (X := v), hu.2, hv.2] at this
      have q0 : crs (vec a b) (vec (sm M a) q) = 0 := by
        have : ar (sm M a) (sm M b) q = M * crs (vec a b) (vec (sm M a) q) := by unfold ar crs vec sm; grind
        rw [this] at arq
        rcases Int.mul_eq_zero.1 arq with h | h
        · omega
        · exact h
      rw [q0] at this
      have t0 : N1 * crs (vec a b) (vec (sm (M' * (2 * M)) a) z) = 0 := by rw [this]; grind
      rcases Int.mul_eq_zero.1 t0 with h | h
      · omega
      · exact h
    have s1p : 0 < s1 := by
      refine Int.lt_iff_le_and_ne.2 ⟨m1.s0, fun e => ?_⟩
      subst e
      have ez := m1.first
      have o2 := off_sm hM' (off_sm (M := 2) (by omega) ho) k
      rw [← ez, sV_sV, sV_sV] at o2
      have o3 := on_seg m2'
      unfold sV at o2
      rw [show M' * (2 * M) = M' * 2 * M from (Int.mul_assoc _ _ _).symm] at o3
      rw [o3] at o2
      cases o2
    have lt := x.lt
    have mlt := Int.mul_lt_mul_of_pos_left lt hM
    have z1 : M' * (2 * M) * fp a b u < dot (vec a b) (vec (sm (M' * (2 * M)) a) z) := by
      refine pos_mul n1 ?_
      rw [hz]
      have a1 := Int.mul_le_mul_of_nonneg_left k1 (show 0 ≤ N1 - s1 by have := m1.sN; omega)
      have a2 := Int.mul_lt_mul_of_pos_left mlt s1p
      have a3 : 0 < (N1 - s1) * (2 * dot (vec a b) (vec (sm M a) q)) + s1 * (M * (fp a b u + fp a b v)) - N1 * (2 * M) * fp a b u := by grind
      have a4 := Int.mul_pos hM' a3
      grind
    have z2 : dot (vec a b) (vec (sm (M' * (2 * M)) a) z) < M' * (2 * M) * fp a b v := by
      refine pos_mul n1 ?_
      rw [hz]
      have a1 := Int.mul_le_mul_of_nonneg_left k2 (show 0 ≤ N1 - s1 by have := m1.sN; omega)
      have a2 := Int.mul_lt_mul_of_pos_left mlt s1p
      have a3 : 0 < N1 * (2 * M) * fp a b v - ((N1 - s1) * (2 * dot (vec a b) (vec (sm M a) q)) + s1 * (M * (fp a b u + fp a b v))) := by grind
      have a4 := Int.mul_pos hM' a3
      grind
    have kK := Int.le_of_lt hK
    have cross0 : ∀ X : Pt, crs (vec a b) (vec (sm (M' * (2 * M)) a) (sm (M' * (2 * M)) X)) = M' * (2 * M) * crs (vec a b) (vec a X) := fun X => by unfold crs vec sm; grind
    have dot0 : ∀ X : Pt, dot (vec a b) (vec (sm (M' * (2 * M)) a) (sm (M' * (2 * M)) X)) = M' * (2 * M) * fp a b X := fun X => by unfold fp dot vec sm; grind
    obtain ⟨N3, s3, m3⟩ := on_between (e := vec a b) (a := sm (M' * (2 * M)) a) (P := sm (M' * (2 * M)) a) (Q := sm (M' * (2 * M)) b) (X := z) (vec_ne S.ne)
      (by rw [cross0]; have : crs (vec a b) (vec a a) = 0 := by unfold crs vec; grind
          rw [this]; omega) (by rw [cross0]; have : crs (vec a b) (vec a b) = 0 := by unfold crs vec; grind
                                rw [this]; omega) zl
      (by rw [dot0, fp_a]; have := Int.mul_nonneg kK hu.1.1; omega) (by rw [dot0]; have := Int.mul_le_mul_of_nonneg_left hv.1.2 kK; omega) (by rw [dot0, dot0, fp_a]; have := Int.mul_pos hK (fp_pos S.ne); omega)
    obtain ⟨⟨c1, c2⟩, cc⟩ := part_hit S x hK m3 m2' z1 z2
    -- q is on the side
    have kM := Int.le_of_lt hM
    have q0 : crs (vec a b) (vec (sm M a) q) = 0 := by
      have : ar (sm M a) (sm M b) q = M * crs (vec a b) (vec (sm M a) q) := by unfold ar crs vec sm; grind
      rw [this] at arq
      rcases Int.mul_eq_zero.1 arq with h | h
      · omega
      · exact h
    have crossM : ∀ X : Pt, crs (vec a b) (vec (sm M a) (sm M X)) = M * crs (vec a b) (vec a X) := fun X => by unfold crs vec sm; grind
    have dotM : ∀ X : Pt, dot (vec a b) (vec (sm M a) (sm M X)) = M * fp a b X := fun X => by unfold fp dot vec sm; grind
    rw [ar_fp] at c1 c2
    have on : onS q (sV M V k) (sV M V (k + 1)) = true := by
      rcases cc with ⟨p1, p2⟩ | ⟨p1, p2⟩
      · have r1 := Int.mul_le_mul_of_nonneg_left p1 kM
        have r2 := Int.mul_le_mul_of_nonneg_left p2 kM
        obtain ⟨N4, s4, m4⟩ := on_between (e := vec a b) (a := sm M a) (P := sm M (V k)) (Q := sm M (V (k + 1))) (X := q) (vec_ne S.ne)
          (by rw [crossM, c1]; omega) (by rw [crossM, c2]; omega) q0 (by rw [dotM]; omega) (by rw [dotM]; omega) (by rw [dotM, dotM]; omega)
        exact on_seg m4
      · have r1 := Int.mul_le_mul_of_nonneg_left p1 kM
        have r2 := Int.mul_le_mul_of_nonneg_left p2 kM
        obtain ⟨N4, s4, m4⟩ := on_between (e := vec a b) (a := sm M a) (P := sm M (V (k + 1))) (Q := sm M (V k)) (X := q) (vec_ne S.ne)
          (by rw [crossM, c2]; omega) (by rw [crossM, c1]; omega) q0 (by rw [dotM]; omega) (by rw [dotM]; omega) (by rw [dotM, dotM]; omega)
        refine on_seg (N := N4) (s := N4 - s4) ⟨m4.N0, by have := m4.sN; omega, by have := m4.s0; omega, ?_, ?_⟩
        · have := m4.e1; unfold sV; grind
        · have := m4.e2; unfold sV; grind
    rw [ho k] at on
    cases on
  have w := two_all (hV.sm (2 * M)) fun k _ => sep k
  have e1 : W (sV (2 * M) V) n (sm 2 q) = W (sV M V) n q := by rw [← sV_sV]; exact W_sm (by omega) _ _ _
  have e2 : W (sV (2 * M) V) n (sm M (ad u v)) = W (sV 2 V) n (ad u v) := by rw [Int.mul_comm, ← sV_sV]; exact W_sm hM _ _ _
  have o : Off (sV M (sV 2 V)) (sm M (ad u v)) := fun k => by
    rw [sV_sV, Int.mul_comm]
    exact (sep_off (sep k)).2
  exact ⟨off_sm' o, by rw [← e2, ← w, e1]⟩
end
end K5
end
/- Valid rings: what the middles say of the insides. -/
section
open Go.Proofs G1 G2 G3 G4 G5 G6 G7 G10 G11 G13 G16 G19 J1 J2 J3 J4 J5 J6 J7 J9 J10 J12 K1 K2 K3 K4 K5
set_option maxRecDepth 100000
namespace K6
/-! ### A winding is one about a point that is on no side -/
theorem dr_one {X Y : Pt} (h : X ≠ Y) : Ev fun N => wnd (ad (sm (N * N) X) (-N, -1)) (ad (sm (N * N) Y) (-N, -1)) = wnd X Y ∧ crs (ad (sm (N * N) X) (-N, -1)) (ad (sm (N * N) Y) (-N, -1)) ≠ 0 := by
  have hz : ¬(Y.1 - X.1 = 0 ∧ Y.2 - X.2 = 0) := fun k => h (Prod.ext (by omega) (by omega))
  refine (Ev.ge (2 + (Y.1 - X.1).natAbs + (Y.2 - X.2).natAbs)).mono fun N hN => ?_
  have p1 : 0 < N := by omega
  have pp : 0 < N * N := Int.mul_pos p1 p1
  have p2 : 2 ≤ N * N := by
    have := Int.mul_nonneg (show 0 ≤ N - 2 by omega) (show 0 ≤ N by omega)
    grind
  have ht : ∀ Z : Pt, (ad (sm (N * N) Z) (-N, -1)).2 = N * N * Z.2 + -1 := fun Z => rfl
  have hsg : ∀ z : Int, (z ≤ 0 ↔ N * N * z + -1 ≤ 0) := fun z => by
    constructor
    · intro hz
      have := Int.mul_nonneg (show 0 ≤ N * N by omega) (show 0 ≤ -z by omega)
      rw [Int.mul_neg] at this
      omega
    · intro hz
      refine Int.not_lt.1 fun k => ?_
      have := Int.mul_nonneg (show 0 ≤ N * N by omega) (show 0 ≤ z - 1 by omega)
      rw [Int.mul_sub] at this
      omega
  have ec : crs (ad (sm (N * N) X) (-N, -1)) (ad (sm (N * N) Y) (-N, -1)) = N * N * (N * (N * crs X Y - (Y.2 - X.2)) + (Y.1 - X.1)) := by unfold crs ad sm; grind
  have s1 : 0 < crs X Y → 0 < N * (N * crs X Y - (Y.2 - X.2)) + (Y.1 - X.1) := fun k =>
    lin_pos (by have := lin_pos (N := N) (y := -(Y.2 - X.2)) k (by omega) (by omega); omega) (by omega) (by omega)
  have s2 : crs X Y < 0 → N * (N * crs X Y - (Y.2 - X.2)) + (Y.1 - X.1) < 0 := fun k => by
    have a1 := lin_pos (N := N) (x := -crs X Y) (y := Y.2 - X.2) (by omega) (by omega) (by omega)
    have a2 := lin_pos (N := N) (x := N * -crs X Y + (Y.2 - X.2)) (y := -(Y.1 - X.1)) a1 (by omega) (by omega)
    grind
  have s3 : crs X Y = 0 → 0 < Y.2 - X.2 → N * (N * crs X Y - (Y.2 - X.2)) + (Y.1 - X.1) < 0 := fun k k2 => by
    have a2 := lin_pos (N := N) (x := Y.2 - X.2) (y := -(Y.1 - X.1)) k2 (by omega) (by omega)
    rw [k]
    grind
  have s4 : crs X Y = 0 → Y.2 - X.2 < 0 → 0 < N * (N * crs X Y - (Y.2 - X.2)) + (Y.1 - X.1) := fun k k2 => by
    have a2 := lin_pos (N := N) (x := -(Y.2 - X.2)) (y := Y.1 - X.1) (by omega) (by omega) (by omega)
    rw [k]
    grind
  have s5 : crs X Y = 0 → Y.2 - X.2 = 0 → N * (N * crs X Y - (Y.2 - X.2)) + (Y.1 - X.1) = Y.1 - X.1 := fun k k2 => by
    rw [k, k2]
    omega
  have sg : ∀ T : Int, (0 < N * N * T ↔ 0 < T) ∧ (N * N * T < 0 ↔ T < 0) := fun T => sign_eq (p := 1) (q := N * N) (by omega) pp (by omega)
  have sgT := sg (N * (N * crs X Y - (Y.2 - X.2)) + (Y.1 - X.1))
  have hX := hsg X.2
  have hY := hsg Y.2
  rw [ec]
  refine ⟨?_, ?_⟩
  · unfold wnd
    rw [ec, ht, ht]
    generalize N * N * (N * (N * crs X Y - (Y.2 - X.2)) + (Y.1 - X.1)) = c' at *
    generalize N * (N * crs X Y - (Y.2 - X.2)) + (Y.1 - X.1) = T at *
    generalize crs X Y = c at *
    generalize N * N * X.2 = x2 at *
    generalize N * N * Y.2 = y2 at *
    repeat' split
    all_goals omega
  · generalize N * N * (N * (N * crs X Y - (Y.2 - X.2)) + (Y.1 - X.1)) = c' at *
    generalize N * (N * crs X Y - (Y.2 - X.2)) + (Y.1 - X.1) = T at *
    omega
section
variable {V : Nat → Pt} {n : Nat}
/-- A point so near that the winding is the same. -/
theorem dr (h : Cl V n) (hn : ∀ k, V k ≠ V (k + 1)) (p : Pt) : Ev fun N => Off (sV (N * N) V) (ad (sm (N * N) p) (N, 1)) ∧ W (sV (N * N) V) n (ad (sm (N * N) p) (N, 1)) = W V n p := by
  have k := Ev.all (n := n) (P := fun k N => wnd (ad (sm (N * N) (vec p (V k))) (-N, -1)) (ad (sm (N * N) (vec p (V (k + 1)))) (-N, -1)) = wnd (vec p (V k)) (vec p (V (k + 1))) ∧ crs (ad (sm (N * N) (vec p (V k))) (-N, -1)) (ad (sm (N * N) (vec p (V (k + 1)))) (-N, -1)) ≠ 0)
    fun k _ => dr_one fun e => hn k (by
      have h1 : (V k).1 - p.1 = (V (k + 1)).1 - p.1 := congrArg Prod.fst e
      have h2 : (V k).2 - p.2 = (V (k + 1)).2 - p.2 := congrArg Prod.snd e
      exact Prod.ext (by omega) (by omega))
  refine k.mono fun N k => ?_
  have e : ∀ j, vec (ad (sm (N * N) p) (N, 1)) (sV (N * N) V j) = ad (sm (N * N) (vec p (V j))) (-N, -1) := fun j => by
    refine Prod.ext ?_ ?_ <;> (unfold vec ad sV sm; dsimp only; grind)
  refine ⟨off_lt (h.sm _) fun i hi => ?_, sumI_congr fun i hi => ?_⟩
  · rw [← Bool.not_eq_true]
    intro ho
    obtain ⟨N', s', m⟩ := seg_on ho
    have := m.lin
    have k2 := (k i hi).2
    rw [← e, ← e] at k2
    apply k2
    rw [← this]
    unfold ar crs vec
    grind
  · unfold wd
    rw [e, e]
    exact (k i hi).1
/-- Off the sides both windings agree. -/
theorem off_wm (h : Cl V n) {q : Pt} (ho : Off V q) : Wm V n q = W V n q := by
  rw [Wm_eq]
  have e : W V n q - sumI (wm V q) n = 0 := by
    unfold W
    rw [← sumI_sub]
    have k : sumI (fun l => wd V q l - wm V q l) n = sumI (fun l => (fun j => tD (vec q (V j))) l - (fun j => tD (vec q (V j))) (l + 1)) n := sumI_congr fun l _ => by
      refine wnd_two ?_
      by_cases c : crs (vec q (V l)) (vec q (V (l + 1))) = 0
      · exact Or.inr (strict (ho l) (by rw [← c]; unfold ar crs vec; grind))
      · exact Or.inl c
    rw [k, sum_tele]
    have z : V n = V 0 := by have := h.per 0; rwa [Nat.zero_add] at this
    rw [z]
    omega
  omega
theorem cl_ng (h : Cl V n) : Cl (nV V) n := ⟨h.pos, fun i => congrArg ng (h.per i)⟩
/-- The winding on the other side of a point. -/
theorem drm (h : Cl V n) (hn : ∀ k, V k ≠ V (k + 1)) (p : Pt) : Ev fun N => W (sV (N * N) V) n (ad (sm (N * N) p) (-N, -1)) = Wm V n p := by
  refine (dr (cl_ng h) (fun k e => hn k (ng_inj e)) (ng p)).mono ?_
  rintro N ⟨ho, hw⟩
  have e1 : sV (N * N) (nV V) = nV (sV (N * N) V) := funext fun i => by unfold sV nV sm ng; refine Prod.ext ?_ ?_ <;> (dsimp only; grind)
  have e2 : ad (sm (N * N) (ng p)) (N, 1) = ng (ad (sm (N * N) p) (-N, -1)) := by unfold ad sm ng; refine Prod.ext ?_ ?_ <;> (dsimp only; grind)
  rw [e1, e2] at ho hw
  have nn : ∀ X : Pt, ng (ng X) = X := fun X => Prod.ext (Int.neg_neg _) (Int.neg_neg _)
  have o : Off (sV (N * N) V) (ad (sm (N * N) p) (-N, -1)) := fun k => by
    have := onS_ng (ho k)
    unfold nV at this
    rwa [nn, nn, nn] at this
  have k := off_wm (h.sm (N * N)) o
  unfold Wm at k
  rw [← k, hw]
  rfl
end
/-! ### Beside a side -/
theorem near_side {V : Nat → Pt} {n : Nat} (h : Sim V n) (hb : ∀ i, base V n i = 0) {i : Nat} {x : Pt} {N₀ s : Int} (m : Mid (V i) (V (i + 1)) x N₀ s) {v : Pt} (hv : crs (E V i) v ≠ 0) :
    Ev fun N => Off (sV N V) (ad (sm N x) v) ∧ W (sV N V) n (ad (sm N x) v) = if 0 < crs (E V i) v then 1 else 0 := by
  have c := cl_of h
  have e1 : V (i + n - 1 + 1) = V i := by rw [show i + n - 1 + 1 = i + n by have := c.pos; omega, h.per]
  have e2 : V (i + n - 1 + 2) = V (i + 1) := by rw [show i + n - 1 + 2 = i + 1 + n by have := c.pos; omega, h.per]
  have e3 : E V (i + n - 1 + 1) = E V i := by unfold E; rw [e1, e2]
  have k := near_mid h hb (i := i + n - 1) (x := x) (N₀ := N₀) (s := s) (v := v) (by rw [e1, e2]; exact m) (by rw [e3]; exact hv)
  rw [e3] at k
  exact k
theorem cross_mid {a b c d : Pt} (hx : opp (ar a b c) (ar a b d) ∧ opp (ar c d a) (ar c d b)) : ∃ M q N s N' s', 0 < M ∧ Mid (sm M a) (sm M b) q N s ∧ Mid (sm M c) (sm M d) q N' s' := by
  have lin : ar a b c - ar a b d + ar c d a - ar c d b = 0 := by unfold ar crs vec; grind
  have i1 : (ar c d a - ar c d b) * a.1 + ar c d a * (b.1 - a.1) = (ar c d a - ar c d b) * c.1 - ar a b c * (d.1 - c.1) := by unfold ar crs vec; grind
  have i2 : (ar c d a - ar c d b) * a.2 + ar c d a * (b.2 - a.2) = (ar c d a - ar c d b) * c.2 - ar a b c * (d.2 - c.2) := by unfold ar crs vec; grind
  obtain ⟨o1, o2⟩ := hx
  unfold opp at o1 o2
  generalize ar c d a = x at *
  generalize ar c d b = y at *
  generalize ar a b c = z at *
  generalize ar a b d = t at *
  by_cases k : 0 < x
  · refine ⟨x - y, ((x - y) * a.1 + x * (b.1 - a.1), (x - y) * a.2 + x * (b.2 - a.2)), x - y, x, x - y, -z, by omega, ⟨by omega, by omega, ?_, ?_⟩, by omega, by omega, ?_, ?_⟩ <;> (unfold sm; dsimp only; grind)
  · refine ⟨y - x, ((y - x) * a.1 + -x * (b.1 - a.1), (y - x) * a.2 + -x * (b.2 - a.2)), y - x, -x, y - x, z, by omega, ⟨by omega, by omega, ?_, ?_⟩, by omega, by omega, ?_, ?_⟩ <;> (unfold sm; dsimp only; grind)
theorem opp_crs {a b c d : Pt} (hx : opp (ar c d a) (ar c d b)) : crs (vec a b) (vec c d) ≠ 0 := fun e => by
  have : ar c d b - ar c d a = -crs (vec a b) (vec c d) := by unfold ar crs vec; grind
  unfold opp at hx
  omega
/-! ### Rings of the program -/
theorem ne_val {r : Pts} (h : valV r = true) : ∀ k, pV r k ≠ pV r (k + 1) := (sim_val h).ne
theorem cl_val {r : Pts} (h : valV r = true) : Cl (pV r) r.n := cl_of (sim_val h)
theorem sm2_val {r : Pts} (h : valV r = true) {M : Int} (hM : 0 < M) : Sim (sV M (pV r)) r.n ∧ ∀ i, base (sV M (pV r)) r.n i = 0 :=
  ⟨sim_sm hM (sim_val h), fun i => (base_sm hM _ _ i).trans ((base_val h).1 i)⟩
theorem w01 {r : Pts} (h : valV r = true) {M : Int} (hM : 0 < M) (p : Pt) : W (sV M (pV r)) r.n p = 0 ∨ W (sV M (pV r)) r.n p = 1 := by
  have := any (sm2_val h hM).1 (sm2_val h hM).2 p
  omega
theorem onE_on {m a b : Pt} (hab : a ≠ b) : onE (vec m a) (vec m b) = onS m a b := by
  unfold onE
  rw [Bool.eq_iff_iff, Bool.and_eq_true, decide_eq_true_eq, decide_eq_true_eq]
  constructor
  · rintro ⟨h1, h2⟩
    obtain ⟨N, s, k⟩ := seg_of hab h1 h2
    exact on_seg k
  · intro h
    obtain ⟨N, s, k⟩ := seg_on h
    refine ⟨by rw [← k.lin]; unfold ar crs vec; grind, ?_⟩
    rcases onS_iff.1 h with rfl | rfl | ⟨_, h⟩
    · unfold dot vec; simp
    · unfold dot vec; simp
    · omega
theorem dbl_sm (a m : Pt) : dbl a m = vec m (sm 2 a) := rfl
theorem wdV_2 (r : Pts) (m : Pt) : wdV r m = W (sV 2 (pV r)) r.n m := sumI_congr fun k hk => by
  unfold wdI wd
  rw [dbl_sm, dbl_sm]
  unfold sV
  rw [pV_nxt, pV_lt hk, Nat.mod_eq_of_lt hk]
theorem onV_2 {r : Pts} (h : valV r = true) (m : Pt) : onV r m = false ↔ Off (sV 2 (pV r)) m := by
  have e : ∀ k, k < r.n → onI r m k = onS m (sV 2 (pV r) k) (sV 2 (pV r) (k + 1)) := fun k hk => by
    unfold onI
    rw [dbl_sm, dbl_sm]
    have : nxt r k = pV r (k + 1) := by rw [pV_nxt, Nat.mod_eq_of_lt hk]
    rw [this, ← pV_lt hk]
    exact onE_on fun e => ne_val h k (sm_inj (by omega) e)
  unfold onV
  rw [orB_false]
  constructor
  · intro k
    exact off_lt ((cl_val h).sm 2) fun i hi => by rw [← e i hi]; exact k i hi
  · intro k i hi
    rw [e i hi]
    exact k i
theorem out_iff {r : Pts} (h : valV r = true) (m : Pt) : outV r m = true ↔ Off (sV 2 (pV r)) m ∧ W (sV 2 (pV r)) r.n m = 0 := by
  unfold outV
  rw [Bool.and_eq_true, decide_eq_true_eq, Bool.not_eq_true', onV_2 h, wdV_2]
  exact and_comm
theorem ins_iff {r : Pts} (h : valV r = true) (m : Pt) : insV r m = true ↔ Off (sV 2 (pV r)) m ∧ W (sV 2 (pV r)) r.n m = 1 := by
  have := w01 h (M := 2) (by omega) m
  unfold insV
  rw [Bool.and_eq_true, Bool.not_eq_true', decide_eq_false_iff_not, Bool.not_eq_true', onV_2 h, wdV_2]
  constructor
  · rintro ⟨k1, k2⟩; exact ⟨k2, by omega⟩
  · rintro ⟨k1, k2⟩; exact ⟨by omega, k1⟩
theorem bet_on {p a b : Pt} (h : betV p a b = true) : onS p a b = true := by
  unfold betV at h
  simp only [Bool.and_eq_true] at h
  exact h.2
theorem nocr_of {a b c d : Pt} (h : crV a b c d ≠ 2) : ¬(opp (ar a b c) (ar a b d) ∧ opp (ar c d a) (ar c d b)) := by
  rintro ⟨h1, h2⟩
  have z : ∀ {p q r : Pt}, betV p q r = true → ar q r p = 0 := fun k => by
    obtain ⟨N, s, m⟩ := seg_on (bet_on k)
    exact m.lin
  have t : tch a b c d = false := by
    rw [← Bool.not_eq_true]
    intro k
    unfold tch at k
    simp only [Bool.or_eq_true] at k
    unfold opp at h1 h2
    rcases k with ((k | k) | k) | k
    · have := z k; omega
    · have := z k; omega
    · have := z k; omega
    · have := z k; omega
  apply h
  unfold crV
  rw [if_neg (by rw [t]; decide), if_pos (by rw [Bool.and_eq_true]; exact ⟨prt_iff.2 h1, prt_iff.2 h2⟩)]
theorem cr_of {a b c d : Pt} (h : crV a b c d = 2) : opp (ar a b c) (ar a b d) ∧ opp (ar c d a) (ar c d b) := by
  unfold crV at h
  split at h
  · omega
  · split at h
    · rename_i k
      rw [Bool.and_eq_true] at k
      exact ⟨prt_iff.1 k.1, prt_iff.1 k.2⟩
    · omega
/-- No sides cross. -/
def NoX (A V : Nat → Pt) : Prop := ∀ i k, ¬(opp (ar (A i) (A (i + 1)) (V k)) (ar (A i) (A (i + 1)) (V (k + 1))) ∧ opp (ar (V k) (V (k + 1)) (A i)) (ar (V k) (V (k + 1)) (A (i + 1))))
theorem NoX.sym {A V : Nat → Pt} (h : NoX A V) : NoX V A := fun i k ⟨h1, h2⟩ => h k i ⟨h2, h1⟩
theorem pV_two {r : Pts} (h : 0 < r.n) (i : Nat) : i % r.n < r.n ∧ pV r i = r.p (i % r.n) ∧ pV r (i + 1) = nxt r (i % r.n) := ⟨Nat.mod_lt _ h, rfl, pV_nxt r i⟩
theorem nox_iff {r s : Pts} (hr : 0 < r.n) (hs : 0 < s.n) : crossB r s = false ↔ NoX (pV r) (pV s) := by
  unfold crossB
  rw [orB_false]
  constructor
  · intro h i k
    obtain ⟨i1, i2, i3⟩ := pV_two hr i
    obtain ⟨k1, k2, k3⟩ := pV_two hs k
    have := orB_false.1 (h _ i1) _ k1
    unfold crI at this
    have := of_decide_eq_false this
    rw [← i2, ← i3, ← k2, ← k3] at this
    exact nocr_of this
  · intro h i hi
    unfold crR
    rw [orB_false]
    intro k hk
    unfold crI
    rw [decide_eq_false_iff_not]
    intro e
    have := h i k
    rw [pV_nxt, pV_nxt, pV_lt hi, pV_lt hk, Nat.mod_eq_of_lt hi, Nat.mod_eq_of_lt hk] at this
    exact this (cr_of e)
theorem fp_sq {a b u : Pt} (h : ar a b u = 0) : sqd a u * fp a b b = fp a b u * fp a b u := by
  unfold sqd fp ar crs dot vec at *
  dsimp only at *
  grind
/-- Distances from the first end of a side are as the places along it. -/
theorem dist_fp {a b u v : Pt} (hab : a ≠ b) (ha : onB a = true) (hu : onB u = true ∧ onS u a b = true) (hv : onB v = true ∧ onS v a b = true) : distV a u < distV a v ↔ fp a b u < fp a b v := by
  have f1 := fp_on hab hu.2
  have f2 := fp_on hab hv.2
  have q1 := fp_sq f1.2
  have q2 := fp_sq f2.2
  have pb := fp_pos hab
  unfold distV
  rw [if_pos ⟨ha, hu.1⟩, if_pos ⟨ha, hv.1⟩]
  constructor
  · intro k
    refine Int.not_le.1 fun hn => ?_
    have a1 := Int.mul_lt_mul_of_pos_right k pb
    have a2 := Int.mul_le_mul hn hn (by omega) (by omega)
    omega
  · intro k
    refine Int.not_le.1 fun hn => ?_
    have a1 := Int.mul_le_mul_of_nonneg_right hn (Int.le_of_lt pb)
    have a2 := Int.mul_lt_mul_of_pos_left k (show 0 < fp a b v by omega)
    have a3 := Int.mul_le_mul_of_nonneg_right (Int.le_of_lt k) f1.1.1
    omega
section
variable {r s : Pts} (vr : valV r = true) (vs : valV s = true)
include vr vs
theorem stops_val (hx : NoX (pV r) (pV s)) (i : Nat) (hi : i < r.n) : Stops (pV r i) (pV r (i + 1)) (stL r s i) (pV s) := by
  have hr := (val_ok vr).1.2
  have hs := (val_ok vs).1.2
  have e2 : pV r (i + 1) = nxt r i := by rw [pV_nxt, Nat.mod_eq_of_lt hi]
  have ha := hr i hi
  have hb := nxt_on hr hi
  have hsn : 0 < s.n := (cl_val vs).pos
  refine ⟨ne_val vr i, ?_, ?_, fun u hu => ?_, fun k hk => ?_, fun k => hx i k⟩
  · rw [pV_lt hi]; unfold stL stK; simp
  · rw [e2]; unfold stL stK; simp
  · rw [e2, pV_lt hi]
    exact (stops_on ha hb u hu).2
  · rw [e2, pV_lt hi] at hk
    unfold stL stK
    rw [List.mem_append, List.mem_filter]
    refine Or.inr ⟨mem_lsR.2 ⟨k % s.n, Nat.mod_lt _ hsn, rfl⟩, ?_⟩
    unfold betV
    have ho : onB (pV s k) = true := hs _ (Nat.mod_lt _ hsn)
    rw [ho, ha, hb, hk]
    rfl
omit vs in
theorem mem_mid (m : Pt) : m ∈ midL r s ↔ ∃ i u v, i < r.n ∧ Nxt (pV r i) (pV r (i + 1)) (stL r s i) u v ∧ m = ad u v := by
  have hr := (val_ok vr).1.2
  unfold midL midK
  rw [List.mem_flatMap]
  have key : ∀ i, i < r.n → (m ∈ midI r s i ↔ ∃ u v, Nxt (pV r i) (pV r (i + 1)) (stL r s i) u v ∧ m = ad u v) := fun i hi => by
    have ha := hr i hi
    have hb := nxt_on hr hi
    have e2 : pV r (i + 1) = nxt r i := by rw [pV_nxt, Nat.mod_eq_of_lt hi]
    have hab : r.p i ≠ nxt r i := by rw [← e2, ← pV_lt hi]; exact ne_val vr i
    unfold midI
    rw [mem_midS, e2, pV_lt hi]
    constructor
    · rintro ⟨u, v, hu, hv, h1, h2, e⟩
      have ku := stops_on ha hb u hu
      have kv := stops_on ha hb v hv
      exact ⟨u, v, ⟨hu, hv, (dist_fp hab ha ku kv).1 h1, fun w hw ⟨w1, w2⟩ => h2 w hw ⟨(dist_fp hab ha ku (stops_on ha hb w hw)).2 w1, (dist_fp hab ha (stops_on ha hb w hw) kv).2 w2⟩⟩, e⟩
    · rintro ⟨u, v, x, e⟩
      have ku := stops_on ha hb u x.um
      have kv := stops_on ha hb v x.vm
      exact ⟨u, v, x.um, x.vm, (dist_fp hab ha ku kv).2 x.lt, fun w hw ⟨w1, w2⟩ => x.no w hw ⟨(dist_fp hab ha ku (stops_on ha hb w hw)).1 w1, (dist_fp hab ha (stops_on ha hb w hw) kv).1 w2⟩, e⟩
  constructor
  · rintro ⟨i, hi, h⟩
    have hi' := List.mem_range.1 hi
    obtain ⟨u, v, h1, h2⟩ := (key i hi').1 h
    exact ⟨i, u, v, hi', h1, h2⟩
  · rintro ⟨i, u, v, hi, h1, h2⟩
    exact ⟨i, List.mem_range.2 hi, (key i hi).2 ⟨u, v, h1, h2⟩⟩
theorem avoid_of (hx : NoX (pV r) (pV s)) {β : Int} (hm : ∀ m, m ∈ midL r s → Off (sV 2 (pV s)) m → W (sV 2 (pV s)) s.n m ≠ β) : Avoid β (pV r) (pV s) s.n := by
  intro M hM i q N t sg ho hw
  have hi := (cl_val vr).lt i
  have e := (cl_val vr).mod i
  have sg' : Seg (sm M (pV r (i % r.n))) (sm M (pV r (i % r.n + 1))) q N t := by rw [← e.1, ← e.2]; exact sg
  obtain ⟨u, v, x, h1, h2⟩ := parts (stops_val vr vs hx _ hi) (cl_val vs) (ne_val vs) hM sg' ho
  exact hm _ ((mem_mid vr _).2 ⟨_, u, v, hi, x, rfl⟩) h1 (h2.trans hw)
omit vr vs in
theorem avoid_sm {A V : Nat → Pt} {n : Nat} {β : Int} (h : Avoid β A V n) {K : Int} (hK : 0 < K) : Avoid β (sV K A) (sV K V) n := fun M hM i q N t sg ho => by
  rw [sV_sV] at sg ho ⊢
  exact h _ (Int.mul_pos hM hK) i q N t sg ho
/-- A middle lies inside its side. -/
theorem mid_mid (hx : NoX (pV r) (pV s)) {i : Nat} (hi : i < r.n) {u v : Pt} (x : Nxt (pV r i) (pV r (i + 1)) (stL r s i) u v) : ∃ N t, Mid (sV 2 (pV r) i) (sV 2 (pV r) (i + 1)) (ad u v) N t := by
  have S := stops_val vr vs hx i hi
  have hu := fp_on S.ne (S.on u x.um)
  have hv := fp_on S.ne (S.on v x.vm)
  have lt := x.lt
  have a1 := hu.2
  have a2 := hv.2
  refine ⟨2 * fp (pV r i) (pV r (i + 1)) (pV r (i + 1)), fp (pV r i) (pV r (i + 1)) u + fp (pV r i) (pV r (i + 1)) v, by omega, by omega, ?_, ?_⟩
  · unfold fp dot ar crs ad sV sm vec at *
    dsimp only at *
    grind
  · unfold fp dot ar crs ad sV sm vec at *
    dsimp only at *
    grind
end
end K6
end
/- Within and apart, by windings. -/
section
open Go.Proofs G1 G2 G3 G4 G5 G6 G7 G10 G11 G13 G16 G19 J1 J2 J3 J4 J5 J6 J7 J8 J9 J10 J12 K1 K2 K3 K4 K5 K6
set_option maxRecDepth 100000
namespace K7
/-- Inside of r is inside of s. -/
def Sub (r s : Pts) : Prop := ∀ M : Int, 0 < M → ∀ p, W (sV M (pV r)) r.n p ≤ W (sV M (pV s)) s.n p
/-- Inside of r is not inside of s. -/
def Dsj (r s : Pts) : Prop := ∀ M : Int, 0 < M → ∀ p, W (sV M (pV r)) r.n p + W (sV M (pV s)) s.n p ≤ 1
theorem Sub.refl (r : Pts) : Sub r r := fun _ _ _ => Int.le_refl _
theorem Sub.trans {r s t : Pts} (h : Sub r s) (k : Sub s t) : Sub r t := fun M hM p => Int.le_trans (h M hM p) (k M hM p)
theorem Dsj.sym {r s : Pts} (h : Dsj r s) : Dsj s r := fun M hM p => by have := h M hM p; omega
theorem Dsj.sub {r s t : Pts} (h : Sub r s) (k : Dsj s t) : Dsj r t := fun M hM p => by have := h M hM p; have := k M hM p; omega
theorem any_false {α : Type} {L : List α} {f : α → Bool} : L.any f = false ↔ ∀ m, m ∈ L → f m = false := by
  rw [List.any_eq_false]
  exact ⟨fun h m hm => by simpa using h m hm, fun h m hm => by simpa using h m hm⟩
theorem v_pm {E F : Pt} (h : crs E F ≠ 0) : ∃ v, 0 < crs E v ∧ crs F v < 0 := by
  have a1 : crs E (ad E F) = crs E F := by unfold crs ad; grind
  have a2 : crs F (ad E F) = -crs E F := by unfold crs ad; grind
  have b1 : crs E (ng (ad E F)) = -crs E F := by unfold crs ad ng; grind
  have b2 : crs F (ng (ad E F)) = crs E F := by unfold crs ad ng; grind
  by_cases k : 0 < crs E F
  · exact ⟨ad E F, by omega, by omega⟩
  · exact ⟨ng (ad E F), by omega, by omega⟩
theorem v_pp {E F : Pt} (h : crs E F ≠ 0) : ∃ v, 0 < crs E v ∧ 0 < crs F v := by
  have a1 : crs E (vec E F) = crs E F := by unfold crs vec; grind
  have a2 : crs F (vec E F) = crs E F := by unfold crs vec; grind
  have b1 : crs E (vec F E) = -crs E F := by unfold crs vec; grind
  have b2 : crs F (vec F E) = -crs E F := by unfold crs vec; grind
  by_cases k : 0 < crs E F
  · exact ⟨vec E F, by omega, by omega⟩
  · exact ⟨vec F E, by omega, by omega⟩
theorem crs_E {M : Int} (V : Nat → Pt) (i : Nat) (v : Pt) : crs (E (sV M V) i) v = M * crs (E V i) v := by
  rw [E_sm]
  unfold crs sm
  grind
theorem sgn_mul {M x : Int} (hM : 0 < M) : (0 < M * x ↔ 0 < x) ∧ (M * x ≠ 0 ↔ x ≠ 0) := by
  have := sign_eq (x := M * x) (y := x) (p := 1) (q := M) (by omega) hM (by omega)
  omega
theorem if_sgn {M x : Int} (hM : 0 < M) : (if 0 < M * x then 1 else 0 : Int) = if 0 < x then 1 else 0 := by
  have := (sgn_mul (x := x) hM).1
  by_cases k : 0 < x
  · rw [if_pos k, if_pos (this.2 k)]
  · rw [if_neg k, if_neg fun e => k (this.1 e)]
section
variable {r s : Pts} (vr : valV r = true) (vs : valV s = true)
include vr vs
/-- Where sides cross. -/
theorem at_cross {i k : Nat} (hx : opp (ar (pV r i) (pV r (i + 1)) (pV s k)) (ar (pV r i) (pV r (i + 1)) (pV s (k + 1))) ∧ opp (ar (pV s k) (pV s (k + 1)) (pV r i)) (ar (pV s k) (pV s (k + 1)) (pV r (i + 1)))) {v : Pt}
    (h1 : 0 < crs (E (pV r) i) v) (h2 : crs (E (pV s) k) v ≠ 0) : ∃ M p, 0 < M ∧ W (sV M (pV r)) r.n p = 1 ∧ W (sV M (pV s)) s.n p = if 0 < crs (E (pV s) k) v then 1 else 0 := by
  obtain ⟨M, q, N, t, N', t', hM, m1, m2⟩ := cross_mid hx
  have a := near_side (sm2_val vr hM).1 (sm2_val vr hM).2 (i := i) m1 (v := v) (by rw [crs_E]; exact (sgn_mul hM).2.2 (by omega))
  have b := near_side (sm2_val vs hM).1 (sm2_val vs hM).2 (i := k) m2 (v := v) (by rw [crs_E]; exact (sgn_mul hM).2.2 h2)
  obtain ⟨K, hK, ⟨_, e1⟩, _, e2⟩ := (a.and b).ex
  rw [crs_E, if_sgn hM, sV_sV] at e1 e2
  rw [if_pos h1] at e1
  exact ⟨K * M, _, Int.mul_pos hK hM, e1, e2⟩
omit vr vs in
theorem E_crs {i k : Nat} (hx : opp (ar (pV s k) (pV s (k + 1)) (pV r i)) (ar (pV s k) (pV s (k + 1)) (pV r (i + 1)))) : crs (E (pV r) i) (E (pV s) k) ≠ 0 := opp_crs hx
theorem sub_nox (h : Sub r s) : NoX (pV r) (pV s) := fun i k hx => by
  obtain ⟨v, h1, h2⟩ := v_pm (E_crs hx.2)
  obtain ⟨M, p, hM, e1, e2⟩ := at_cross vr vs hx h1 (by omega)
  rw [if_neg (by omega)] at e2
  have := h M hM p
  omega
theorem dsj_nox (h : Dsj r s) : NoX (pV r) (pV s) := fun i k hx => by
  obtain ⟨v, h1, h2⟩ := v_pp (E_crs hx.2)
  obtain ⟨M, p, hM, e1, e2⟩ := at_cross vr vs hx h1 (by omega)
  rw [if_pos h2] at e2
  have := h M hM p
  omega
/-- Beside a middle, inside. -/
theorem at_mid (hx : NoX (pV r) (pV s)) {m : Pt} (hm : m ∈ midL r s) (ho : Off (sV 2 (pV s)) m) : ∃ M p, 0 < M ∧ (Off (sV M (pV r)) p ∧ W (sV M (pV r)) r.n p = 1) ∧ Off (sV M (pV s)) p ∧ W (sV M (pV s)) s.n p = W (sV 2 (pV s)) s.n m := by
  obtain ⟨i, u, v, hi, x, rfl⟩ := (mem_mid vr m).1 hm
  obtain ⟨N, t, md⟩ := mid_mid vr vs hx hi x
  have k2 := (wv_r (sim_val vr) i).1
  have ec : crs (E (sV 2 (pV r)) i) (ng (wv (pV r) i)) = 2 * -crs (E (pV r) i) (wv (pV r) i) := by
    rw [E_sm]
    unfold crs sm ng
    grind
  have a := near_side (sm2_val vr (M := 2) (by omega)).1 (sm2_val vr (by omega)).2 md (v := ng (wv (pV r) i)) (by rw [ec]; omega)
  have b := near_off ((cl_val vs).sm 2) ho (ng (wv (pV r) i))
  obtain ⟨K, hK, ⟨o1, e1⟩, o2, e2⟩ := (a.and b).ex
  rw [if_pos (by rw [ec]; omega)] at e1
  rw [sV_sV] at o1 e1 o2 e2
  exact ⟨K * 2, _, by omega, ⟨o1, e1⟩, o2, e2⟩
/-- Both windings at a point, at one that is on no side. -/
theorem dr_two {M : Int} (hM : 0 < M) (p : Pt) : ∃ K q, 0 < K ∧ (Off (sV K (pV r)) q ∧ W (sV K (pV r)) r.n q = W (sV M (pV r)) r.n p) ∧ Off (sV K (pV s)) q ∧ W (sV K (pV s)) s.n q = W (sV M (pV s)) s.n p := by
  obtain ⟨N, hN, a, b⟩ := ((dr ((cl_val vr).sm M) (sm2_val vr hM).1.ne p).and (dr ((cl_val vs).sm M) (sm2_val vs hM).1.ne p)).ex
  rw [sV_sV] at a b
  exact ⟨N * N * M, _, Int.mul_pos (Int.mul_pos hN hN) hM, a, b⟩
theorem sub_of (hv : Avoid 0 (pV r) (pV s) s.n) : Sub r s := fun M hM p => by
  have a := w01 vr hM p
  have b := w01 vs hM p
  by_cases c : W (sV M (pV s)) s.n p = 0
  · obtain ⟨K, q, hK, ⟨_, e1⟩, o2, e2⟩ := dr_two vr vs hM p
    have k := incl (sm2_val vs hK).1 (sm2_val vs hK).2 ((cl_val vr).sm K) (sm2_val vr hK).1.ne (avoid_sm hv hK) o2 (e2.trans c)
    omega
  · omega
theorem avoid_sub (h : Sub r s) : Avoid 0 (pV r) (pV s) s.n := by
  have hx := sub_nox vr vs h
  refine avoid_of vr vs hx fun m hm ho hw => ?_
  obtain ⟨M, p, hM, ⟨_, e1⟩, _, e2⟩ := at_mid vr vs hx hm ho
  have := h M hM p
  omega
omit vr vs in
theorem wit_iff : witV r s = true ↔ (valV r = true ∧ valV s = true) ∧ Sub r s := by
  unfold witV
  rw [Bool.and_eq_true, Bool.and_eq_true, Bool.and_eq_true, Bool.not_eq_true', Bool.not_eq_true', any_false, and_assoc]
  refine and_congr_right fun ⟨vr, vs⟩ => ?_
  rw [nox_iff (cl_val vr).pos (cl_val vs).pos]
  constructor
  · rintro ⟨hx, hm⟩
    refine sub_of vr vs (avoid_of vr vs hx fun m hm' ho hw => ?_)
    have := hm m hm'
    rw [(out_iff vs m).2 ⟨ho, hw⟩] at this
    cases this
  · intro h
    have hx := sub_nox vr vs h
    refine ⟨hx, fun m hm => ?_⟩
    rw [← Bool.not_eq_true, out_iff vs]
    rintro ⟨ho, hw⟩
    obtain ⟨M, p, hM, ⟨_, e1⟩, _, e2⟩ := at_mid vr vs hx hm ho
    have := h M hM p
    omega
theorem dsj_of (hx : NoX (pV r) (pV s)) (h1 : ∃ m, m ∈ midL r s ∧ outV s m = true) (h2 : ∀ m, m ∈ midL s r → insV r m = false) : Dsj r s := fun M hM p => by
  have a := w01 vr hM p
  have b := w01 vs hM p
  refine Classical.byContradiction fun hn => ?_
  obtain ⟨K, q, hK, ⟨o1, e1⟩, o2, e2⟩ := dr_two vr vs hM p
  obtain ⟨m, hm, hout⟩ := h1
  obtain ⟨om, wm⟩ := (out_iff vs m).1 hout
  obtain ⟨L, y, hL, ⟨o3, e3⟩, o4, e4⟩ := at_mid vr vs hx hm om
  have av : Avoid 1 (pV s) (pV r) r.n := avoid_of vs vr hx.sym fun m hm ho hw => by
    have := h2 m hm
    rw [(ins_iff vr m).2 ⟨ho, hw⟩] at this
    cases this
  have hKL := Int.mul_pos hK hL
  have p1 : Off (sV (K * L) (pV r)) (sm L q) := by
    have := off_sm hL o1
    rwa [sV_sV, Int.mul_comm] at this
  have p2 : W (sV (K * L) (pV r)) r.n (sm L q) = 1 := by
    rw [Int.mul_comm, ← sV_sV, W_sm hL]
    omega
  have p3 : Off (sV (K * L) (pV r)) (sm K y) := by
    have := off_sm hK o3
    rwa [sV_sV] at this
  have p4 : W (sV (K * L) (pV r)) r.n (sm K y) = 1 := by
    rw [← sV_sV, W_sm hK]
    exact e3
  have k := core (sm2_val vr hKL).1 (sm2_val vr hKL).2 ((cl_val vs).sm (K * L)) (sm2_val vs hKL).1.ne (avoid_sm av hKL) p1 p2 p3 p4
  have q1 : W (sV (K * L) (pV s)) s.n (sm L q) = 1 := by
    rw [Int.mul_comm, ← sV_sV, W_sm hL]
    omega
  have q2 : W (sV (K * L) (pV s)) s.n (sm K y) = 0 := by
    rw [← sV_sV, W_sm hK]
    omega
  omega
/-- What is apart from a ring is not inside it. -/
theorem dsj_mid (h : Dsj r s) {m : Pt} (hm : m ∈ midL r s) : insV s m = false := by
  have hx := dsj_nox vr vs h
  rw [← Bool.not_eq_true, ins_iff vs]
  rintro ⟨ho, hw⟩
  obtain ⟨M, p, hM, ⟨_, e1⟩, _, e2⟩ := at_mid vr vs hx hm ho
  have := h M hM p
  omega
theorem dsj_out (h : Dsj r s) : ∃ m, m ∈ midL r s ∧ outV s m = true := by
  have hx := dsj_nox vr vs h
  refine Classical.byContradiction fun hn => ?_
  have hs := sub_of vr vs (avoid_of vr vs hx fun m hm ho hw => hn ⟨m, hm, (out_iff vs m).2 ⟨ho, hw⟩⟩)
  obtain ⟨M, p, hM, _, e⟩ := inner (sim_val vr) (base_val vr).1
  have k1 := h M hM p
  have k2 := hs M hM p
  omega
omit vr vs in
theorem apa_iff : apaV r s = true ↔ (valV r = true ∧ valV s = true) ∧ Dsj r s := by
  unfold apaV
  rw [Bool.and_eq_true, Bool.and_eq_true, Bool.and_eq_true, Bool.not_eq_true', Bool.and_eq_true, Bool.and_eq_true, Bool.not_eq_true', Bool.not_eq_true', any_false, any_false, List.any_eq_true, and_assoc]
  refine and_congr_right fun ⟨vr, vs⟩ => ?_
  rw [nox_iff (cl_val vr).pos (cl_val vs).pos]
  constructor
  · rintro ⟨hx, ⟨h1, _⟩, h2⟩
    exact dsj_of vr vs hx h1 h2
  · intro h
    exact ⟨dsj_nox vr vs h, ⟨dsj_out vr vs h, fun m hm => dsj_mid vr vs h hm⟩, fun m hm => dsj_mid vs vr h.sym hm⟩
/-! ### Points -/
theorem ins_sub (h : Sub r s) {q : Pt} (hq : insV r q = true) : insV s q = true := by
  obtain ⟨o, w⟩ := (ins_iff vr q).1 hq
  have k := h 2 (by omega) q
  have w2 := w01 vs (M := 2) (by omega) q
  -- inside a side of s
  have inmid : ∀ (M : Int) (x : Pt) (i : Nat) (N t : Int), 0 < M → Off (sV M (pV r)) x → W (sV M (pV r)) r.n x = 1 → Mid (sV M (pV s) i) (sV M (pV s) (i + 1)) x N t → False := fun M x i N t hM ho hw md => by
    have k2 := (wv_r (sim_val vs) i).1
    have ec : crs (E (sV M (pV s)) i) (wv (pV s) i) = M * crs (E (pV s) i) (wv (pV s) i) := crs_E _ _ _
    have e0 : crs (E (sV M (pV s)) i) (wv (pV s) i) < 0 := by
      have := sign_eq (x := M * crs (E (pV s) i) (wv (pV s) i)) (y := crs (E (pV s) i) (wv (pV s) i)) (p := 1) (q := M) (by omega) hM (by omega)
      omega
    have a := near_side (sm2_val vs hM).1 (sm2_val vs hM).2 md (v := wv (pV s) i) (by omega)
    have b := near_off ((cl_val vr).sm M) ho (wv (pV s) i)
    obtain ⟨K, hK, ⟨_, e1⟩, _, e2⟩ := (a.and b).ex
    rw [if_neg (by omega)] at e1
    rw [sV_sV] at e1 e2
    have := h (K * M) (Int.mul_pos hK hM) (ad (sm K x) (wv (pV s) i))
    omega
  -- at a point of s
  have atv : ∀ i, q ≠ sV 2 (pV s) i := fun i e => by
    have b := near_off ((cl_val vr).sm 2) o (E (sV 2 (pV s)) i)
    obtain ⟨K, hK, ⟨o2, e2⟩, hK2⟩ := (b.and (Ev.ge 2)).ex
    rw [sV_sV] at o2 e2
    refine inmid (K * 2) _ i K 1 (by omega) o2 (e2.trans w) ⟨by omega, by omega, ?_, ?_⟩
    · rw [e]; unfold ad E vec sV sm; dsimp only; grind
    · rw [e]; unfold ad E vec sV sm; dsimp only; grind
  refine (ins_iff vs q).2 ⟨fun i => ?_, by omega⟩
  rw [← Bool.not_eq_true]
  intro e
  obtain ⟨N, t, m⟩ := seg_on e
  by_cases t0 : t = 0
  · subst t0; exact atv i m.first
  by_cases tN : t = N
  · subst tN; exact atv (i + 1) m.last
  exact inmid 2 q i N t (by omega) o w (m.mid t0 tN)
theorem out_sub (h : Sub r s) {q : Pt} (hq : outV s q = true) : outV r q = true := by
  obtain ⟨o, w⟩ := (out_iff vs q).1 hq
  have k := h 2 (by omega) q
  have w2 := w01 vr (M := 2) (by omega) q
  refine (out_iff vr q).2 ⟨fun i => ?_, by omega⟩
  rw [← Bool.not_eq_true]
  intro e
  obtain ⟨N, t, m⟩ := seg_on e
  exact avoid_sub vr vs h 2 (by omega) i q N t m o w
theorem whe_sub (h : Sub r s) (p : Pt) : wheV r p ≤ wheV s p := by
  have k1 := ins_sub vr vs h (q := dbP p)
  have k2 := out_sub vr vs h (q := dbP p)
  unfold wheV
  rw [vr, vs]
  cases onB p <;> cases a : insV r (dbP p) <;> cases b : insV s (dbP p) <;> cases c : outV r (dbP p) <;> cases d : outV s (dbP p) <;> simp_all
theorem whe_dsj (h : Dsj r s) (p : Pt) : ¬(wheV r p = 1 ∧ wheV s p = 1) := by
  have one : ∀ {t : Pts}, valV t = true → wheV t p = 1 → W (sV 2 (pV t)) t.n (dbP p) = 1 := fun {t} vt e => by
    refine ((ins_iff vt _).1 ?_).2
    unfold wheV at e
    split at e
    · split at e
      · omega
      · split at e
        · assumption
        · omega
    · omega
  rintro ⟨e1, e2⟩
  have a := one vr e1
  have b := one vs e2
  have := h 2 (by omega) (dbP p)
  omega
end
end K7
end
/- Areas; rings that are within each other. -/
section
open Go.Proofs G1 G2 G3 G4 G5 G6 G7 G10 G11 G13 G16 G19 J1 J2 J3 J4 J5 J6 J7 J8 J9 J10 J12 K1 K2 K3 K4 K5 K6 K7
set_option maxRecDepth 100000
namespace K8
/-! ### Areas -/
theorem sum_mono {f g : Nat → Int} : ∀ {n : Nat}, (∀ i, i < n → f i ≤ g i) → sumI f n ≤ sumI g n
  | 0, _ => Int.le_refl _
  | n + 1, h => by
    simp only [sumI]
    have := sum_mono (n := n) fun i hi => h i (by omega)
    have := h n (by omega)
    omega
theorem sum_eq {f g : Nat → Int} : ∀ {n : Nat}, (∀ i, i < n → f i ≤ g i) → sumI g n ≤ sumI f n → ∀ i, i < n → f i = g i
  | 0, _, _ => fun i hi => absurd hi (by omega)
  | n + 1, h, k => fun i hi => by
    simp only [sumI] at k
    have a := sum_mono (n := n) fun i hi => h i (by omega)
    have b := h n (by omega)
    by_cases e : i = n
    · subst e; omega
    · exact sum_eq (n := n) (fun i hi => h i (by omega)) (by omega) i (by omega)
theorem rect_mono {x0 y0 : Int} {w H : Nat} {F G : Pt → Int} (h : ∀ p, F p ≤ G p) : rect x0 y0 w H F ≤ rect x0 y0 w H G :=
  sum_mono fun _ _ => sum_mono fun _ _ => h _
theorem rect_eq {x0 y0 : Int} {w H : Nat} {F G : Pt → Int} (h : ∀ p, F p ≤ G p) (k : rect x0 y0 w H G ≤ rect x0 y0 w H F) {p : Pt} (hx : x0 ≤ p.1 ∧ p.1 < x0 + w) (hy : y0 ≤ p.2 ∧ p.2 < y0 + H) : F p = G p := by
  obtain ⟨i, hi⟩ : ∃ i : Nat, p.1 = x0 + i := ⟨(p.1 - x0).toNat, by omega⟩
  obtain ⟨j, hj⟩ : ∃ j : Nat, p.2 = y0 + j := ⟨(p.2 - y0).toNat, by omega⟩
  have a := sum_eq (n := H) (fun j _ => sum_mono (n := w) fun i _ => h (x0 + (i : Int), y0 + (j : Int))) k j (by omega)
  have b := sum_eq (n := w) (fun i _ => h (x0 + (i : Int), y0 + (j : Int))) (Int.le_of_eq a.symm) i (by omega)
  have e : p = (x0 + (i : Int), y0 + (j : Int)) := Prod.ext hi hj
  rw [e]
  exact b
def In (B : Nat) (q : Pt) : Prop := (-(B : Int) ≤ q.1 ∧ q.1 < B) ∧ (-(B : Int) ≤ q.2 ∧ q.2 < B)
theorem In.mono {B C : Nat} {q : Pt} (h : In B q) (k : B ≤ C) : In C q := by unfold In at *; omega
theorem cl_in {V : Nat → Pt} {n : Nat} (h : Cl V n) : ∃ B, ∀ k, In B (V k) := by
  have all : ∀ m, ∃ B, ∀ k, k < m → In B (V k) := fun m => by
    induction m with
    | zero => exact ⟨0, fun k hk => absurd hk (by omega)⟩
    | succ m ih =>
      obtain ⟨B, hB⟩ := ih
      refine ⟨B + (V m).1.natAbs + (V m).2.natAbs + 1, fun k hk => ?_⟩
      by_cases e : k = m
      · subst e; unfold In; omega
      · exact (hB k (by omega)).mono (by omega)
  obtain ⟨B, hB⟩ := all n
  exact ⟨B, fun k => by rw [(h.mod k).1]; exact hB _ (h.lt k)⟩
theorem area_in {V : Nat → Pt} {n : Nat} (h : Cl V n) {B : Nat} (hB : ∀ k, In B (V k)) : rect (-(B : Int)) (-(B : Int)) (2 * B) (2 * B) (W V n) + rect (-(B : Int)) (-(B : Int)) (2 * B) (2 * B) (Wm V n) = sumI (fun k => tw2 (V k) (V (k + 1))) n :=
  area h.per fun k => by have := hB k; unfold In at this; omega
theorem tw_sm (M : Int) (V : Nat → Pt) : ∀ n, sumI (fun k => tw2 (sV M V k) (sV M V (k + 1))) n = M * M * sumI (fun k => tw2 (V k) (V (k + 1))) n
  | 0 => by simp [sumI]
  | n + 1 => by
    simp only [sumI]
    rw [tw_sm M V n, Int.mul_add]
    congr 1
    unfold tw2 sV sm
    grind
section
variable {r s : Pts} (vr : valV r = true) (vs : valV s = true) (h : Sub r s)
include vr vs h
theorem wm_sub {M : Int} (hM : 0 < M) (p : Pt) : Wm (sV M (pV r)) r.n p ≤ Wm (sV M (pV s)) s.n p := by
  obtain ⟨N, hN, a, b⟩ := ((drm ((cl_val vr).sm M) (sm2_val vr hM).1.ne p).and (drm ((cl_val vs).sm M) (sm2_val vs hM).1.ne p)).ex
  rw [← a, ← b, sV_sV, sV_sV]
  exact h _ (Int.mul_pos (Int.mul_pos hN hN) hM) _
theorem tw_sub : twV r ≤ twV s := by
  obtain ⟨B1, h1⟩ := cl_in (cl_val vr)
  obtain ⟨B2, h2⟩ := cl_in (cl_val vs)
  have a := area_in (cl_val vr) (B := B1 + B2) fun k => (h1 k).mono (by omega)
  have b := area_in (cl_val vs) (B := B1 + B2) fun k => (h2 k).mono (by omega)
  have one : ∀ (t : Pts), sV 1 (pV t) = pV t := fun t => funext fun i => sm_one _
  have m1 : ∀ p, W (pV r) r.n p ≤ W (pV s) s.n p := fun p => by have := h 1 (by omega) p; rwa [one, one] at this
  have m2 : ∀ p, Wm (pV r) r.n p ≤ Wm (pV s) s.n p := fun p => by have := wm_sub vr vs h (M := 1) (by omega) p; rwa [one, one] at this
  rw [tw_val, tw_val, ← a, ← b]
  have := rect_mono (x0 := -((B1 + B2 : Nat) : Int)) (y0 := -((B1 + B2 : Nat) : Int)) (w := 2 * (B1 + B2)) (H := 2 * (B1 + B2)) m1
  have := rect_mono (x0 := -((B1 + B2 : Nat) : Int)) (y0 := -((B1 + B2 : Nat) : Int)) (w := 2 * (B1 + B2)) (H := 2 * (B1 + B2)) m2
  omega
theorem tw_eq (e : twV r = twV s) : Sub s r := fun M hM p => by
  obtain ⟨B1, h1⟩ := cl_in ((cl_val vr).sm M)
  obtain ⟨B2, h2⟩ := cl_in ((cl_val vs).sm M)
  have h3 : In (p.1.natAbs + p.2.natAbs + 1) p := by unfold In; omega
  have a := area_in ((cl_val vr).sm M) (B := B1 + B2 + (p.1.natAbs + p.2.natAbs + 1)) fun k => (h1 k).mono (by omega)
  have b := area_in ((cl_val vs).sm M) (B := B1 + B2 + (p.1.natAbs + p.2.natAbs + 1)) fun k => (h2 k).mono (by omega)
  rw [tw_sm, ← tw_val] at a b
  have hp := h3.mono (show p.1.natAbs + p.2.natAbs + 1 ≤ B1 + B2 + (p.1.natAbs + p.2.natAbs + 1) by omega)
  generalize B1 + B2 + (p.1.natAbs + p.2.natAbs + 1) = B at *
  have k1 := rect_mono (x0 := -(B : Int)) (y0 := -(B : Int)) (w := 2 * B) (H := 2 * B) (h M hM)
  have k2 := rect_mono (x0 := -(B : Int)) (y0 := -(B : Int)) (w := 2 * B) (H := 2 * B) fun q => wm_sub vr vs h hM q
  rw [e] at a
  unfold In at hp
  have := rect_eq (x0 := -(B : Int)) (y0 := -(B : Int)) (w := 2 * B) (H := 2 * B) (h M hM) (by omega) (p := p) (by omega) (by omega)
  omega
end
/-! ### Rings within each other -/
theorem fp_zero {a b X : Pt} (hab : a ≠ b) (h0 : ar a b X = 0) (h1 : fp a b X = 0) : X = a := by
  have hD : 0 < (b.1 - a.1) * (b.1 - a.1) + (b.2 - a.2) * (b.2 - a.2) := nrm_pos fun ⟨e1, e2⟩ => hab (Prod.ext (by omega) (by omega))
  unfold ar crs vec at h0
  unfold fp dot vec at h1
  dsimp only at h0 h1
  have e1 : ((b.1 - a.1) * (b.1 - a.1) + (b.2 - a.2) * (b.2 - a.2)) * (X.1 - a.1) = 0 := by grind
  have e2 : ((b.1 - a.1) * (b.1 - a.1) + (b.2 - a.2) * (b.2 - a.2)) * (X.2 - a.2) = 0 := by grind
  have f1 := (Int.mul_eq_zero.1 e1).resolve_left (by omega)
  have f2 := (Int.mul_eq_zero.1 e2).resolve_left (by omega)
  exact Prod.ext (by omega) (by omega)
theorem fp_last {a b X : Pt} (hab : a ≠ b) (h0 : ar a b X = 0) (h1 : fp a b X = fp a b b) : X = b := by
  have hD : 0 < (b.1 - a.1) * (b.1 - a.1) + (b.2 - a.2) * (b.2 - a.2) := nrm_pos fun ⟨e1, e2⟩ => hab (Prod.ext (by omega) (by omega))
  unfold ar crs vec at h0
  unfold fp dot vec at h1
  dsimp only at h0 h1
  have e1 : ((b.1 - a.1) * (b.1 - a.1) + (b.2 - a.2) * (b.2 - a.2)) * (X.1 - b.1) = 0 := by grind
  have e2 : ((b.1 - a.1) * (b.1 - a.1) + (b.2 - a.2) * (b.2 - a.2)) * (X.2 - b.2) = 0 := by grind
  have f1 := (Int.mul_eq_zero.1 e1).resolve_left (by omega)
  have f2 := (Int.mul_eq_zero.1 e2).resolve_left (by omega)
  exact Prod.ext (by omega) (by omega)
/-- Along one straight line. -/
theorem fp_par {a b P Q v : Pt} (hP : ar a b P = 0) (hQ : ar a b Q = 0) : fp a b b * crs (vec P Q) v = (fp a b Q - fp a b P) * crs (vec a b) v := by
  unfold ar crs vec at hP hQ
  unfold fp dot crs vec
  dsimp only at *
  grind
section
variable {r s : Pts} (vr : valV r = true) (vs : valV s = true) (h : Sub r s) (h' : Sub s r)
include vr vs h h'
/-- Each part of a side lies on a side of the other ring, with the same direction. -/
theorem part_on {i : Nat} (hi : i < r.n) {u v : Pt} (x : Nxt (pV r i) (pV r (i + 1)) (stL r s i) u v) :
    ∃ k, (ar (pV r i) (pV r (i + 1)) (pV s k) = 0 ∧ ar (pV r i) (pV r (i + 1)) (pV s (k + 1)) = 0) ∧ fp (pV r i) (pV r (i + 1)) (pV s k) ≤ fp (pV r i) (pV r (i + 1)) u ∧ fp (pV r i) (pV r (i + 1)) v ≤ fp (pV r i) (pV r (i + 1)) (pV s (k + 1)) := by
  have hx := sub_nox vr vs h
  have S := stops_val vr vs hx i hi
  obtain ⟨N, t, md⟩ := mid_mid vr vs hx hi x
  have hw := wv_r (sim_val vr) i
  have near := fun (v : Pt) (hv : crs (E (pV r) i) v ≠ 0) => near_side (sm2_val vr (M := 2) (by omega)).1 (sm2_val vr (by omega)).2 md (v := v) (by rw [crs_E]; omega)
  -- the middle is on a side
  have hn : ¬Off (sV 2 (pV s)) (ad u v) := fun ho => by
    obtain ⟨K, hK, ⟨⟨_, e1⟩, _, e2⟩, _, e3⟩ := (((near (wv (pV r) i) (by omega)).and (near_off ((cl_val vs).sm 2) ho (wv (pV r) i))).and (near (ng (wv (pV r) i)) (by
      have : crs (E (pV r) i) (ng (wv (pV r) i)) = -crs (E (pV r) i) (wv (pV r) i) := by unfold crs ng; grind
      omega))).ex
    have e4 := (near_off ((cl_val vs).sm 2) ho (ng (wv (pV r) i)))
    obtain ⟨K', hK', ⟨_, e5⟩, _, e6⟩ := ((near (ng (wv (pV r) i)) (by
      have : crs (E (pV r) i) (ng (wv (pV r) i)) = -crs (E (pV r) i) (wv (pV r) i) := by unfold crs ng; grind
      omega)).and e4).ex
    have c1 : crs (E (pV r) i) (ng (wv (pV r) i)) = -crs (E (pV r) i) (wv (pV r) i) := by unfold crs ng; grind
    rw [crs_E, if_neg (by omega), sV_sV] at e1
    rw [crs_E, if_pos (by omega), sV_sV] at e5
    rw [sV_sV] at e2 e6
    have k1 := h (K' * 2) (by omega) (ad (sm K' (ad u v)) (ng (wv (pV r) i)))
    have k2 := h' (K * 2) (by omega) (ad (sm K (ad u v)) (wv (pV r) i))
    omega
  obtain ⟨k, hk⟩ := Classical.not_forall.1 hn
  rw [Bool.not_eq_false] at hk
  obtain ⟨N', t', m'⟩ := seg_on hk
  have m : Seg (sm 2 (pV r i)) (sm 2 (pV r (i + 1))) (ad u v) N t := ⟨by have := md.s0; have := md.sN; omega, by have := md.s0; omega, by have := md.sN; omega, md.e1, md.e2⟩
  have ez : dot (vec (pV r i) (pV r (i + 1))) (vec (sm 2 (pV r i)) (ad u v)) = fp (pV r i) (pV r (i + 1)) u + fp (pV r i) (pV r (i + 1)) v := by unfold fp dot vec sm ad; grind
  have lt := x.lt
  obtain ⟨⟨c1, c2⟩, c3⟩ := part_hit S x (K := 2) (by omega) m m' (by omega) (by omega)
  refine ⟨k, ⟨c1, c2⟩, ?_⟩
  rcases c3 with c3 | c3
  · exact c3
  exfalso
  -- the other direction
  have hfp : N' * (fp (pV r i) (pV r (i + 1)) u + fp (pV r i) (pV r (i + 1)) v) = 2 * ((N' - t') * fp (pV r i) (pV r (i + 1)) (pV s k) + t' * fp (pV r i) (pV r (i + 1)) (pV s (k + 1))) := by
    have e1 := m'.e1
    have e2 := m'.e2
    unfold fp dot vec sV sm ad at *
    dsimp only at *
    grind
  have md' : Mid (sV 2 (pV s) k) (sV 2 (pV s) (k + 1)) (ad u v) N' t' := by
    refine m'.mid (fun e => ?_) fun e => ?_
    · rw [e] at hfp
      have := Int.eq_of_mul_eq_mul_left (show N' ≠ 0 by have := m'.N0; omega) (show N' * (fp (pV r i) (pV r (i + 1)) u + fp (pV r i) (pV r (i + 1)) v) = N' * (2 * fp (pV r i) (pV r (i + 1)) (pV s k)) by rw [hfp]; grind)
      omega
    · rw [e] at hfp
      have := Int.eq_of_mul_eq_mul_left (show N' ≠ 0 by have := m'.N0; omega) (show N' * (fp (pV r i) (pV r (i + 1)) u + fp (pV r i) (pV r (i + 1)) v) = N' * (2 * fp (pV r i) (pV r (i + 1)) (pV s (k + 1))) by rw [hfp]; grind)
      omega
  have par := fp_par (a := pV r i) (b := pV r (i + 1)) (v := ng (wv (pV r) i)) c1 c2
  have c4 : crs (E (pV r) i) (ng (wv (pV r) i)) = -crs (E (pV r) i) (wv (pV r) i) := by unfold crs ng; grind
  have c5 : crs (vec (pV r i) (pV r (i + 1))) (ng (wv (pV r) i)) = crs (E (pV r) i) (ng (wv (pV r) i)) := rfl
  have c6 : crs (vec (pV s k) (pV s (k + 1))) (ng (wv (pV r) i)) = crs (E (pV s) k) (ng (wv (pV r) i)) := rfl
  rw [c5, c6] at par
  have pb := fp_pos S.ne
  have neg : crs (E (pV s) k) (ng (wv (pV r) i)) < 0 := by
    refine Int.not_le.1 fun hn => ?_
    have a1 := Int.mul_nonneg (Int.le_of_lt pb) hn
    have a2 := Int.mul_pos (show 0 < fp (pV r i) (pV r (i + 1)) (pV s k) - fp (pV r i) (pV r (i + 1)) (pV s (k + 1)) by omega) (show 0 < crs (E (pV r) i) (ng (wv (pV r) i)) by omega)
    grind
  obtain ⟨K, hK, ⟨_, e1⟩, _, e2⟩ := ((near (ng (wv (pV r) i)) (by omega)).and (near_side (sm2_val vs (M := 2) (by omega)).1 (sm2_val vs (by omega)).2 md' (v := ng (wv (pV r) i)) (by rw [crs_E]; omega))).ex
  rw [crs_E, if_pos (by omega), sV_sV] at e1
  rw [crs_E, if_neg (by omega), sV_sV] at e2
  have := h (K * 2) (by omega) (ad (sm K (ad u v)) (ng (wv (pV r) i)))
  omega
/-- Each point of one ring is one of the other. -/
theorem vert (i : Nat) : ∃ k, pV s k = pV r (i + 1) := by
  have hx := sub_nox vr vs h
  have hr := sim_val vr
  -- the side that begins there
  have e1 := (cl_val vr).mod (i + 1)
  have i1 := (cl_val vr).lt (i + 1)
  have S1 := stops_val vr vs hx _ i1
  obtain ⟨u1, v1, x1, a1, b1⟩ := part_at S1 (M := 1) (by omega) (at_one (pV r) ((i + 1) % r.n))
  have z1 : dot (vec (pV r ((i + 1) % r.n)) (pV r ((i + 1) % r.n + 1))) (vec (sm 1 (pV r ((i + 1) % r.n))) (pV r ((i + 1) % r.n))) = 0 := by unfold dot vec sm; grind
  have u1p := (fp_on S1.ne (S1.on u1 x1.um)).1
  obtain ⟨k1, c1, d1, f1⟩ := part_on vr vs h h' i1 x1
  -- the side that ends there
  have e0 := (cl_val vr).mod i
  have i0 := (cl_val vr).lt i
  have S0 := stops_val vr vs hx _ i0
  have sg0 : Seg (sm 1 (pV r (i % r.n))) (sm 1 (pV r (i % r.n + 1))) (pV r (i % r.n + 1)) 1 1 := by
    rw [sm_one, sm_one]
    exact ⟨by omega, by omega, by omega, by omega, by omega⟩
  obtain ⟨u0, v0, x0, a0, b0⟩ := part_at S0 (M := 1) (by omega) sg0
  have z0 : dot (vec (pV r (i % r.n)) (pV r (i % r.n + 1))) (vec (sm 1 (pV r (i % r.n))) (pV r (i % r.n + 1))) = fp (pV r (i % r.n)) (pV r (i % r.n + 1)) (pV r (i % r.n + 1)) := by unfold fp dot vec sm; grind
  obtain ⟨k0, c0, d0, f0⟩ := part_on vr vs h h' i0 x0
  rw [z0] at b0
  rw [z1] at a1
  have lt0 := x0.lt
  have lt1 := x1.lt
  rw [← e1.1, ← e1.2] at *
  rw [← e0.1, ← e0.2] at *
  refine Classical.byContradiction fun hno => ?_
  have hno' : ∀ k, pV s k ≠ pV r (i + 1) := fun k e => hno ⟨k, e⟩
  have hne1 := hr.ne (i + 1)
  have hne0 := hr.ne i
  have p1 : fp (pV r (i + 1)) (pV r (i + 1 + 1)) (pV s k1) < 0 := by
    refine Int.lt_iff_le_and_ne.2 ⟨by omega, fun e => hno' k1 (fp_zero hne1 c1.1 e)⟩
  have p0 : fp (pV r i) (pV r (i + 1)) (pV r (i + 1)) < fp (pV r i) (pV r (i + 1)) (pV s (k0 + 1)) := by
    refine Int.lt_iff_le_and_ne.2 ⟨by omega, fun e => hno' (k0 + 1) (fp_last hne0 c0.2 e.symm)⟩
  -- it is inside both
  have aa1 : crs (vec (pV r (i + 1)) (pV r (i + 1 + 1))) (vec (pV r (i + 1)) (pV r (i + 1))) = 0 := by unfold crs vec; grind
  have aa0 : crs (vec (pV r i) (pV r (i + 1))) (vec (pV r i) (pV r (i + 1))) = 0 := by unfold crs; grind
  have fa := fp_a (pV r (i + 1)) (pV r (i + 1 + 1))
  obtain ⟨N1, t1, m1⟩ := on_between (e := vec (pV r (i + 1)) (pV r (i + 1 + 1))) (a := pV r (i + 1)) (P := pV s k1) (Q := pV s (k1 + 1)) (X := pV r (i + 1)) (vec_ne hne1) (ar_fp ▸ c1.1) (ar_fp ▸ c1.2) aa1 (by unfold fp at *; omega) (by unfold fp at *; omega) (by unfold fp at *; omega)
  obtain ⟨N0, t0, m0⟩ := on_between (e := vec (pV r i) (pV r (i + 1))) (a := pV r i) (P := pV s k0) (Q := pV s (k0 + 1)) (X := pV r (i + 1)) (vec_ne hne0) (ar_fp ▸ c0.1) (ar_fp ▸ c0.2) aa0 (by unfold fp at *; omega) (by unfold fp at *; omega) (by unfold fp at *; omega)
  have md1 : Mid (pV s k1) (pV s (k1 + 1)) (pV r (i + 1)) N1 t1 := m1.mid (fun e => by subst e; exact hno' k1 m1.first.symm) fun e => by subst e; exact hno' (k1 + 1) m1.last.symm
  have cs := cl_val vs
  obtain ⟨l, hl, q1, q2⟩ := cs.find k1 k0
  have g1 : pV s (k1 + s.n - 1 + 1) = pV s k1 := by rw [show k1 + s.n - 1 + 1 = k1 + s.n by have := cs.pos; omega, cs.per]
  have g2 : pV s (k1 + s.n - 1 + 2) = pV s (k1 + 1) := by rw [show k1 + s.n - 1 + 2 = k1 + 1 + s.n by have := cs.pos; omega, cs.per]
  have l0 : l = 0 := by
    refine Classical.byContradiction fun hl0 => ?_
    have o := mid_other (sim_val vs) (i := k1 + s.n - 1) (x := pV r (i + 1)) (N := N1) (s := t1) (by rw [g1, g2]; exact md1) (l := l - 1) (by omega)
    have g3 : pV s (k1 + s.n - 1 + 2 + (l - 1)) = pV s k0 := by rw [q1, show k1 + s.n - 1 + 2 + (l - 1) = k1 + l + s.n by have := cs.pos; omega, cs.per]
    have g4 : pV s (k1 + s.n - 1 + 2 + (l - 1) + 1) = pV s (k0 + 1) := by rw [q2, show k1 + s.n - 1 + 2 + (l - 1) + 1 = k1 + l + 1 + s.n by have := cs.pos; omega, cs.per]
    rw [g3, g4, on_seg m0] at o
    cases o
  subst l0
  rw [Nat.add_zero] at q1 q2
  rw [q1, q2] at c0
  -- so both sides go the same way
  have par1 := fp_par (a := pV r (i + 1)) (b := pV r (i + 1 + 1)) (v := vec (pV s k1) (pV s (k1 + 1))) c1.1 c1.2
  have par0 := fp_par (a := pV r i) (b := pV r (i + 1)) (v := vec (pV s k1) (pV s (k1 + 1))) c0.1 c0.2
  have zz : crs (vec (pV s k1) (pV s (k1 + 1))) (vec (pV s k1) (pV s (k1 + 1))) = 0 := by unfold crs; grind
  rw [zz, Int.mul_zero] at par1 par0
  rw [q2] at f0
  rw [q1] at d0
  have o1 := (Int.mul_eq_zero.1 par1.symm).resolve_left (by omega)
  have o0 := (Int.mul_eq_zero.1 par0.symm).resolve_left (by omega)
  have t := hr.turn' i
  apply t
  have ns := (sim_val vs).ne k1
  have hD : 0 < (vec (pV s k1) (pV s (k1 + 1))).1 * (vec (pV s k1) (pV s (k1 + 1))).1 + (vec (pV s k1) (pV s (k1 + 1))).2 * (vec (pV s k1) (pV s (k1 + 1))).2 := nrm_pos fun k => vec_ne ns (Prod.ext k.1 k.2)
  have : ((vec (pV s k1) (pV s (k1 + 1))).1 * (vec (pV s k1) (pV s (k1 + 1))).1 + (vec (pV s k1) (pV s (k1 + 1))).2 * (vec (pV s k1) (pV s (k1 + 1))).2) * crs (E (pV r) i) (E (pV r) (i + 1)) = 0 := by
    unfold E
    generalize vec (pV s k1) (pV s (k1 + 1)) = w at *
    generalize vec (pV r i) (pV r (i + 1)) = T at *
    generalize vec (pV r (i + 1)) (pV r (i + 1 + 1)) = U at *
    unfold crs at *
    grind
  exact (Int.mul_eq_zero.1 this).resolve_left (by omega)
end
end K8
end
/- Rings that are within each other are the same; a ring that is cut. -/
section
open Go.Proofs G1 G2 G3 G4 G5 G6 G7 G10 G11 G13 G16 G19 J1 J2 J3 J4 J5 J6 J7 J8 J9 J10 J12 K1 K2 K3 K4 K5 K6 K7 K8
set_option maxRecDepth 100000
namespace K9
/-- Only its ends are points of the ring on a side. -/
theorem vert_on {V : Nat → Pt} {n : Nat} (h : Sim V n) {i k : Nat} (ho : onS (V k) (V i) (V (i + 1)) = true) : V k = V i ∨ V k = V (i + 1) := by
  obtain ⟨l, hl, e, _⟩ := (cl_of h).find i k
  rw [e] at ho ⊢
  by_cases l0 : l = 0
  · subst l0; exact Or.inl rfl
  by_cases l1 : l = 1
  · subst l1; exact Or.inr rfl
  exfalso
  by_cases l2 : l + 2 ≤ n
  · rw [(h.dis i l (by omega) l2).hc] at ho
    cases ho
  · obtain ⟨N, s, m⟩ := seg_on ho
    have t := h.turn (i + l)
    have e1 : V (i + l + 1) = V i := by rw [show i + l + 1 = i + n by omega, h.per]
    have e2 : V (i + l + 2) = V (i + 1) := by rw [show i + l + 2 = i + 1 + n by omega, h.per]
    rw [e1, e2] at t
    apply t
    have := m.lin
    unfold ar crs vec at *
    grind
section
variable {r s : Pts} (vr : valV r = true) (vs : valV s = true) (h : K7.Sub r s) (h' : K7.Sub s r)
include vr vs h h'
theorem vert' (i : Nat) : ∃ k, pV s k = pV r i := by
  obtain ⟨k, e⟩ := vert vr vs h h' (i + r.n - 1)
  refine ⟨k, ?_⟩
  rw [e, show i + r.n - 1 + 1 = i + r.n by have := (cl_val vr).pos; omega, (cl_val vr).per]
/-- Each side of one ring is one of the other. -/
theorem side_lt {i : Nat} (hi : i < r.n) : ∃ k, pV s k = pV r i ∧ pV s (k + 1) = pV r (i + 1) := by
  have hx := sub_nox vr vs h
  have S := stops_val vr vs hx i hi
  obtain ⟨u, v, x, a, b⟩ := part_at S (M := 1) (by omega) (at_one (pV r) i)
  have z : dot (vec (pV r i) (pV r (i + 1))) (vec (sm 1 (pV r i)) (pV r i)) = 0 := by unfold dot vec sm; grind
  rw [z] at a
  have up := (fp_on S.ne (S.on u x.um)).1
  have lt := x.lt
  have pb := fp_pos S.ne
  have f0 := fp_a (pV r i) (pV r (i + 1))
  obtain ⟨k, ⟨c1, c2⟩, d, f⟩ := part_on vr vs h h' hi x
  have ev : v = pV r (i + 1) := by
    have key : ∀ q, q ∈ stL r s i → (∃ j, q = pV r j) := fun q hq => by
      unfold stL stK at hq
      simp only [List.mem_append, List.mem_cons, List.not_mem_nil, or_false, List.mem_filter] at hq
      rcases hq with (e | e) | ⟨hq, _⟩
      · exact ⟨i, by rw [e, pV_lt hi]⟩
      · exact ⟨i + 1, by rw [e, pV_nxt, Nat.mod_eq_of_lt hi]⟩
      · obtain ⟨j, hj, e⟩ := mem_lsR.1 hq
        obtain ⟨k, hk⟩ := vert' vs vr h' h j
        exact ⟨k, by rw [hk, ← e, pV_lt hj]⟩
    obtain ⟨j, ej⟩ := key v x.vm
    have ho := S.on v x.vm
    rw [ej] at ho lt ⊢
    rcases vert_on (sim_val vr) ho with e | e
    · rw [e] at lt; omega
    · exact e
  rw [ev] at f
  have ne := (sim_val vr).ne i
  have c1' := c1
  have c2' := c2
  rw [ar_fp] at c1' c2'
  have aa : crs (vec (pV r i) (pV r (i + 1))) (vec (pV r i) (pV r i)) = 0 := by unfold crs vec; grind
  have bb : crs (vec (pV r i) (pV r (i + 1))) (vec (pV r i) (pV r (i + 1))) = 0 := by unfold crs; grind
  obtain ⟨N1, t1, m1⟩ := on_between (e := vec (pV r i) (pV r (i + 1))) (a := pV r i) (P := pV s k) (Q := pV s (k + 1)) (X := pV r i) (vec_ne ne) c1' c2' aa (by unfold fp at *; omega) (by unfold fp at *; omega) (by unfold fp at *; omega)
  obtain ⟨N2, t2, m2⟩ := on_between (e := vec (pV r i) (pV r (i + 1))) (a := pV r i) (P := pV s k) (Q := pV s (k + 1)) (X := pV r (i + 1)) (vec_ne ne) c1' c2' bb (by unfold fp at *; omega) (by unfold fp at *; omega) (by unfold fp at *; omega)
  have o1 := on_seg m1
  have o2 := on_seg m2
  obtain ⟨j1, e1⟩ := vert' vr vs h h' i
  obtain ⟨j2, e2⟩ := vert' vr vs h h' (i + 1)
  refine ⟨k, ?_, ?_⟩
  · rw [← e1] at o1 ⊢
    rcases vert_on (sim_val vs) o1 with e | e
    · exact e.symm
    · rw [← e, e1, f0] at f; omega
  · rw [← e2] at o2 ⊢
    rcases vert_on (sim_val vs) o2 with e | e
    · rw [← e, e2] at d; omega
    · exact e.symm
theorem side (i : Nat) : ∃ k, pV s k = pV r i ∧ pV s (k + 1) = pV r (i + 1) := by
  have e := (cl_val vr).mod i
  rw [e.1, e.2]
  exact side_lt vr vs h h' ((cl_val vr).lt i)
theorem along : ∃ k, ∀ i, pV r i = pV s (k + i) := by
  obtain ⟨k, hk⟩ := vert' vr vs h h' 0
  refine ⟨k, fun i => ?_⟩
  induction i with
  | zero => exact hk.symm
  | succ i ih =>
    obtain ⟨k', e1, e2⟩ := side vr vs h h' i
    obtain ⟨l, hl, q1, q2⟩ := (cl_val vs).find k' (k + i)
    by_cases l0 : l = 0
    · subst l0
      rw [← e2, ← Nat.add_assoc, q2]
    · exfalso
      exact J12.inj (sim_val vs) (x := k') (d := l) (by omega) hl (by rw [← q1, e1, ih])
theorem eq_rot : ∃ k, k < r.n ∧ r.n = s.n ∧ ∀ i, i < r.n → r.p ((i + k) % r.n) = s.p i := by
  obtain ⟨k, hk⟩ := along vr vs h h'
  have pr := (cl_val vr).pos
  have ps := (cl_val vs).pos
  have en : r.n = s.n := by
    rcases Nat.lt_trichotomy r.n s.n with c | c | c
    · exfalso
      refine J12.inj (sim_val vs) (x := k) (d := r.n) pr c ?_
      have a := hk r.n
      have b := hk 0
      have z := (cl_val vr).per 0
      rw [Nat.zero_add] at z
      rw [← a, z, b]
      rfl
    · exact c
    · exfalso
      refine J12.inj (sim_val vr) (x := 0) (d := s.n) ps c ?_
      rw [Nat.zero_add, hk s.n, (cl_val vs).per, hk 0]
      rfl
  refine ⟨(r.n - k % r.n) % r.n, Nat.mod_lt _ pr, en, fun i hi => ?_⟩
  have e1 : r.p ((i + (r.n - k % r.n) % r.n) % r.n) = pV r (i + (r.n - k % r.n)) := by
    unfold pV
    rw [Nat.add_mod_mod]
  have lt := Nat.mod_lt k pr
  have dm := Nat.div_add_mod k r.n
  rw [e1, hk]
  have e2 : k + (i + (r.n - k % r.n)) = i + s.n * (k / r.n + 1) := by
    rw [← en, Nat.mul_add, Nat.mul_one]
    omega
  rw [e2]
  unfold pV
  rw [Nat.add_mul_mod_self_left, Nat.mod_eq_of_lt (by omega)]
end
/-- From another point on. -/
theorem rot_sub {r s : Pts} {k : Nat} (h0 : 0 < r.n) (en : r.n = s.n) (hk : ∀ i, i < r.n → r.p ((i + k) % r.n) = s.p i) : K7.Sub r s ∧ K7.Sub s r ∧ twV r = twV s := by
  have e : ∀ i, pV s i = pV r (k + i) := fun i => by
    unfold pV
    rw [← en, ← hk _ (Nat.mod_lt i h0), Nat.mod_add_mod, Nat.add_comm]
  have hr : Cl (pV r) r.n := ⟨h0, fun i => by unfold pV; rw [Nat.add_mod_right]⟩
  have w : ∀ M p, W (sV M (pV s)) s.n p = W (sV M (pV r)) r.n p := fun M p => by
    rw [← en]
    unfold W
    rw [← sum_shift (Cl.wd_per (hr.sm M) p) k]
    refine sumI_congr fun i _ => ?_
    unfold wd sV
    rw [e, e, Nat.add_assoc]
  refine ⟨fun M _ p => Int.le_of_eq (w M p).symm, fun M _ p => Int.le_of_eq (w M p), ?_⟩
  rw [tw_val, tw_val, ← en, ← sum_shift (f := fun j => tw2 (pV r j) (pV r (j + 1))) (n := r.n) (fun i => by
    rw [hr.per, show i + r.n + 1 = i + 1 + r.n by omega, hr.per]) k]
  refine sumI_congr fun i _ => ?_
  rw [e, e, Nat.add_assoc]
/-! ### Cuts -/
/-- From a point to another one. -/
def cutB (a : Pts) (i k : Nat) : Pts := ⟨k - i + 1, fun j => a.p (i + j)⟩
def cutC (a : Pts) (i k : Nat) : Pts := ⟨a.n - k + (i + 1), fun j => if j < a.n - k then a.p (k + j) else a.p (j - (a.n - k))⟩
theorem ring_sum {r : Pts} (f : Pt → Pt → Int) {m : Nat} (hm : r.n = m + 1) : sumI (fun j => f (pV r j) (pV r (j + 1))) r.n = sumI (fun j => f (r.p j) (r.p (j + 1))) m + f (r.p m) (r.p 0) := by
  rw [hm]
  simp only [sumI]
  have e1 : pV r m = r.p m := pV_lt (by omega)
  have e2 : pV r (m + 1) = r.p 0 := by unfold pV; rw [hm, Nat.mod_self]
  rw [e1, e2]
  congr 1
  exact sumI_congr fun j hj => by rw [pV_lt (by omega), pV_lt (by omega)]
theorem cut_sum {a : Pts} {i k : Nat} (hik : i ≤ k) (hk : k < a.n) (f : Pt → Pt → Int) (hf : ∀ P Q, f Q P = -f P Q) :
    sumI (fun j => f (pV (cutB a i k) j) (pV (cutB a i k) (j + 1))) (cutB a i k).n + sumI (fun j => f (pV (cutC a i k) j) (pV (cutC a i k) (j + 1))) (cutC a i k).n = sumI (fun j => f (pV a j) (pV a (j + 1))) a.n := by
  rw [ring_sum (r := cutB a i k) f (m := k - i) rfl, ring_sum (r := cutC a i k) f (m := a.n - k + i) rfl]
  have per : ∀ j, pV a (j + a.n) = pV a j := fun j => by unfold pV; rw [Nat.add_mod_right]
  have c1 : ∀ j, j ≤ a.n - k + i → (cutC a i k).p j = pV a (k + j) := fun j hj => by
    unfold cutC
    dsimp only
    split
    · rw [pV_lt (by omega)]
    · rw [show k + j = j - (a.n - k) + a.n by omega, per, pV_lt (by omega)]
  have b1 : ∀ j, j ≤ k - i → (cutB a i k).p j = pV a (i + j) := fun j hj => (pV_lt (r := a) (i := i + j) (by omega)).symm
  have e1 : sumI (fun j => f ((cutB a i k).p j) ((cutB a i k).p (j + 1))) (k - i) = sumI (fun j => f (pV a (i + j)) (pV a (i + j + 1))) (k - i) := sumI_congr fun j hj => by rw [b1 j (by omega), b1 (j + 1) (by omega)]; rfl
  have e2 : sumI (fun j => f ((cutC a i k).p j) ((cutC a i k).p (j + 1))) (a.n - k + i) = sumI (fun j => f (pV a (i + (k - i + j))) (pV a (i + (k - i + j) + 1))) (a.n - k + i) := sumI_congr fun j hj => by
    rw [c1 j (by omega), c1 (j + 1) (by omega), show i + (k - i + j) = k + j by omega]
    rfl
  rw [e1, e2, b1 (k - i) (by omega), b1 0 (by omega), c1 (a.n - k + i) (by omega), c1 0 (by omega)]
  have e3 := sum_shift (f := fun j => f (pV a j) (pV a (j + 1))) (n := a.n) (fun j => by
    rw [per, show j + a.n + 1 = j + 1 + a.n by omega, per]) i
  have e4 : sumI (fun j => (fun j => f (pV a j) (pV a (j + 1))) (i + j)) ((k - i) + (a.n - k + i)) = sumI (fun j => f (pV a (i + j)) (pV a (i + j + 1))) (k - i) + sumI (fun j => f (pV a (i + (k - i + j))) (pV a (i + (k - i + j) + 1))) (a.n - k + i) := sumI_add
  rw [show k - i + (a.n - k + i) = a.n by omega, e3] at e4
  have e5 : pV a (k + (a.n - k + i)) = pV a (i + 0) := by rw [show k + (a.n - k + i) = i + 0 + a.n by omega, per]
  have e6 : pV a (i + (k - i)) = pV a (k + 0) := by rw [show i + (k - i) = k + 0 by omega]
  rw [e5, e6, e4, hf (pV a (i + 0)) (pV a (k + 0))]
  omega
section
variable {a : Pts} {i k : Nat} (hik : i ≤ k) (hk : k < a.n)
include hik hk
theorem cut_tw : twV (cutB a i k) + twV (cutC a i k) = twV a := by
  rw [tw_val, tw_val, tw_val]
  exact cut_sum hik hk tw2 fun P Q => by unfold tw2; grind
theorem cut_W (M : Int) (p : Pt) : W (sV M (pV (cutB a i k))) (cutB a i k).n p + W (sV M (pV (cutC a i k))) (cutC a i k).n p = W (sV M (pV a)) a.n p :=
  cut_sum hik hk (fun P Q => wnd (vec p (sm M P)) (vec p (sm M Q))) fun _ _ => wnd_anti _ _
variable (va : valV a = true) (vb : valV (cutB a i k) = true) (vc : valV (cutC a i k) = true)
include va vb vc
omit vb vc in
theorem cut_dsj : K7.Dsj (cutB a i k) (cutC a i k) := fun M hM p => by
  have := cut_W hik hk M p
  have := w01 va hM p
  omega
omit va in
theorem cut_sub : K7.Sub (cutB a i k) a ∧ K7.Sub (cutC a i k) a := by
  constructor <;> intro M hM p
  · have := cut_W hik hk M p
    have := w01 vc hM p
    omega
  · have := cut_W hik hk M p
    have := w01 vb hM p
    omega
end
end K9
end
