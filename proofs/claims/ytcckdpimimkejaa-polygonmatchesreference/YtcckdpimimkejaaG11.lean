/- A part of the proof: see the last text. -/
import Derived.Test.YtcckdpimimkejaaG10
open Go Go.Eng Go.Proofs G1 G2 G3 G4 G5 G6 G7 G8 G9 G10
set_option maxRecDepth 100000
namespace G11
/-! ### The middles, plainly -/
def addP (p q : Pt) : Pt := (p.1 + q.1, p.2 + q.2)
def succB (L : List Pt) (a s t : Pt) : Bool := decide (distV a s < distV a t) && !(L.any fun u => decide (distV a s < distV a u) && decide (distV a u < distV a t))
def midS (a : Pt) (L : List Pt) : List Pt := L.flatMap fun s => (L.filter fun t => succB L a s t).map (addP s)
def stK (a b : Pt) (by_ : Pts) (k : Nat) : List Pt := [a, b] ++ (lsR by_.p k).filter fun u => betV u a b
def stL (r s : Pts) (i : Nat) : List Pt := stK (r.p i) (nxt r i) s s.n
def midI (r s : Pts) (i : Nat) : List Pt := midS (r.p i) (stL r s i)
def midK (r s : Pts) (i : Nat) : List Pt := (List.range i).flatMap (midI r s)
def midL (r s : Pts) : List Pt := midK r s r.n
theorem mem_midS {a : Pt} {L : List Pt} {m : Pt} : m ∈ midS a L ↔ ∃ s t, s ∈ L ∧ t ∈ L ∧ distV a s < distV a t ∧ (∀ u ∈ L, ¬ (distV a s < distV a u ∧ distV a u < distV a t)) ∧ m = addP s t := by
  unfold midS
  simp only [List.mem_flatMap, List.mem_map, List.mem_filter]
  constructor
  · rintro ⟨s, hs, t, ⟨ht, hb⟩, rfl⟩
    unfold succB at hb
    simp only [Bool.and_eq_true, decide_eq_true_eq, Bool.not_eq_true', List.any_eq_false] at hb
    exact ⟨s, t, hs, ht, hb.1, fun u hu h => hb.2 u hu h, rfl⟩
  · rintro ⟨s, t, hs, ht, h1, h2, rfl⟩
    refine ⟨s, hs, t, ⟨ht, ?_⟩, rfl⟩
    unfold succB
    simp only [Bool.and_eq_true, decide_eq_true_eq, Bool.not_eq_true', List.any_eq_false]
    exact ⟨h1, fun u hu h => h2 u hu h⟩
theorem midK_succ (r s : Pts) (i : Nat) : midK r s (i + 1) = midK r s i ++ midI r s i := by
  unfold midK
  rw [List.range_succ, List.flatMap_append]
  simp
theorem mem_lsR {f : Nat → Pt} {n : Nat} {m : Pt} : m ∈ lsR f n ↔ ∃ i, i < n ∧ f i = m := by
  unfold lsR
  simp
/-! Points of a segment -/
theorem onS_iff {p a b : Pt} : onS p a b = true ↔ p = a ∨ p = b ∨ (ar a b p = 0 ∧ dot (vec p a) (vec p b) < 0) := by
  unfold onS
  simp only [Bool.or_eq_true, Bool.and_eq_true, decide_eq_true_eq, eqP_iff]
  have : sgn (ar a b p) = 0 ↔ ar a b p = 0 := by
    unfold sgn
    split
    · omega
    · split <;> omega
  rw [this]
  exact or_assoc
theorem sq0 (x : Int) : 0 ≤ x * x := by
  rcases Int.le_total 0 x with h | h
  · exact Int.mul_nonneg h h
  · have := Int.mul_nonneg (show 0 ≤ -x by omega) (show 0 ≤ -x by omega)
    rwa [Int.neg_mul_neg] at this
/-- On a segment: it is on its straight line, and on the side of the other end. -/
theorem onS_line {p a b : Pt} (h : onS p a b = true) : ar a b p = 0 ∧ 0 ≤ dot (vec a b) (vec a p) := by
  rcases onS_iff.1 h with rfl | rfl | ⟨h1, h2⟩
  · unfold ar crs dot vec
    constructor <;> simp
  · unfold ar crs dot vec
    refine ⟨by dsimp only; grind, ?_⟩
    dsimp only
    have k1 := sq0 (p.1 - a.1)
    have k2 := sq0 (p.2 - a.2)
    omega
  · refine ⟨h1, ?_⟩
    unfold dot vec at h2 ⊢
    dsimp only at h2 ⊢
    have k1 := sq0 (p.1 - a.1)
    have k2 := sq0 (p.2 - a.2)
    grind
theorem sq_inj {x y : Int} (hx : 0 ≤ x) (hy : 0 ≤ y) (h : x * x = y * y) : x = y := by
  have : (x - y) * (x + y) = 0 := by grind
  rcases Int.mul_eq_zero.1 this with h | h <;> omega
theorem nrm_pos {x y : Int} (h : ¬ (x = 0 ∧ y = 0)) : 0 < x * x + y * y := by
  have k1 := sq0 x
  have k2 := sq0 y
  rcases Int.lt_or_eq_of_le (show 0 ≤ x * x + y * y by omega) with h0 | h0
  · exact h0
  · have e1 : x * x = 0 := by omega
    have e2 : y * y = 0 := by omega
    exact absurd ⟨or_self_iff.1 (Int.mul_eq_zero.1 e1), or_self_iff.1 (Int.mul_eq_zero.1 e2)⟩ h
theorem onS_self {p a : Pt} (h : onS p a a = true) : p = a := by
  rcases onS_iff.1 h with h | h | ⟨_, h⟩
  · exact h
  · exact h
  · exfalso
    unfold dot vec at h
    dsimp only at h
    have k1 := sq0 (a.1 - p.1)
    have k2 := sq0 (a.2 - p.2)
    omega
/-- Points of a segment that are as far from its end are the same. -/
theorem onS_inj {a b u v : Pt} (hu : onS u a b = true) (hv : onS v a b = true) (h : sqd a u = sqd a v) : u = v := by
  by_cases hab : a = b
  · subst hab
    rw [onS_self hu, onS_self hv]
  obtain ⟨u1, u2⟩ := onS_line hu
  obtain ⟨v1, v2⟩ := onS_line hv
  have hD : 0 < (b.1 - a.1) * (b.1 - a.1) + (b.2 - a.2) * (b.2 - a.2) := nrm_pos fun ⟨e1, e2⟩ => hab (Prod.ext (by omega) (by omega))
  unfold ar crs vec at u1 v1
  unfold dot vec at u2 v2
  unfold sqd dot vec at h
  dsimp only at u1 u2 v1 v2 h
  have es := sq_inj u2 v2 (by grind)
  have e1 : ((b.1 - a.1) * (b.1 - a.1) + (b.2 - a.2) * (b.2 - a.2)) * (u.1 - v.1) = 0 := by grind
  have e2 : ((b.1 - a.1) * (b.1 - a.1) + (b.2 - a.2) * (b.2 - a.2)) * (u.2 - v.2) = 0 := by grind
  rcases Int.mul_eq_zero.1 e1 with h1 | h1
  · omega
  rcases Int.mul_eq_zero.1 e2 with h2 | h2
  · omega
  exact Prod.ext (by omega) (by omega)
/-! Sorted, without repetition -/
theorem mem_ddL {f : Nat → Pt} {m : Pt} : ∀ {n : Nat}, m ∈ ddL f n ↔ ∃ i, i < n ∧ f i = m := by
  intro n
  induction n with
  | zero => simp [ddL]
  | succ n ih =>
    simp only [ddL]
    by_cases h0 : n = 0
    · subst h0
      simp only [if_true, List.mem_singleton]
      constructor
      · rintro rfl; exact ⟨0, by omega, rfl⟩
      · rintro ⟨i, hi, rfl⟩
        rw [show i = 0 by omega]
    · rw [if_neg h0]
      split
      · rename_i he
        rw [ih]
        constructor
        · rintro ⟨i, hi, e⟩; exact ⟨i, by omega, e⟩
        · rintro ⟨i, hi, e⟩
          by_cases hin : i = n
          · subst hin; exact ⟨i - 1, by omega, by rw [← he]; exact e⟩
          · exact ⟨i, by omega, e⟩
      · rw [List.mem_append, ih, List.mem_singleton]
        constructor
        · rintro (⟨i, hi, e⟩ | rfl)
          · exact ⟨i, by omega, e⟩
          · exact ⟨n, by omega, rfl⟩
        · rintro ⟨i, hi, e⟩
          by_cases hin : i = n
          · subst hin; exact .inr e.symm
          · exact .inl ⟨i, by omega, e⟩
theorem dd_sorted {f : Nat → Pt} {key : Pt → Int} : ∀ {n : Nat}, (∀ i, i + 1 < n → key (f i) ≤ key (f (i + 1))) → (∀ i j, i < n → j < n → key (f i) = key (f j) → f i = f j) →
    (ddL f n).Pairwise (fun p q => key p < key q) ∧ ∀ m ∈ ddL f n, key m ≤ key (f (n - 1)) := by
  intro n
  induction n with
  | zero => intro _ _; simp [ddL]
  | succ n ih =>
    intro hm hi
    obtain ⟨k1, k2⟩ := ih (fun i h => hm i (by omega)) (fun i j h1 h2 => hi i j (by omega) (by omega))
    simp only [ddL, Nat.add_sub_cancel]
    by_cases h0 : n = 0
    · subst h0
      simp
    · rw [if_neg h0]
      have hs := hm (n - 1) (by omega)
      rw [show n - 1 + 1 = n by omega] at hs
      split
      · exact ⟨k1, fun m hm => Int.le_trans (k2 m hm) hs⟩
      · rename_i hne
        refine ⟨?_, fun m hm => ?_⟩
        · rw [List.pairwise_append]
          refine ⟨k1, List.pairwise_singleton _ _, fun m hm q hq => ?_⟩
          rw [List.mem_singleton.1 hq]
          have := k2 m hm
          rcases Int.lt_or_eq_of_le (Int.le_trans this hs) with h | h
          · exact h
          · exfalso
            refine hne (hi n (n - 1) (by omega) (by omega) ?_)
            omega
        · rw [List.mem_append, List.mem_singleton] at hm
          rcases hm with hm | rfl
          · exact Int.le_trans (k2 m hm) hs
          · exact Int.le_refl _
/-- The sums of neighbours in a strictly sorted list of the points of S. -/
theorem mid_iff {a : Pt} {S : List Pt} {z : Pts} (hs : ∀ i j, i < j → j < z.n → distV a (z.p i) < distV a (z.p j)) (hm : ∀ m, m ∈ S ↔ ∃ i, i < z.n ∧ z.p i = m) (m : Pt) :
    m ∈ midS a S ↔ ∃ j, j + 1 < z.n ∧ m = addP (z.p j) (z.p (j + 1)) := by
  have mono : ∀ i j, i < z.n → j < z.n → distV a (z.p i) < distV a (z.p j) → i < j := by
    intro i j hi hj h
    rcases Nat.lt_trichotomy i j with h1 | h1 | h1
    · exact h1
    · subst h1; omega
    · have := hs j i h1 hi; omega
  rw [mem_midS]
  constructor
  · rintro ⟨s, t, h1, h2, h3, h4, rfl⟩
    obtain ⟨i, hi, rfl⟩ := (hm s).1 h1
    obtain ⟨j, hj, rfl⟩ := (hm t).1 h2
    have hij := mono i j hi hj h3
    have : j = i + 1 := by
      refine Classical.byContradiction fun hne => ?_
      exact h4 (z.p (i + 1)) ((hm _).2 ⟨i + 1, by omega, rfl⟩) ⟨hs i (i + 1) (by omega) (by omega), hs (i + 1) j (by omega) hj⟩
    subst this
    exact ⟨i, hj, rfl⟩
  · rintro ⟨j, hj, rfl⟩
    refine ⟨z.p j, z.p (j + 1), (hm _).2 ⟨j, by omega, rfl⟩, (hm _).2 ⟨j + 1, hj, rfl⟩, hs j (j + 1) (by omega) hj, ?_, rfl⟩
    intro u hu ⟨h1, h2⟩
    obtain ⟨i, hi, rfl⟩ := (hm u).1 hu
    have := mono j i (by omega) hi h1
    have := mono i (j + 1) hi hj h2
    omega
/-- All of the stops of a side. -/
theorem stops_on {a b : Pt} {s : Pts} {k : Nat} (ha : onB a = true) (hb : onB b = true) : ∀ u ∈ stK a b s k, onB u = true ∧ onS u a b = true := by
  intro u hu
  unfold stK at hu
  simp only [List.mem_append, List.mem_cons, List.not_mem_nil, or_false, List.mem_filter] at hu
  rcases hu with (rfl | rfl) | ⟨_, h⟩
  · exact ⟨ha, onS_iff.2 (.inl rfl)⟩
  · exact ⟨hb, onS_iff.2 (.inr (.inl rfl))⟩
  · unfold betV at h
    simp only [Bool.and_eq_true] at h
    exact ⟨h.1.1.1, h.2⟩
/-- A sorted list of stops, compacted: the middles. -/
theorem mids_ok {a b : Pt} {s : Pts} {k : Nat} (ha : onB a = true) (hb : onB b = true) {y : List Pt} (hp : y.Perm (stK a b s k)) (hsort : y.Pairwise (fun p q => ltOf (nearF a) q p = false)) {z : Pts}
    (hz : lsR z.p z.n = ddL (fun j => y.getD j (0, 0)) y.length) (m : Pt) : m ∈ midS a (stK a b s k) ↔ ∃ j, j + 1 < z.n ∧ m = addP (z.p j) (z.p (j + 1)) := by
  have hg : ∀ j (h : j < y.length), y.getD j (0, 0) = y[j] := fun j h => by rw [List.getD_eq_getElem?_getD, List.getElem?_eq_getElem h]; rfl
  have hin : ∀ j, j < y.length → y.getD j (0, 0) ∈ stK a b s k := fun j h => by rw [hg j h]; exact hp.mem_iff.1 (List.getElem_mem h)
  have hk := dd_sorted (f := fun j => y.getD j (0, 0)) (key := distV a) (n := y.length) (fun i hi => by
      rw [hg i (by omega), hg (i + 1) hi]
      have := List.pairwise_iff_getElem.1 hsort i (i + 1) (by omega) hi (by omega)
      rw [cmp_lt] at this
      have := of_decide_eq_false this
      omega) (fun i j hi hj h => by
      have h1 := stops_on ha hb _ (hin i hi)
      have h2 := stops_on ha hb _ (hin j hj)
      refine onS_inj h1.2 h2.2 ?_
      unfold distV at h
      rw [if_pos ⟨ha, h1.1⟩, if_pos ⟨ha, h2.1⟩] at h
      exact h)
  rw [← hz] at hk
  refine mid_iff (fun i j hij hj => ?_) (fun m => ?_) m
  · have hl : (lsR z.p z.n).length = z.n := by unfold lsR; simp
    have := List.pairwise_iff_getElem.1 hk.1 i j (by omega) (by omega) hij
    simpa [lsR] using this
  · rw [← mem_lsR, hz, mem_ddL, ← hp.mem_iff]
    constructor
    · intro h
      obtain ⟨i, hi, e⟩ := List.getElem_of_mem h
      exact ⟨i, hi, by rw [hg i hi]; exact e⟩
    · rintro ⟨i, hi, e⟩
      rw [hg i hi] at e
      rw [← e]
      exact List.getElem_mem hi
end G11
