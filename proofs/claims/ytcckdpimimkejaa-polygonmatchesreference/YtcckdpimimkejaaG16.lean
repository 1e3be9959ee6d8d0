/- A part of the proof: see the last text. -/
import Derived.Test.YtcckdpimimkejaaG15
open Go Go.Eng Go.Proofs G1 G2 G3 G4 G5 G6 G7 G8 G9 G10 G11 G12 G13 G14 G15
set_option maxRecDepth 100000
namespace G16
/-! ### Rings from another point on, plainly -/
theorem md {x n : Nat} (h : x < 2 * n) : x % n = if x < n then x else x - n := by
  split
  · exact Nat.mod_eq_of_lt (by assumption)
  · rw [Nat.mod_eq_sub_mod (by omega), Nat.mod_eq_of_lt (by omega)]
theorem sumI_congr {f g : Nat → Int} : ∀ {n : Nat}, (∀ i, i < n → f i = g i) → sumI f n = sumI g n := by
  intro n
  induction n with
  | zero => intro _; rfl
  | succ n ih =>
    intro h
    simp only [sumI]
    rw [ih fun i hi => h i (by omega), h n (by omega)]
theorem sumI_add {f : Nat → Int} {a : Nat} : ∀ {b : Nat}, sumI f (a + b) = sumI f a + sumI (fun i => f (a + i)) b := by
  intro b
  induction b with
  | zero => simp [sumI]
  | succ b ih =>
    rw [← Nat.add_assoc]
    simp only [sumI]
    rw [ih]
    omega
theorem sum_rot {f : Nat → Int} {n k : Nat} (hk : k < n) : sumI (fun i => f ((i + k) % n)) n = sumI f n := by
  have e1 : sumI (fun i => f ((i + k) % n)) n = sumI (fun i => f ((i + k) % n)) (n - k + k) := by rw [Nat.sub_add_cancel (by omega)]
  have e2 : sumI f n = sumI f (k + (n - k)) := by congr 1; omega
  rw [e1, e2, sumI_add, sumI_add]
  have e3 : sumI (fun i => f ((i + k) % n)) (n - k) = sumI (fun i => f (k + i)) (n - k) := sumI_congr fun i hi => by
    rw [md (by omega), if_pos (by omega), Nat.add_comm]
  have e4 : sumI (fun i => f ((n - k + i + k) % n)) k = sumI f k := sumI_congr fun i hi => by
    rw [md (by omega), if_neg (by omega)]
    congr 1
    omega
  rw [e3, e4, Int.add_comm]
theorem orB_congr {f g : Nat → Bool} {n : Nat} (h : ∀ i, i < n → f i = g i) : orB f n = orB g n := by
  rw [Bool.eq_iff_iff, orB_true, orB_true]
  constructor
  · rintro ⟨i, hi, e⟩; exact ⟨i, hi, by rw [← h i hi]; exact e⟩
  · rintro ⟨i, hi, e⟩; exact ⟨i, hi, by rw [h i hi]; exact e⟩
/-- A renumbering. -/
structure Ren (n : Nat) (s : Nat → Nat) : Prop where
  lt : ∀ i, i < n → s i < n
  inj : ∀ i j, i < n → j < n → s i = s j → i = j
  onto : ∀ j, j < n → ∃ i, i < n ∧ s i = j
theorem orB_ren {f : Nat → Bool} {n : Nat} {s : Nat → Nat} (hs : Ren n s) : orB (fun i => f (s i)) n = orB f n := by
  rw [Bool.eq_iff_iff, orB_true, orB_true]
  constructor
  · rintro ⟨i, hi, e⟩; exact ⟨s i, hs.lt i hi, e⟩
  · rintro ⟨j, hj, e⟩
    obtain ⟨i, hi, rfl⟩ := hs.onto j hj
    exact ⟨i, hi, e⟩
theorem ren_rot {n k : Nat} (hk : k < n) : Ren n fun i => (i + k) % n where
  lt i hi := Nat.mod_lt _ (by omega)
  inj i j hi hj h := by
    rw [md (by omega), md (by omega)] at h
    split at h <;> split at h <;> omega
  onto j hj := by
    refine ⟨(j + (n - k)) % n, Nat.mod_lt _ (by omega), ?_⟩
    rw [Nat.mod_add_mod]
    rw [show j + (n - k) + k = j + n by omega, Nat.add_mod_right, Nat.mod_eq_of_lt hj]
/-! Symmetric: how two sides meet -/
theorem tch_symm (a b c d : Pt) : tch a b c d = tch c d a b := by
  unfold tch
  cases betV a c d <;> cases betV b c d <;> cases betV c a b <;> cases betV d a b <;> rfl
theorem crV_symm (a b c d : Pt) : crV a b c d = crV c d a b := by
  unfold crV
  rw [tch_symm, Bool.and_comm]
/-- The side i of a ring and its side k are neither the same nor neighbours. -/
def NA (n i k : Nat) : Prop := i ≠ k ∧ (i + 1) % n ≠ k ∧ (k + 1) % n ≠ i
def crI2 (r : Pts) (i k : Nat) : Int := crV (r.p i) (nxt r i) (r.p k) (nxt r k)
def trnI (r : Pts) (i : Nat) : Int := turnV (r.p i) (nxt r i) (r.p ((i + 2) % r.n))
theorem sim_iff {r : Pts} (h3 : 3 ≤ r.n) : simV r = true ↔ (∀ i, i < r.n → trnI r i ≠ 0) ∧ ∀ i k, i < r.n → k < r.n → NA r.n i k → crI2 r i k ≤ 0 := by
  unfold simV
  rw [Bool.not_eq_true', orB_false]
  have key : ∀ i, i < r.n → (bad r i = false ↔ trnI r i ≠ 0 ∧ ∀ k, i + 2 ≤ k → k < min r.n (i + r.n - 1) → crI2 r i k ≤ 0) := by
    intro i hi
    unfold bad bad0
    rw [Bool.or_eq_false_iff, decide_eq_false_iff_not, orB_false]
    refine and_congr Iff.rfl ?_
    constructor
    · intro h k h1 h2
      have := h (k - (i + 2)) (by unfold badK; omega)
      unfold bad1 at this
      rw [decide_eq_false_iff_not, show i + 2 + (k - (i + 2)) = k by omega] at this
      unfold crI2
      omega
    · intro h j hj
      unfold badK at hj
      have := h (i + 2 + j) (by omega) (by omega)
      unfold bad1
      rw [decide_eq_false_iff_not]
      unfold crI2 at this
      omega
  constructor
  · intro h
    refine ⟨fun i hi => ((key i hi).1 (h i hi)).1, ?_⟩
    have half : ∀ i k, i < k → k < r.n → NA r.n i k → crI2 r i k ≤ 0 := by
      intro i k hik hk ⟨h1, h2, h4⟩
      rw [md (by omega)] at h2 h4
      refine ((key i (by omega)).1 (h i (by omega))).2 k ?_ ?_
      · split at h2 <;> omega
      · split at h4 <;> omega
    intro i k hi hk hna
    rcases Nat.lt_trichotomy i k with h1 | h1 | h1
    · exact half i k h1 hk hna
    · exact absurd h1 hna.1
    · unfold crI2
      rw [crV_symm]
      exact half k i h1 hi ⟨fun e => hna.1 e.symm, hna.2.2, hna.2.1⟩
  · rintro ⟨h1, h2⟩ i hi
    refine (key i hi).2 ⟨h1 i hi, fun k hk hk2 => h2 i k hi (by omega) ⟨by omega, ?_, ?_⟩⟩
    · rw [md (by omega)]
      split <;> omega
    · rw [md (by omega)]
      split <;> omega
/-- The ring c is the ring r with other numbers. -/
structure As (r c : Pts) (s : Nat → Nat) : Prop where
  n : c.n = r.n
  ren : Ren r.n s
  p : ∀ i, i < r.n → c.p i = r.p (s i)
  nx : ∀ i, i < r.n → s ((i + 1) % r.n) = (s i + 1) % r.n
theorem as_rot {r : Pts} {k : Nat} (hk : k < r.n) : As r (rot r k) fun i => (i + k) % r.n where
  n := rfl
  ren := ren_rot hk
  p i _ := rfl
  nx i hi := by rw [Nat.mod_add_mod, Nat.mod_add_mod]; congr 1; omega
section
variable {r c : Pts} {s : Nat → Nat} (h : As r c s)
include h
theorem As.nxt {i : Nat} (hi : i < r.n) : G3.nxt c i = G3.nxt r (s i) := by
  unfold G3.nxt
  rw [h.n, h.p _ (Nat.mod_lt _ (by omega)), h.nx i hi]
theorem As.nx2 {i : Nat} (hi : i < r.n) : c.p ((i + 2) % c.n) = r.p ((s i + 2) % r.n) := by
  rw [h.n, h.p _ (Nat.mod_lt _ (by omega))]
  congr 1
  have e : (i + 2) % r.n = ((i + 1) % r.n + 1) % r.n := by rw [Nat.mod_add_mod]
  rw [e, h.nx _ (Nat.mod_lt _ (by omega)), h.nx i hi, Nat.mod_add_mod]
theorem As.na {i k : Nat} (hi : i < r.n) (hk : k < r.n) : NA r.n i k ↔ NA r.n (s i) (s k) := by
  unfold NA
  rw [← h.nx i hi, ← h.nx k hk]
  have m1 := Nat.mod_lt (i + 1) (show 0 < r.n by omega)
  have m2 := Nat.mod_lt (k + 1) (show 0 < r.n by omega)
  constructor
  · rintro ⟨h1, h2, h3⟩
    exact ⟨fun e => h1 (h.ren.inj _ _ hi hk e), fun e => h2 (h.ren.inj _ _ m1 hk e), fun e => h3 (h.ren.inj _ _ m2 hi e)⟩
  · rintro ⟨h1, h2, h3⟩
    exact ⟨fun e => h1 (by rw [e]), fun e => h2 (by rw [e]), fun e => h3 (by rw [e])⟩
theorem As.trn {i : Nat} (hi : i < r.n) : trnI c i = trnI r (s i) := by
  unfold trnI
  rw [h.p i hi, h.nxt hi, h.nx2 hi]
theorem As.cr {i k : Nat} (hi : i < r.n) (hk : k < r.n) : crI2 c i k = crI2 r (s i) (s k) := by
  unfold crI2
  rw [h.p i hi, h.nxt hi, h.p k hk, h.nxt hk]
theorem As.sim (h3 : 3 ≤ r.n) : simV c = simV r := by
  rw [Bool.eq_iff_iff, sim_iff (by rw [h.n]; exact h3), sim_iff h3, h.n]
  constructor
  · rintro ⟨h1, h2⟩
    refine ⟨fun j hj => ?_, fun j l hj hl hna => ?_⟩
    · obtain ⟨i, hi, rfl⟩ := h.ren.onto j hj
      rw [← h.trn hi]
      exact h1 i hi
    · obtain ⟨i, hi, rfl⟩ := h.ren.onto j hj
      obtain ⟨k, hk, rfl⟩ := h.ren.onto l hl
      rw [← h.cr hi hk]
      exact h2 i k hi hk ((h.na hi hk).2 hna)
  · rintro ⟨h1, h2⟩
    refine ⟨fun i hi => ?_, fun i k hi hk hna => ?_⟩
    · rw [h.trn hi]
      exact h1 _ (h.ren.lt i hi)
    · rw [h.cr hi hk]
      exact h2 _ _ (h.ren.lt i hi) (h.ren.lt k hk) ((h.na hi hk).1 hna)
theorem As.off : orB (offI c) c.n = orB (offI r) r.n := by
  rw [h.n, ← orB_ren (f := offI r) h.ren]
  exact orB_congr fun i hi => by unfold offI; rw [h.p i hi]
theorem As.on {p : Pt} : onV c p = onV r p := by
  unfold onV
  rw [h.n, ← orB_ren (f := onI r p) h.ren]
  exact orB_congr fun i hi => by unfold onI; rw [h.p i hi, h.nxt hi]
theorem As.cross {q : Pts} : crossB c q = crossB r q := by
  unfold crossB
  rw [h.n, ← orB_ren (f := crR r q) h.ren]
  exact orB_congr fun i hi => by unfold crR; exact orB_congr fun k _ => by unfold crI; rw [h.p i hi, h.nxt hi]
theorem As.cross' {q : Pts} : crossB q c = crossB q r := by
  unfold crossB
  refine orB_congr fun i hi => ?_
  unfold crR
  rw [h.n, ← orB_ren (f := crI q r i) h.ren]
  exact orB_congr fun k hk => by unfold crI; rw [h.p k hk, h.nxt hk]
theorem As.mem {m : Pt} : m ∈ lsR c.p c.n ↔ m ∈ lsR r.p r.n := by
  rw [mem_lsR, mem_lsR, h.n]
  constructor
  · rintro ⟨i, hi, e⟩; exact ⟨s i, h.ren.lt i hi, by rw [← h.p i hi]; exact e⟩
  · rintro ⟨j, hj, e⟩
    obtain ⟨i, hi, rfl⟩ := h.ren.onto j hj
    exact ⟨i, hi, by rw [h.p i hi]; exact e⟩
end
theorem midS_congr {a : Pt} {L M : List Pt} (h : ∀ x, x ∈ L ↔ x ∈ M) (m : Pt) : m ∈ midS a L ↔ m ∈ midS a M := by
  rw [mem_midS, mem_midS]
  constructor
  · rintro ⟨s, t, h1, h2, h3, h4, h5⟩
    exact ⟨s, t, (h s).1 h1, (h t).1 h2, h3, fun u hu => h4 u ((h u).2 hu), h5⟩
  · rintro ⟨s, t, h1, h2, h3, h4, h5⟩
    exact ⟨s, t, (h s).2 h1, (h t).2 h2, h3, fun u hu => h4 u ((h u).1 hu), h5⟩
theorem mem_midL {r s : Pts} {m : Pt} : m ∈ midL r s ↔ ∃ i, i < r.n ∧ m ∈ midI r s i := by
  unfold midL midK
  simp only [List.mem_flatMap, List.mem_range]
theorem stK_congr {a b : Pt} {q q' : Pts} (h : ∀ m, m ∈ lsR q.p q.n ↔ m ∈ lsR q'.p q'.n) (x : Pt) : x ∈ G11.stK a b q q.n ↔ x ∈ G11.stK a b q' q'.n := by
  unfold G11.stK
  simp only [List.mem_append, List.mem_filter, h]
section
variable {r c : Pts} {s : Nat → Nat} (h : As r c s)
include h
theorem As.mid {q : Pts} {m : Pt} : m ∈ midL c q ↔ m ∈ midL r q := by
  rw [mem_midL, mem_midL, h.n]
  constructor
  · rintro ⟨i, hi, e⟩
    refine ⟨s i, h.ren.lt i hi, ?_⟩
    unfold midI stL at e ⊢
    rw [h.p i hi, h.nxt hi] at e
    exact e
  · rintro ⟨j, hj, e⟩
    obtain ⟨i, hi, rfl⟩ := h.ren.onto j hj
    refine ⟨i, hi, ?_⟩
    unfold midI stL at e ⊢
    rw [h.p i hi, h.nxt hi]
    exact e
theorem As.mid' {q : Pts} {m : Pt} : m ∈ midL q c ↔ m ∈ midL q r := by
  rw [mem_midL, mem_midL]
  refine exists_congr fun i => and_congr Iff.rfl ?_
  unfold midI stL
  exact midS_congr (stK_congr fun m => h.mem) m
end
theorem any_congr {L M : List Pt} {f g : Pt → Bool} (h : ∀ m, m ∈ L ↔ m ∈ M) (hf : ∀ m, f m = g m) : L.any f = M.any g := by
  rw [Bool.eq_iff_iff, List.any_eq_true, List.any_eq_true]
  constructor
  · rintro ⟨m, h1, h2⟩; exact ⟨m, (h m).1 h1, by rw [← hf]; exact h2⟩
  · rintro ⟨m, h1, h2⟩; exact ⟨m, (h m).2 h1, by rw [hf]; exact h2⟩
/-! Boxes -/
theorem lo_iff {r : Pts} : ∀ {n : Nat}, 0 < n → (∀ i, i < n → (loI r n).1 ≤ (r.p i).1 ∧ (loI r n).2 ≤ (r.p i).2) ∧ (∃ i, i < n ∧ (loI r n).1 = (r.p i).1) ∧ ∃ i, i < n ∧ (loI r n).2 = (r.p i).2 := by
  intro n
  induction n with
  | zero => intro h; omega
  | succ n ih =>
    intro _
    by_cases h0 : n = 0
    · subst h0
      simp only [loI, minP]
      refine ⟨fun i hi => ?_, ⟨0, by omega, by omega⟩, ⟨0, by omega, by omega⟩⟩
      rw [show i = 0 by omega]
      omega
    · obtain ⟨h1, ⟨a, ha, ea⟩, ⟨b, hb, eb⟩⟩ := ih (by omega)
      simp only [loI, minP]
      refine ⟨fun i hi => ?_, ?_, ?_⟩
      · by_cases e : i = n
        · subst e; omega
        · have := h1 i (by omega); omega
      · rcases Int.le_total (loI r n).1 (r.p n).1 with h | h
        · exact ⟨a, by omega, by omega⟩
        · exact ⟨n, by omega, by omega⟩
      · rcases Int.le_total (loI r n).2 (r.p n).2 with h | h
        · exact ⟨b, by omega, by omega⟩
        · exact ⟨n, by omega, by omega⟩
theorem hi_iff {r : Pts} : ∀ {n : Nat}, 0 < n → (∀ i, i < n → (r.p i).1 ≤ (hiI r n).1 ∧ (r.p i).2 ≤ (hiI r n).2) ∧ (∃ i, i < n ∧ (hiI r n).1 = (r.p i).1) ∧ ∃ i, i < n ∧ (hiI r n).2 = (r.p i).2 := by
  intro n
  induction n with
  | zero => intro h; omega
  | succ n ih =>
    intro _
    by_cases h0 : n = 0
    · subst h0
      simp only [hiI, maxP]
      refine ⟨fun i hi => ?_, ⟨0, by omega, by omega⟩, ⟨0, by omega, by omega⟩⟩
      rw [show i = 0 by omega]
      omega
    · obtain ⟨h1, ⟨a, ha, ea⟩, ⟨b, hb, eb⟩⟩ := ih (by omega)
      simp only [hiI, maxP]
      refine ⟨fun i hi => ?_, ?_, ?_⟩
      · by_cases e : i = n
        · subst e; omega
        · have := h1 i (by omega); omega
      · rcases Int.le_total (r.p n).1 (hiI r n).1 with h | h
        · exact ⟨a, by omega, by omega⟩
        · exact ⟨n, by omega, by omega⟩
      · rcases Int.le_total (r.p n).2 (hiI r n).2 with h | h
        · exact ⟨b, by omega, by omega⟩
        · exact ⟨n, by omega, by omega⟩
section
variable {r c : Pts} {s : Nat → Nat} (h : As r c s)
include h
theorem As.lo (h0 : 0 < r.n) : loI c c.n = loI r r.n := by
  obtain ⟨a1, ⟨i, hi, ei⟩, ⟨j, hj, ej⟩⟩ := lo_iff (r := r) h0
  obtain ⟨b1, ⟨k, hk, ek⟩, ⟨l, hl, el⟩⟩ := lo_iff (r := c) (n := c.n) (by rw [h.n]; exact h0)
  rw [h.n] at hk hl b1 ek el ⊢
  obtain ⟨i', hi', rfl⟩ := h.ren.onto i hi
  obtain ⟨j', hj', rfl⟩ := h.ren.onto j hj
  have q1 := b1 i' hi'
  have q2 := b1 j' hj'
  have q3 := a1 (s k) (h.ren.lt k hk)
  have q4 := a1 (s l) (h.ren.lt l hl)
  rw [h.p _ hk] at ek
  rw [h.p _ hl] at el
  rw [h.p _ hi'] at q1
  rw [h.p _ hj'] at q2
  exact Prod.ext (by omega) (by omega)
theorem As.hi (h0 : 0 < r.n) : hiI c c.n = hiI r r.n := by
  obtain ⟨a1, ⟨i, hi, ei⟩, ⟨j, hj, ej⟩⟩ := hi_iff (r := r) h0
  obtain ⟨b1, ⟨k, hk, ek⟩, ⟨l, hl, el⟩⟩ := hi_iff (r := c) (n := c.n) (by rw [h.n]; exact h0)
  rw [h.n] at hk hl b1 ek el ⊢
  obtain ⟨i', hi', rfl⟩ := h.ren.onto i hi
  obtain ⟨j', hj', rfl⟩ := h.ren.onto j hj
  have q1 := b1 i' hi'
  have q2 := b1 j' hj'
  have q3 := a1 (s k) (h.ren.lt k hk)
  have q4 := a1 (s l) (h.ren.lt l hl)
  rw [h.p _ hk] at ek
  rw [h.p _ hl] at el
  rw [h.p _ hi'] at q1
  rw [h.p _ hj'] at q2
  exact Prod.ext (by omega) (by omega)
end
/-! The answers for a ring from another point on -/
section
variable {r : Pts} {k : Nat} (hk : k < r.n)
include hk
theorem rot_tw : twV (rot r k) = twV r := by
  unfold twV
  have h := as_rot hk
  rw [h.n, ← sum_rot (f := fun i => tw2 (r.p i) (nxt r i)) hk]
  exact sumI_congr fun i hi => by rw [h.p i hi, h.nxt hi]
theorem rot_wd {p : Pt} : wdV (rot r k) p = wdV r p := by
  unfold wdV
  have h := as_rot hk
  rw [h.n, ← sum_rot (f := wdI r p) hk]
  exact sumI_congr fun i hi => by unfold wdI; rw [h.p i hi, h.nxt hi]
theorem rot_val : valV (rot r k) = valV r := by
  have h := as_rot hk
  unfold valV
  rw [h.off, rot_tw hk, h.n]
  by_cases h3 : 3 ≤ r.n
  · rw [h.sim h3]
  · rw [decide_eq_false (show ¬ 3 ≤ (r.n : Int) by omega)]
    rfl
theorem rot_out {p : Pt} : outV (rot r k) p = outV r p := by unfold outV; rw [rot_wd hk, (as_rot hk).on]
theorem rot_ins {p : Pt} : insV (rot r k) p = insV r p := by unfold insV; rw [rot_wd hk, (as_rot hk).on]
theorem rot_whe {p : Pt} : wheV (rot r k) p = wheV r p := by unfold wheV; rw [rot_val hk, rot_out hk, rot_ins hk]
theorem rot_twi : twiV (rot r k) = twiV r := by unfold twiV; rw [rot_val hk, rot_tw hk]
theorem rot_box : boxV (rot r k) = boxV r := by
  have h := as_rot hk
  unfold boxV
  rw [rot_val hk, h.lo (by omega), h.hi (by omega)]
theorem rot_wit {b : Pts} : witV (rot r k) b = witV r b := by
  have h := as_rot hk
  unfold witV
  rw [rot_val hk, h.cross, any_congr (fun m => h.mid) (fun _ => rfl)]
theorem rot_wit' {b : Pts} : witV b (rot r k) = witV b r := by
  have h := as_rot hk
  unfold witV
  rw [rot_val hk, h.cross', any_congr (fun m => h.mid') (fun _ => rot_out hk)]
theorem rot_apa {b : Pts} : apaV (rot r k) b = apaV r b := by
  have h := as_rot hk
  unfold apaV
  rw [rot_val hk, h.cross, any_congr (f := outV b) (fun m => h.mid) (fun _ => rfl), any_congr (f := insV b) (fun m => h.mid) (fun _ => rfl), any_congr (f := insV (rot r k)) (fun m => h.mid') (fun _ => rot_ins hk)]
end
end G16
