/- A part of the proof: see the last text. -/
import Derived.Test.YtcckdpimimkejaaG18
open Go Go.Eng Go.Proofs G1 G2 G3 G4 G5 G6 G7 G8 G9 G10 G11 G12 G13 G16 G18
set_option maxRecDepth 100000
namespace G19
/-! ### Sums -/
theorem sum_rev {n : Nat} : ∀ {f : Nat → Int}, sumI (fun i => f (n - 1 - i)) n = sumI f n := by
  induction n with
  | zero => intro f; rfl
  | succ n ih =>
    intro f
    have e1 : sumI f (n + 1) = sumI f 1 + sumI (fun i => f (1 + i)) n := by rw [Nat.add_comm, sumI_add]
    have e2 : sumI (fun i => f (n + 1 - 1 - i)) n = sumI (fun i => f (1 + i)) n := by
      rw [← ih (f := fun i => f (1 + i))]
      refine sumI_congr fun i hi => ?_
      congr 1
      omega
    rw [e1]
    simp only [sumI]
    rw [e2, show n + 1 - 1 - n = 0 by omega]
    omega
theorem sumI_sub {f g : Nat → Int} : ∀ {n : Nat}, sumI (fun i => f i - g i) n = sumI f n - sumI g n := by
  intro n
  induction n with
  | zero => rfl
  | succ n ih => simp only [sumI]; rw [ih]; omega
theorem sumI_adds {f g : Nat → Int} : ∀ {n : Nat}, sumI (fun i => f i + g i) n = sumI f n + sumI g n := by
  intro n
  induction n with
  | zero => rfl
  | succ n ih => simp only [sumI]; rw [ih]; omega
/-- Once around. -/
theorem tele {r : Pts} (h : 2 ≤ r.n) (g : Pt → Int) : sumI (fun i => g (nxt r i) - g (r.p i)) r.n = 0 := by
  rw [sumI_sub (f := fun i => g (nxt r i)) (g := fun i => g (r.p i))]
  have := sum_rot (f := fun i => g (r.p i)) (n := r.n) (k := 1) (by omega)
  have e : sumI (fun i => g (nxt r i)) r.n = sumI (fun i => g (r.p ((i + 1) % r.n))) r.n := rfl
  rw [e, this]
  omega
/-! ### Moved -/
def mvR (t : Pt) (r : Pts) : Pts := ⟨r.n, fun i => mv t (r.p i)⟩
theorem ren_id (n : Nat) : Ren n fun i => i := ⟨fun _ h => h, fun _ _ _ _ h => h, fun j hj => ⟨j, hj, rfl⟩⟩
theorem turn_iso {f : Pt → Pt} (hi : Iso f 1) {a b c : Pt} (ha : onB a = true) (ha' : onB (f a) = true) (hb : onB b = true) (hb' : onB (f b) = true) (hc : onB c = true) (hc' : onB (f c) = true) : turnV (f a) (f b) (f c) = turnV a b c := by
  unfold turnV
  rw [if_pos ⟨ha', hb', hc'⟩, if_pos ⟨ha, hb, hc⟩, hi.ar, Int.one_mul]
theorem tr_mv {t : Pt} {r : Pts} (hr : OnR r) (hr' : ∀ i, i < r.n → onB (mv t (r.p i)) = true) : Tr r (mvR t r) (mv t) fun i => i where
  n := rfl
  ren := ren_id _
  on := hr
  on' := hr'
  side i _ := .inl ⟨rfl, rfl⟩
  na i k _ _ := Iff.rfl
  trn := by
    refine ⟨fun i => i, ren_id _, fun i hi => ?_⟩
    have m1 := Nat.mod_lt (i + 1) (show 0 < r.n by omega)
    have m2 := Nat.mod_lt (i + 2) (show 0 < r.n by omega)
    exact turn_iso (iso_mv t) (hr i hi) (hr' i hi) (hr _ m1) (hr' _ m1) (hr _ m2) (hr' _ m2)
  mem m := by
    rw [mem_lsR]
    constructor
    · rintro ⟨i, hi, rfl⟩; exact ⟨_, mem_lsR.2 ⟨i, hi, rfl⟩, rfl⟩
    · rintro ⟨x, hx, rfl⟩
      obtain ⟨i, hi, rfl⟩ := mem_lsR.1 hx
      exact ⟨i, hi, rfl⟩
theorem mv_tw {t : Pt} {r : Pts} (h : 2 ≤ r.n) : twV (mvR t r) = twV r := by
  unfold twV
  have e : sumI (fun i => tw2 ((mvR t r).p i) (nxt (mvR t r) i)) (mvR t r).n = sumI (fun i => tw2 (r.p i) (nxt r i) + ((fun p => t.1 * p.2 - t.2 * p.1) (nxt r i) - (fun p => t.1 * p.2 - t.2 * p.1) (r.p i))) r.n := by
    refine sumI_congr fun i _ => ?_
    show tw2 (mv t (r.p i)) (mv t (nxt r i)) = _
    unfold tw2 mv
    dsimp only
    grind
  have ht := tele h fun p => t.1 * p.2 - t.2 * p.1
  rw [e, sumI_adds (f := fun i => tw2 (r.p i) (nxt r i))]
  exact (congrArg (sumI (fun i => tw2 (r.p i) (nxt r i)) r.n + ·) ht).trans (Int.add_zero _)
def dbT (t : Pt) : Pt := (2 * t.1, 2 * t.2)
theorem mv_dbl (t a p : Pt) : dbl (mv t a) (mv (dbT t) p) = dbl a p := by
  unfold dbl mv dbT
  exact Prod.ext (by dsimp only; omega) (by dsimp only; omega)
theorem mv_wd (t : Pt) (r : Pts) (p : Pt) : wdV (mvR t r) (mv (dbT t) p) = wdV r p := by
  unfold wdV
  refine sumI_congr fun i _ => ?_
  show wnd (dbl (mv t (r.p i)) (mv (dbT t) p)) (dbl (mv t (nxt r i)) (mv (dbT t) p)) = wnd (dbl (r.p i) p) (dbl (nxt r i) p)
  rw [mv_dbl, mv_dbl]
theorem mv_on (t : Pt) (r : Pts) (p : Pt) : onV (mvR t r) (mv (dbT t) p) = onV r p := by
  unfold onV
  refine orB_congr fun i _ => ?_
  show onE (dbl (mv t (r.p i)) (mv (dbT t) p)) (dbl (mv t (nxt r i)) (mv (dbT t) p)) = onE (dbl (r.p i) p) (dbl (nxt r i) p)
  rw [mv_dbl, mv_dbl]
/-! ### Turned over -/
def swR (r : Pts) : Pts := ⟨r.n, fun i => sw (r.p (r.n - 1 - i))⟩
theorem ren_back {n m : Nat} (h1 : n ≤ m + 1) (h2 : m < 2 * n) : Ren n fun i => (m - i) % n where
  lt i hi := Nat.mod_lt _ (by omega)
  inj i j hi hj h := by
    rw [md (by omega), md (by omega)] at h
    split at h <;> split at h <;> omega
  onto j hj := by
    refine ⟨(m - j) % n, Nat.mod_lt _ (by omega), ?_⟩
    rw [md (x := m - j) (by omega)]
    split
    · rw [md (by omega)]
      split <;> omega
    · rw [md (by omega)]
      split <;> omega
theorem sw_at {r : Pts} {i : Nat} (hi : i < r.n) : (swR r).p i = sw (nxt r ((2 * r.n - 2 - i) % r.n)) := by
  show sw (r.p (r.n - 1 - i)) = sw (r.p (((2 * r.n - 2 - i) % r.n + 1) % r.n))
  congr 2
  rw [Nat.mod_add_mod, md (by omega)]
  split <;> omega
theorem sw_nx {r : Pts} {i : Nat} (hi : i < r.n) : nxt (swR r) i = sw (r.p ((2 * r.n - 2 - i) % r.n)) := by
  show sw (r.p (r.n - 1 - (i + 1) % r.n)) = _
  congr 2
  rw [md (by omega), md (by omega)]
  split <;> split <;> omega
theorem ar_sw3 (a b c : Pt) : ar (sw c) (sw b) (sw a) = ar a b c := by unfold ar crs vec sw; dsimp only; grind
theorem onB_sw (p : Pt) : onB (sw p) = onB p := by
  refine bool_ext ?_
  rw [onB_iff, onB_iff]
  unfold sw
  dsimp only
  omega
theorem tr_sw {r : Pts} (h3 : 3 ≤ r.n) (hr : OnR r) : Tr r (swR r) sw fun i => (2 * r.n - 2 - i) % r.n where
  n := rfl
  ren := ren_back (by omega) (by omega)
  on := hr
  on' i hi := by rw [onB_sw]; exact hr i hi
  side i hi := .inr ⟨sw_at hi, sw_nx hi⟩
  na i k hi hk := by
    unfold NA
    rw [Nat.mod_add_mod, Nat.mod_add_mod, md (x := i + 1) (by omega), md (x := k + 1) (by omega), md (x := 2 * r.n - 2 - i) (by omega), md (x := 2 * r.n - 2 - k) (by omega), md (x := 2 * r.n - 2 - i + 1) (by omega), md (x := 2 * r.n - 2 - k + 1) (by omega)]
    (repeat' split) <;> omega
  trn := by
    refine ⟨fun i => (2 * r.n - 3 - i) % r.n, ren_back (by omega) (by omega), fun i hi => ?_⟩
    have hj := Nat.mod_lt (2 * r.n - 3 - i) (show 0 < r.n by omega)
    have e1 : (swR r).p i = sw (r.p (((2 * r.n - 3 - i) % r.n + 2) % r.n)) := by
      show sw (r.p (r.n - 1 - i)) = _
      congr 2
      rw [Nat.mod_add_mod, md (by omega)]
      split <;> omega
    have e2 : nxt (swR r) i = sw (nxt r ((2 * r.n - 3 - i) % r.n)) := by
      show sw (r.p (r.n - 1 - (i + 1) % r.n)) = sw (r.p (((2 * r.n - 3 - i) % r.n + 1) % r.n))
      congr 2
      rw [Nat.mod_add_mod, md (x := i + 1) (by omega), md (by omega)]
      split <;> split <;> omega
    have e3 : (swR r).p ((i + 2) % (swR r).n) = sw (r.p ((2 * r.n - 3 - i) % r.n)) := by
      show sw (r.p (r.n - 1 - (i + 2) % r.n)) = _
      congr 2
      rw [md (x := i + 2) (by omega), md (by omega)]
      split <;> split <;> omega
    unfold trnI
    rw [e1, e2, e3]
    unfold turnV
    rw [onB_sw, onB_sw, onB_sw, ar_sw3, hr _ (Nat.mod_lt _ (by omega)), nxt_on hr hj, hr _ hj]
  mem m := by
    rw [mem_lsR]
    constructor
    · rintro ⟨i, hi, rfl⟩; exact ⟨r.p (r.n - 1 - i), mem_lsR.2 ⟨r.n - 1 - i, by have : i < r.n := hi; omega, rfl⟩, rfl⟩
    · rintro ⟨x, hx, rfl⟩
      obtain ⟨i, hi, rfl⟩ := mem_lsR.1 hx
      refine ⟨r.n - 1 - i, show r.n - 1 - i < r.n by omega, ?_⟩
      show sw (r.p (r.n - 1 - (r.n - 1 - i))) = _
      congr 2
      omega
theorem sum_back {r : Pts} (h3 : 3 ≤ r.n) (f : Nat → Int) : sumI (fun i => f ((2 * r.n - 2 - i) % r.n)) r.n = sumI f r.n := by
  have e1 := sum_rot (f := f) (n := r.n) (k := r.n - 1) (by omega)
  rw [← e1, ← sum_rev (f := fun i => f ((i + (r.n - 1)) % r.n))]
  refine sumI_congr fun i hi => ?_
  congr 2
  omega
theorem sw_tw {r : Pts} (h3 : 3 ≤ r.n) : twV (swR r) = twV r := by
  unfold twV
  rw [← sum_back h3 (fun i => tw2 (r.p i) (nxt r i))]
  refine sumI_congr fun i hi => ?_
  have hi' : i < r.n := hi
  rw [sw_at hi', sw_nx hi']
  unfold tw2 sw
  dsimp only
  grind
theorem sw_dbl (a p : Pt) : dbl (sw a) (sw p) = sw (dbl a p) := rfl
theorem onE_sw (A B : Pt) : onE (sw B) (sw A) = onE A B := by
  unfold onE
  have e1 : crs (sw B) (sw A) = crs A B := by unfold crs sw; dsimp only; grind
  have e2 : dot (sw B) (sw A) = dot A B := by unfold dot sw; dsimp only; grind
  rw [e1, e2]
/-- Is a point to the right and above? -/
def quad (p : Pt) : Int := if 0 < p.1 ∧ 0 < p.2 then 1 else 0
theorem sg (x y : Int) : (0 < x → 0 < y → 0 < x * y) ∧ (0 < x → y ≤ 0 → x * y ≤ 0) ∧ (x ≤ 0 → 0 < y → x * y ≤ 0) ∧ (x ≤ 0 → y ≤ 0 → 0 ≤ x * y) := by
  refine ⟨Int.mul_pos, fun h1 h2 => ?_, fun h1 h2 => ?_, fun h1 h2 => ?_⟩
  · exact Int.mul_nonpos_of_nonneg_of_nonpos (by omega) h2
  · exact Int.mul_nonpos_of_nonpos_of_nonneg h1 (by omega)
  · exact Int.mul_nonneg_of_nonpos_of_nonpos h1 h2
set_option maxHeartbeats 4000000 in
/-- A side that does not meet the origin: how it crosses the one half axis, and the other one. -/
theorem wnd_sw {A B : Pt} (h : onE A B = false) : wnd A B - wnd (sw B) (sw A) = quad B - quad A := by
  have hc : ¬ (crs A B = 0 ∧ dot A B ≤ 0) := by
    intro hh
    unfold onE at h
    rw [decide_eq_true hh.1, decide_eq_true hh.2] at h
    cases h
  have e1 : crs (sw B) (sw A) = crs A B := by unfold crs sw; dsimp only; grind
  unfold wnd quad
  rw [e1]
  have s1 : (sw B).2 = B.1 := rfl
  have s2 : (sw A).2 = A.1 := rfl
  rw [s1, s2]
  obtain ⟨a, b⟩ := A
  obtain ⟨c, d⟩ := B
  have ec : crs (a, b) (c, d) = a * d - b * c := rfl
  have ed : dot (a, b) (c, d) = a * c + b * d := rfl
  rw [ec, ed] at hc
  rw [ec]
  dsimp only
  have k1 := sg a d
  have k2 := sg b c
  have k3 := sg a c
  have k4 := sg b d
  generalize a * d = P at *
  generalize b * c = Q at *
  generalize a * c = R at *
  generalize b * d = S at *
  have t : ∀ x : Int, (0 < x ∧ ¬ x ≤ 0) ∨ (x ≤ 0 ∧ ¬ 0 < x) := fun x => by omega
  rcases t a with ⟨ha, ha'⟩ | ⟨ha, ha'⟩ <;> rcases t b with ⟨hb, hb'⟩ | ⟨hb, hb'⟩ <;> rcases t c with ⟨hc1, hc'⟩ | ⟨hc1, hc'⟩ <;> rcases t d with ⟨hd, hd'⟩ | ⟨hd, hd'⟩ <;>
    simp only [ha, ha', hb, hb', hc1, hc', hd, hd', true_and, false_and, if_false, if_true, forall_const, false_implies, and_true, and_false] at k1 k2 k3 k4 ⊢
  all_goals clear ha ha' hb hb' hc1 hc' hd hd' t
  all_goals (repeat' split) <;> omega
theorem sw_on {r : Pts} (h3 : 3 ≤ r.n) (p : Pt) : onV (swR r) (sw p) = onV r p := by
  unfold onV
  rw [← orB_ren (f := onI r p) (ren_back (n := r.n) (m := 2 * r.n - 2) (by omega) (by omega))]
  refine orB_congr fun i hi => ?_
  have hi' : i < r.n := hi
  unfold onI
  rw [sw_at hi', sw_nx hi', sw_dbl, sw_dbl, onE_sw]
theorem sw_wd {r : Pts} (h3 : 3 ≤ r.n) {p : Pt} (hp : onV r p = false) : wdV (swR r) (sw p) = wdV r p := by
  unfold wdV
  have e1 : sumI (wdI (swR r) (sw p)) (swR r).n = sumI (fun i => wnd (sw (dbl (nxt r i) p)) (sw (dbl (r.p i) p))) r.n := by
    rw [← sum_back h3 fun i => wnd (sw (dbl (nxt r i) p)) (sw (dbl (r.p i) p))]
    refine sumI_congr fun i hi => ?_
    have hi' : i < r.n := hi
    unfold wdI
    rw [sw_at hi', sw_nx hi', sw_dbl, sw_dbl]
  have ht := tele (show 2 ≤ r.n by omega) fun q => quad (dbl q p)
  have e2 : sumI (fun i => wdI r p i - wnd (sw (dbl (nxt r i) p)) (sw (dbl (r.p i) p))) r.n = 0 := by
    rw [← ht]
    exact sumI_congr fun i hi => wnd_sw (orB_false.1 hp i hi)
  rw [sumI_sub (f := wdI r p)] at e2
  rw [e1]
  omega
end G19
