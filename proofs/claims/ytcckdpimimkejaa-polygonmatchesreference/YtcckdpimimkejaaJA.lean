/- A part of the proof: see the last text. -/
import Derived.Test.YtcckdpimimkejaaG19
import Derived.Test.YtcckdpimimkejaaG16
import Derived.Test.YtcckdpimimkejaaG8
/- Windings, plainly: half planes, cells. -/
section
open Go.Proofs G1 G2 G3 G4
set_option maxRecDepth 100000
namespace J1
def up (X : Pt) : Int := if 0 < X.2 then 1 else 0
def ng (X : Pt) : Pt := (-X.1, -X.2)
def ad (X Y : Pt) : Pt := (X.1 + Y.1, X.2 + Y.2)
def tD (X : Pt) : Int := if X.2 < 0 ∨ (X.2 = 0 ∧ 0 < X.1) then 1 else 0
theorem crs_anti (A B : Pt) : crs B A = -crs A B := by unfold crs; grind
theorem wnd_anti (A B : Pt) : wnd B A = -wnd A B := by
  unfold wnd
  rw [crs_anti A B]
  repeat' split
  all_goals omega
theorem pos_fac {x y : Int} (hx : 0 < x) (h : 0 < x * y) : 0 < y := by
  refine Int.not_le.1 fun hy => ?_
  have := Int.mul_nonneg (Int.le_of_lt hx) (show 0 ≤ -y by omega)
  grind
theorem neg_fac {x y : Int} (hx : x < 0) (h : 0 < x * y) : y < 0 := by
  refine Int.not_le.1 fun hy => ?_
  have := Int.mul_nonneg (show 0 ≤ -x by omega) hy
  grind
/-- In a half plane. -/
theorem wnd_half {n A B : Pt} (hA : 0 < dot n A) (hB : 0 < dot n B) : wnd A B = if 0 < n.1 then up B - up A else 0 := by
  have e : n.1 * crs A B = dot n A * B.2 - dot n B * A.2 := by unfold crs dot; grind
  have k1 : A.2 ≤ 0 → 0 < B.2 → 0 < n.1 * crs A B := fun h h' => by
    have := Int.mul_pos hA h'
    have := Int.mul_nonneg (Int.le_of_lt hB) (show 0 ≤ -A.2 by omega)
    grind
  have k2 : 0 < A.2 → B.2 ≤ 0 → 0 < n.1 * -crs A B := fun h h' => by
    have := Int.mul_pos hB h
    have := Int.mul_nonneg (Int.le_of_lt hA) (show 0 ≤ -B.2 by omega)
    grind
  have z1 : n.1 = 0 → ¬(A.2 ≤ 0 ∧ 0 < B.2) := fun h ⟨h1, h2⟩ => by
    have := k1 h1 h2
    rw [h, Int.zero_mul] at this
    omega
  have z2 : n.1 = 0 → ¬(0 < A.2 ∧ B.2 ≤ 0) := fun h ⟨h1, h2⟩ => by
    have := k2 h1 h2
    rw [h, Int.zero_mul] at this
    omega
  have p1 : 0 < n.1 → A.2 ≤ 0 → 0 < B.2 → 0 < crs A B := fun h h1 h2 => pos_fac h (k1 h1 h2)
  have p2 : 0 < n.1 → 0 < A.2 → B.2 ≤ 0 → 0 < -crs A B := fun h h1 h2 => pos_fac h (k2 h1 h2)
  have m1 : n.1 < 0 → A.2 ≤ 0 → 0 < B.2 → crs A B < 0 := fun h h1 h2 => neg_fac h (k1 h1 h2)
  have m2 : n.1 < 0 → 0 < A.2 → B.2 ≤ 0 → -crs A B < 0 := fun h h1 h2 => neg_fac h (k2 h1 h2)
  unfold wnd up
  repeat' split
  all_goals omega
def Sep (a b c d : Pt) : Prop := ∃ n : Pt, 0 < dot n (vec a c) ∧ 0 < dot n (vec a d) ∧ 0 < dot n (vec b d) ∧ 0 < dot n (vec b c)
theorem cell {a b c d : Pt} (h : Sep a b c d) : wnd (vec a c) (vec a d) - wnd (vec b c) (vec b d) = wnd (vec a c) (vec b c) - wnd (vec a d) (vec b d) := by
  obtain ⟨n, h1, h2, h3, h4⟩ := h
  rw [wnd_half h1 h2, wnd_half h4 h3, wnd_half h1 h4, wnd_half h2 h3]
  split <;> omega
theorem sgn_pos {x : Int} : 0 < sgn x ↔ 0 < x := by unfold sgn; repeat' split
                                                    all_goals omega
theorem sgn_zero {x : Int} : sgn x = 0 ↔ x = 0 := by unfold sgn; repeat' split
                                                     all_goals omega
theorem onS_no {p a b : Pt} : onS p a b = false ↔ p ≠ a ∧ p ≠ b ∧ (ar a b p = 0 → 0 ≤ dot (vec p a) (vec p b)) := by
  unfold onS
  rw [Bool.or_eq_false_iff, Bool.or_eq_false_iff, ← Bool.not_eq_true, ← Bool.not_eq_true, eqP_iff, eqP_iff, ← Bool.not_eq_true, Bool.and_eq_true, decide_eq_true_eq, decide_eq_true_eq, sgn_zero, and_assoc]
  refine and_congr_right fun _ => and_congr_right fun _ => ?_
  exact ⟨fun h e => Int.not_lt.1 fun h' => h ⟨e, h'⟩, fun h ⟨e, h'⟩ => absurd (h e) (Int.not_le.2 h')⟩
def opp (x y : Int) : Prop := (0 < x ∧ y < 0) ∨ (x < 0 ∧ 0 < y)
theorem prt_iff {a b p q : Pt} : prt a b p q = true ↔ opp (ar a b p) (ar a b q) := by
  unfold prt opp
  rw [decide_eq_true_eq]
  unfold sgn
  repeat' split
  all_goals omega
/-- Two sides that do not meet. -/
structure Dis (a b c d : Pt) : Prop where
  ha : onS a c d = false
  hb : onS b c d = false
  hc : onS c a b = false
  hd : onS d a b = false
  hx : ¬(opp (ar a b c) (ar a b d) ∧ opp (ar c d a) (ar c d b))
theorem sq0 (x : Int) : 0 ≤ x * x := by
  rcases Int.le_total 0 x with h | h
  · exact Int.mul_nonneg h h
  · have := Int.mul_nonneg (show 0 ≤ -x by omega) (show 0 ≤ -x by omega)
    grind
theorem sq_pos {p a : Pt} (h : p ≠ a) : 0 < dot (vec p a) (vec p a) := by
  refine Int.not_le.1 fun hn => h ?_
  unfold dot vec at hn
  dsimp only at hn
  have h1 := sq0 (a.1 - p.1)
  have h2 := sq0 (a.2 - p.2)
  have e1 : (a.1 - p.1) * (a.1 - p.1) = 0 := by omega
  have e2 : (a.2 - p.2) * (a.2 - p.2) = 0 := by omega
  have f1 : a.1 - p.1 = 0 := by rcases Int.mul_eq_zero.1 e1 with h | h <;> exact h
  have f2 : a.2 - p.2 = 0 := by rcases Int.mul_eq_zero.1 e2 with h | h <;> exact h
  exact Prod.ext (by omega) (by omega)
def same (x y : Int) : Prop := (0 < x ∧ 0 < y) ∨ (x < 0 ∧ y < 0)
/-- A point on the line of a side whose ends are not on one side of another line through it. -/
theorem on_line {p a b f : Pt} (h0 : ar a b p = 0) (h1 : ¬same (crs f (vec p a)) (crs f (vec p b))) (h2 : ¬(crs f (vec p a) = 0 ∧ crs f (vec p b) = 0)) : onS p a b = true := by
  rw [← Bool.not_eq_false, onS_no]
  rintro ⟨na, nb, h⟩
  have hm := h h0
  have ua := sq_pos na
  have ub := sq_pos nb
  unfold ar at h0
  have e1 : crs f (vec p a) * dot (vec p a) (vec p b) = crs f (vec p b) * dot (vec p a) (vec p a) := by
    unfold crs dot vec at *
    grind
  have e2 : crs f (vec p a) * dot (vec p b) (vec p b) = crs f (vec p b) * dot (vec p a) (vec p b) := by
    unfold crs dot vec at *
    grind
  generalize crs f (vec p a) = g at *
  generalize crs f (vec p b) = d at *
  generalize dot (vec p a) (vec p b) = m at *
  generalize dot (vec p a) (vec p a) = u at *
  generalize dot (vec p b) (vec p b) = w at *
  unfold same at h1
  rcases Int.lt_trichotomy g 0 with hg | hg | hg
  · have := Int.mul_pos (show 0 < -g by omega) ub
    have := Int.mul_nonneg (show 0 ≤ d by omega) hm
    grind
  · rw [hg, Int.zero_mul] at e1
    rcases Int.mul_eq_zero.1 e1.symm with h | h
    · exact h2 ⟨hg, h⟩
    · omega
  · have := Int.mul_pos hg ub
    have := Int.mul_nonneg (show 0 ≤ -d by omega) hm
    grind
theorem strict {p a b : Pt} (h : onS p a b = false) (h0 : ar a b p = 0) : 0 < dot (vec p a) (vec p b) := by
  obtain ⟨na, nb, h1⟩ := onS_no.1 h
  have hm := h1 h0
  have ua := Int.mul_pos (sq_pos na) (sq_pos nb)
  refine Int.lt_iff_le_and_ne.2 ⟨hm, fun e => ?_⟩
  have e2 : dot (vec p a) (vec p a) * dot (vec p b) (vec p b) = dot (vec p a) (vec p b) * dot (vec p a) (vec p b) + ar a b p * ar a b p := by
    unfold ar crs dot vec
    grind
  rw [e2, ← e, h0] at ua
  omega
theorem same_mul {x y : Int} (h : 0 < x * y) : same x y := by
  rcases Int.lt_trichotomy x 0 with k | k | k
  · exact Or.inr ⟨k, neg_fac k h⟩
  · rw [k, Int.zero_mul] at h; omega
  · exact Or.inl ⟨k, pos_fac k h⟩
theorem same_dot {u v e : Pt} (hu : crs u e = 0) (he : 0 < dot e e) (h : 0 < dot u v) : same (dot u e) (dot v e) := by
  refine same_mul ?_
  have k := Int.mul_pos h he
  have e2 : dot u e * dot v e + crs u e * crs v e = dot u v * dot e e := by
    unfold crs dot
    grind
  rw [hu, Int.zero_mul, Int.add_zero] at e2
  rw [e2]
  exact k
theorem dot_ng (n X : Pt) : dot (ng n) X = -dot X n := by unfold dot ng; grind
theorem dot_comm (n X : Pt) : dot n X = dot X n := by unfold dot; grind
theorem sep_of {a b c d : Pt} (hcd : c ≠ d) (h : Dis a b c d) : Sep a b c d := by
  have ha : ar c d a = crs (vec a c) (vec c d) := by unfold ar crs vec; grind
  have hb : ar c d b = crs (vec b c) (vec c d) := by unfold ar crs vec; grind
  have ha2 : ar c d a = crs (vec a d) (vec c d) := by unfold ar crs vec; grind
  have hb2 : ar c d b = crs (vec b d) (vec c d) := by unfold ar crs vec; grind
  have hc : ar a b c = crs (vec a b) (vec a c) := by unfold ar crs vec; grind
  have hc2 : ar a b c = crs (vec a b) (vec b c) := by unfold ar crs vec; grind
  have hd : ar a b d = crs (vec a b) (vec a d) := by unfold ar crs vec; grind
  have hd2 : ar a b d = crs (vec a b) (vec b d) := by unfold ar crs vec; grind
  by_cases s1 : same (ar c d a) (ar c d b)
  · rcases s1 with ⟨p, q⟩ | ⟨p, q⟩
    · refine ⟨((vec c d).2, -(vec c d).1), ?_, ?_, ?_, ?_⟩
      · rw [ha] at p; unfold crs at p; unfold dot; grind
      · rw [ha2] at p; unfold crs at p; unfold dot; grind
      · rw [hb2] at q; unfold crs at q; unfold dot; grind
      · rw [hb] at q; unfold crs at q; unfold dot; grind
    · refine ⟨(-(vec c d).2, (vec c d).1), ?_, ?_, ?_, ?_⟩
      · rw [ha] at p; unfold crs at p; unfold dot; grind
      · rw [ha2] at p; unfold crs at p; unfold dot; grind
      · rw [hb2] at q; unfold crs at q; unfold dot; grind
      · rw [hb] at q; unfold crs at q; unfold dot; grind
  by_cases s2 : same (ar a b c) (ar a b d)
  · rcases s2 with ⟨p, q⟩ | ⟨p, q⟩
    · refine ⟨(-(vec a b).2, (vec a b).1), ?_, ?_, ?_, ?_⟩
      · rw [hc] at p; unfold crs at p; unfold dot; grind
      · rw [hd] at q; unfold crs at q; unfold dot; grind
      · rw [hd2] at q; unfold crs at q; unfold dot; grind
      · rw [hc2] at p; unfold crs at p; unfold dot; grind
    · refine ⟨((vec a b).2, -(vec a b).1), ?_, ?_, ?_, ?_⟩
      · rw [hc] at p; unfold crs at p; unfold dot; grind
      · rw [hd] at q; unfold crs at q; unfold dot; grind
      · rw [hd2] at q; unfold crs at q; unfold dot; grind
      · rw [hc2] at p; unfold crs at p; unfold dot; grind
  by_cases z : (ar c d a = 0 ∧ ar c d b = 0) ∧ (ar a b c = 0 ∧ ar a b d = 0)
  · obtain ⟨⟨za, zb⟩, zc, zd⟩ := z
    have he : 0 < dot (vec c d) (vec c d) := sq_pos hcd
    have k3 := strict h.hc zc
    have k4 : dot (vec c a) (vec c b) = dot (vec a c) (vec b c) := by unfold dot vec; grind
    rw [k4] at k3
    have q1 := same_dot (ha.symm.trans za) he (strict h.ha za)
    have q2 := same_dot (hb.symm.trans zb) he (strict h.hb zb)
    have q3 := same_dot (ha.symm.trans za) he k3
    unfold same at q1 q2 q3
    by_cases p : 0 < dot (vec a c) (vec c d)
    · refine ⟨vec c d, ?_, ?_, ?_, ?_⟩ <;> (rw [dot_comm]; omega)
    · refine ⟨ng (vec c d), ?_, ?_, ?_, ?_⟩ <;> (rw [dot_ng]; omega)
  have lin : ar a b c - ar a b d + ar c d a - ar c d b = 0 := by unfold ar crs vec; grind
  exfalso
  by_cases za : ar c d a = 0
  · by_cases k : ar a b c = 0 ∧ ar a b d = 0
    · exact z ⟨by omega, k⟩
    have := on_line (p := a) (a := c) (b := d) (f := vec a b) za (by rw [← hc, ← hd]; exact s2) (by rw [← hc, ← hd]; exact k)
    rw [h.ha] at this
    cases this
  by_cases zb : ar c d b = 0
  · by_cases k : ar a b c = 0 ∧ ar a b d = 0
    · exact z ⟨by omega, k⟩
    have := on_line (p := b) (a := c) (b := d) (f := vec a b) zb (by rw [← hc2, ← hd2]; exact s2) (by rw [← hc2, ← hd2]; exact k)
    rw [h.hb] at this
    cases this
  have hc3 : ar c d a = crs (vec c d) (vec c a) := by unfold ar crs vec; grind
  have hc4 : ar c d b = crs (vec c d) (vec c b) := by unfold ar crs vec; grind
  have hd3 : ar c d a = crs (vec c d) (vec d a) := by unfold ar crs vec; grind
  have hd4 : ar c d b = crs (vec c d) (vec d b) := by unfold ar crs vec; grind
  by_cases zc : ar a b c = 0
  · have := on_line (p := c) (a := a) (b := b) (f := vec c d) zc (by rw [← hc3, ← hc4]; exact s1) (by rw [← hc3]; exact fun k => za k.1)
    rw [h.hc] at this
    cases this
  by_cases zd : ar a b d = 0
  · have := on_line (p := d) (a := a) (b := b) (f := vec c d) zd (by rw [← hd3, ← hd4]; exact s1) (by rw [← hd3]; exact fun k => za k.1)
    rw [h.hd] at this
    cases this
  unfold same at s1 s2
  refine h.hx ⟨?_, ?_⟩ <;> (unfold opp; omega)
end J1
end
/- Windings of a ring about its points. -/
section
open Go.Proofs G1 G2 G3 G4 G16 G19 J1
set_option maxRecDepth 100000
namespace J2
theorem wnd_zero (X Y : Pt) (h : crs X Y = 0) : wnd X Y = 0 := by
  unfold wnd
  rw [h]
  simp
theorem crs_0r (X p : Pt) : crs X (vec p p) = 0 := by unfold crs vec; grind
theorem crs_0l (X p : Pt) : crs (vec p p) X = 0 := by unfold crs vec; grind
theorem wnd_0r (X p : Pt) : wnd X (vec p p) = 0 := wnd_zero _ _ (crs_0r X p)
theorem wnd_0l (X p : Pt) : wnd (vec p p) X = 0 := wnd_zero _ _ (crs_0l X p)
/-- A corner cut. -/
theorem wnd_cut (U V : Pt) : wnd U (ad U V) + wnd (ad U V) V = wnd U V := by
  have e1 : crs U (ad U V) = crs U V := by unfold crs ad; grind
  have e2 : crs (ad U V) V = crs U V := by unfold crs ad; grind
  have e3 : (ad U V).2 = U.2 + V.2 := rfl
  unfold wnd
  rw [e1, e2, e3]
  repeat' split
  all_goals omega
theorem sign_eq {x y p q : Int} (hp : 0 < p) (hq : 0 < q) (h : p * x = q * y) : (0 < x ↔ 0 < y) ∧ (x < 0 ↔ y < 0) := by
  have k1 : 0 < x → 0 < y := fun hx => pos_fac hq (h ▸ Int.mul_pos hp hx)
  have k2 : 0 < y → 0 < x := fun hy => pos_fac hp (h ▸ Int.mul_pos hq hy)
  have h' : p * -x = q * -y := by rw [Int.mul_neg, Int.mul_neg, h]
  have k3 : 0 < -x → 0 < -y := fun hx => pos_fac hq (h' ▸ Int.mul_pos hp hx)
  have k4 : 0 < -y → 0 < -x := fun hy => pos_fac hp (h' ▸ Int.mul_pos hq hy)
  omega
/-- Off the origin both windings agree but for ends. -/
theorem wnd_two {A B : Pt} (h : crs A B ≠ 0 ∨ 0 < dot A B) : wnd A B - wnd (ng A) (ng B) = tD A - tD B := by
  have e : crs (ng A) (ng B) = crs A B := by unfold crs ng; grind
  have na : (ng A).2 = -A.2 := rfl
  have nb : (ng B).2 = -B.2 := rfl
  by_cases h0 : crs A B = 0
  · rw [wnd_zero _ _ h0, wnd_zero _ _ (e.trans h0)]
    have hd : 0 < dot A B := h.resolve_left fun k => k h0
    have hB : 0 < dot B B := by
      have hn : B ≠ (0, 0) := fun k => by
        rw [k] at hd
        unfold dot at hd
        omega
      have := sq_pos (p := (0, 0)) (a := B) (Ne.symm hn)
      unfold vec at this
      unfold dot at *
      dsimp only at this
      simpa using this
    have s1 := sign_eq (x := A.1) (y := B.1) hB hd (by unfold crs dot at *; grind)
    have s2 := sign_eq (x := A.2) (y := B.2) hB hd (by unfold crs dot at *; grind)
    unfold tD
    repeat' split
    all_goals omega
  · have c : crs A B = A.1 * B.2 - A.2 * B.1 := rfl
    have z1 : A.2 = 0 → crs A B = A.1 * B.2 := fun k => by rw [c, k]; omega
    have z2 : B.2 = 0 → crs A B = -(A.2 * B.1) := fun k => by rw [c, k]; omega
    have y1 : 0 < A.1 * B.2 → same A.1 B.2 := same_mul
    have y2 : 0 < A.1 * -B.2 → same A.1 (-B.2) := same_mul
    have y3 : 0 < A.2 * B.1 → same A.2 B.1 := same_mul
    have y4 : 0 < A.2 * -B.1 → same A.2 (-B.1) := same_mul
    rw [Int.mul_neg] at y2 y4
    unfold same at y1 y2 y3 y4
    unfold wnd tD
    rw [e, na, nb]
    repeat' split
    all_goals omega
def sm (s : Int) (A : Pt) : Pt := (s * A.1, s * A.2)
theorem wnd_sm {s : Int} (hs : 0 < s) (A B : Pt) : wnd A (sm s B) = wnd A B := by
  have e : crs A (sm s B) = s * crs A B := by unfold crs sm; grind
  have k1 := sign_eq (x := crs A (sm s B)) (y := crs A B) (show (0 : Int) < 1 by omega) hs (by rw [e]; omega)
  have k2 := sign_eq (x := (sm s B).2) (y := B.2) (show (0 : Int) < 1 by omega) hs (by unfold sm; dsimp only; omega)
  unfold wnd
  repeat' split
  all_goals omega
theorem wnd_sml {s : Int} (hs : 0 < s) (A B : Pt) : wnd (sm s A) B = wnd A B := by
  rw [wnd_anti B, wnd_sm hs, ← wnd_anti B]
theorem tD_sm {s : Int} (hs : 0 < s) (A : Pt) : tD (sm s A) = tD A := by
  have k1 := sign_eq (x := (sm s A).1) (y := A.1) (show (0 : Int) < 1 by omega) hs (by unfold sm; dsimp only; omega)
  have k2 := sign_eq (x := (sm s A).2) (y := A.2) (show (0 : Int) < 1 by omega) hs (by unfold sm; dsimp only; omega)
  unfold tD
  repeat' split
  all_goals omega
theorem ng_vec (p q : Pt) : ng (vec p q) = vec q p := Prod.ext (by unfold ng vec; dsimp only; omega) (by unfold ng vec; dsimp only; omega)
theorem ad_vec (p q r : Pt) : ad (vec p q) (vec q r) = vec p r := Prod.ext (by unfold ad vec; dsimp only; omega) (by unfold ad vec; dsimp only; omega)
theorem ad_ng (p q r : Pt) : ad (ng (vec p q)) (ng (vec q r)) = vec r p := Prod.ext (by unfold ad ng vec; dsimp only; omega) (by unfold ad ng vec; dsimp only; omega)
/-- A ring that does not meet itself, all its corners turn. -/
structure Sim (V : Nat → Pt) (n : Nat) : Prop where
  three : 3 ≤ n
  per : ∀ i, V (i + n) = V i
  turn : ∀ i, ar (V i) (V (i + 1)) (V (i + 2)) ≠ 0
  dis : ∀ i k, 2 ≤ k → k + 2 ≤ n → Dis (V i) (V (i + 1)) (V (i + k)) (V (i + k + 1))
def wd (V : Nat → Pt) (p : Pt) (k : Nat) : Int := wnd (vec p (V k)) (vec p (V (k + 1)))
def W (V : Nat → Pt) (n : Nat) (p : Pt) : Int := sumI (wd V p) n
def E (V : Nat → Pt) (i : Nat) : Pt := vec (V i) (V (i + 1))
theorem sum_shift {f : Nat → Int} {n : Nat} (h : ∀ i, f (i + n) = f i) : ∀ j, sumI (fun k => f (j + k)) n = sumI f n := by
  intro j
  induction j with
  | zero => exact sumI_congr fun i _ => by rw [Nat.zero_add]
  | succ j ih =>
    rw [← ih]
    have e1 : sumI (fun k => f (j + k)) (1 + n) = sumI (fun k => f (j + k)) 1 + sumI (fun k => f (j + (1 + k))) n := sumI_add
    have e2 : sumI (fun k => f (j + k)) (n + 1) = sumI (fun k => f (j + k)) n + f (j + n) := rfl
    rw [Nat.add_comm 1 n, e2, h j] at e1
    have e3 : sumI (fun k => f (j + k)) 1 = f j := by simp [sumI]
    have e4 : sumI (fun k => f (j + 1 + k)) n = sumI (fun k => f (j + (1 + k))) n := sumI_congr fun i _ => by rw [Nat.add_assoc]
    omega
theorem sum_tele {g : Nat → Int} : ∀ {m : Nat}, sumI (fun l => g l - g (l + 1)) m = g 0 - g m
  | 0 => by simp [sumI]
  | m + 1 => by simp only [sumI]; rw [sum_tele (m := m)]; omega
theorem sum_ends {f : Nat → Int} {m : Nat} : sumI f (m + 3) = f 0 + sumI (fun l => f (1 + l)) m + f (m + 1) + f (m + 2) := by
  have e : sumI f (1 + m) = sumI f 1 + sumI (fun l => f (1 + l)) m := sumI_add
  have e1 : sumI f 1 = f 0 := by simp [sumI]
  have e2 : sumI f (m + 3) = sumI f (m + 1) + f (m + 1) + f (m + 2) := rfl
  rw [Nat.add_comm 1 m] at e
  omega
section
variable {V : Nat → Pt} {n : Nat} (h : Sim V n)
include h
theorem Sim.wd_per (p : Pt) (i : Nat) : wd V p (i + n) = wd V p i := by
  unfold wd
  rw [h.per, show i + n + 1 = i + 1 + n by omega, h.per]
theorem Sim.ne (i : Nat) : V i ≠ V (i + 1) := fun e => h.turn i (by rw [← e]; unfold ar crs vec; grind)
/-- The windings about two points: all sides but those at a side. -/
theorem Sim.split (p : Pt) (i : Nat) : ∃ m, n = m + 3 ∧ W V n p = wd V p (i + 1) + sumI (fun l => wd V p (i + 2 + l)) m + wd V p (i + m + 2) + wd V p i := by
  obtain ⟨m, rfl⟩ : ∃ m, n = m + 3 := ⟨n - 3, by have := h.three; omega⟩
  refine ⟨m, rfl, ?_⟩
  unfold W
  rw [← sum_shift (h.wd_per p) (i + 1), sum_ends]
  have e1 : sumI (fun l => wd V p (i + 1 + (1 + l))) m = sumI (fun l => wd V p (i + 2 + l)) m := sumI_congr fun l _ => by rw [show i + 1 + (1 + l) = i + 2 + l by omega]
  have e2 : wd V p (i + 1 + (m + 2)) = wd V p i := by rw [show i + 1 + (m + 2) = i + (m + 3) by omega, h.wd_per]
  rw [e1, e2, show i + 1 + (m + 1) = i + m + 2 by omega]
theorem Sim.sep (i : Nat) {m : Nat} (hn : n = m + 3) {l : Nat} (hl : l < m) : Sep (V i) (V (i + 1)) (V (i + 2 + l)) (V (i + 2 + (l + 1))) :=
  sep_of (h.ne _) (by have := h.dis i (2 + l) (by omega) (by omega); rwa [← Nat.add_assoc] at this)
/-- From a point of the ring to the next. -/
theorem Sim.step (i : Nat) : W V n (V (i + 1)) - W V n (V (i + 1 + 1)) = wnd (E V (i + 1)) (E V (i + 2)) - wnd (ng (E V i)) (ng (E V (i + 1))) := by
  obtain ⟨m, hn, e1⟩ := h.split (V (i + 1)) (i + 1)
  obtain ⟨m', hn', e2⟩ := h.split (V (i + 2)) (i + 1)
  obtain rfl : m = m' := by omega
  have hz : V (i + 1 + m + 2) = V i := by rw [show i + 1 + m + 2 = i + n by omega, h.per]
  have hz' : V (i + 1 + m + 2 + 1) = V (i + 1) := by rw [show i + 1 + m + 2 + 1 = i + 1 + n by omega, h.per]
  have c : sumI (fun l => wd V (V (i + 1)) (i + 1 + 2 + l)) m - sumI (fun l => wd V (V (i + 2)) (i + 1 + 2 + l)) m = wnd (vec (V (i + 1)) (V (i + 3))) (vec (V (i + 2)) (V (i + 3))) - wnd (vec (V (i + 1)) (V i)) (vec (V (i + 2)) (V i)) := by
    rw [← sumI_sub]
    have k : sumI (fun l => wd V (V (i + 1)) (i + 1 + 2 + l) - wd V (V (i + 2)) (i + 1 + 2 + l)) m = sumI (fun l => (fun j => wnd (vec (V (i + 1)) (V (i + 3 + j))) (vec (V (i + 2)) (V (i + 3 + j)))) l - (fun j => wnd (vec (V (i + 1)) (V (i + 3 + j))) (vec (V (i + 2)) (V (i + 3 + j)))) (l + 1)) m :=
      sumI_congr fun l hl => cell (h.sep (i + 1) hn hl)
    rw [k, sum_tele]
    rw [show i + 3 + m = i + 1 + m + 2 by omega, hz]
  have a1 : wd V (V (i + 1)) (i + 1) = 0 := wnd_0l _ _
  have a2 : wd V (V (i + 2)) (i + 1) = 0 := wnd_0r _ _
  have a3 : wd V (V (i + 1)) (i + 1 + m + 2) = 0 := by unfold wd; rw [hz']; exact wnd_0r _ _
  have a4 : wd V (V (i + 2)) (i + 1 + m + 2) = wnd (vec (V (i + 2)) (V i)) (vec (V (i + 2)) (V (i + 1))) := by unfold wd; rw [hz', hz]
  have a5 : wd V (V (i + 2)) (i + 1 + 1) = 0 := wnd_0l _ _
  have a6 : wd V (V (i + 1)) (i + 1 + 1) = wnd (E V (i + 1)) (vec (V (i + 1)) (V (i + 3))) := rfl
  have b1 := wnd_cut (E V (i + 1)) (E V (i + 2))
  have b2 := wnd_cut (ng (E V i)) (ng (E V (i + 1)))
  have c1 : ad (E V (i + 1)) (E V (i + 2)) = vec (V (i + 1)) (V (i + 3)) := ad_vec _ _ _
  have c2 : ad (ng (E V i)) (ng (E V (i + 1))) = vec (V (i + 2)) (V i) := ad_ng _ _ _
  have c3 : ng (E V i) = vec (V (i + 1)) (V i) := ng_vec _ _
  have c4 : ng (E V (i + 1)) = vec (V (i + 2)) (V (i + 1)) := ng_vec _ _
  rw [c1] at b1
  rw [c2] at b2
  rw [c3, c4] at b2 ⊢
  have d1 : E V (i + 2) = vec (V (i + 2)) (V (i + 3)) := rfl
  rw [d1] at b1 ⊢
  rw [show i + 1 + 1 = i + 2 from rfl] at *
  omega
theorem Sim.turn' (i : Nat) : crs (E V i) (E V (i + 1)) ≠ 0 := fun e => h.turn i (by rw [← e]; unfold ar E crs vec; grind)
/-- What the winding about a point says of the ring. -/
def base (V : Nat → Pt) (n i : Nat) : Int := W V n (V (i + 1)) + wnd (E V i) (E V (i + 1)) - tD (E V i)
theorem Sim.base_next (i : Nat) : base V n (i + 1) = base V n i := by
  have k := h.step i
  have k2 := wnd_two (Or.inl (h.turn' i))
  unfold base
  rw [show i + 1 + 1 = i + 2 from rfl] at *
  omega
theorem Sim.base_all (i : Nat) : base V n i = base V n 0 := by
  induction i with
  | zero => rfl
  | succ i ih => rw [h.base_next, ih]
end
end J2
end
/- Windings about the points inside a side. -/
section
open Go.Proofs G1 G2 G3 G4 G16 G19 J1 J2
set_option maxRecDepth 100000
namespace J3
section
/-- A point inside a side. -/
structure Mid (a b h : Pt) (N s : Int) : Prop where
  s0 : 0 < s
  sN : s < N
  e1 : N * (h.1 - a.1) = s * (b.1 - a.1)
  e2 : N * (h.2 - a.2) = s * (b.2 - a.2)
variable {a b c d e h : Pt} {N s : Int}
theorem Mid.sm (m : Mid a b h N s) : sm N (vec a h) = sm s (vec a b) := Prod.ext m.e1 m.e2
theorem Mid.lin (m : Mid a b h N s) : ar a b h = 0 := by
  have h1 := m.e1
  have h2 := m.e2
  have : N * ar a b h = 0 := by
    unfold ar crs vec
    dsimp only
    grind
  rcases Int.mul_eq_zero.1 this with k | k
  · have := m.s0; have := m.sN; omega
  · exact k
theorem Mid.dot (m : Mid a b h N s) (n c : Pt) : N * dot n (vec h c) = (N - s) * dot n (vec a c) + s * dot n (vec b c) := by
  have h1 := m.e1
  have h2 := m.e2
  unfold G1.dot vec
  dsimp only
  grind
theorem Mid.pos (m : Mid a b h N s) {n c : Pt} (h1 : 0 < G1.dot n (vec a c)) (h2 : 0 < G1.dot n (vec b c)) : 0 < G1.dot n (vec h c) := by
  refine pos_fac (x := N) (by have := m.s0; have := m.sN; omega) ?_
  rw [m.dot]
  have k1 := Int.mul_pos (show 0 < N - s by have := m.sN; omega) h1
  have k2 := Int.mul_pos m.s0 h2
  omega
theorem Mid.sep (m : Mid a b h N s) (k : Sep a b c d) : Sep a h c d := by
  obtain ⟨n, h1, h2, h3, h4⟩ := k
  exact ⟨n, h1, h2, m.pos h2 h3, m.pos h1 h4⟩
theorem Mid.ne_a (m : Mid a b h N s) (hab : a ≠ b) : h ≠ a := fun e => by
  have h1 := m.e1
  have h2 := m.e2
  rw [e, Int.sub_self, Int.mul_zero] at h1 h2
  have := m.s0
  have k1 := Int.mul_eq_zero.1 h1.symm
  have k2 := Int.mul_eq_zero.1 h2.symm
  exact hab (Prod.ext (by omega) (by omega))
theorem Mid.ne_b (m : Mid a b h N s) (hab : a ≠ b) : h ≠ b := fun e => by
  have h1 := m.e1
  have h2 := m.e2
  have f1 : (N - s) * (b.1 - a.1) = 0 := by rw [e] at h1; grind
  have f2 : (N - s) * (b.2 - a.2) = 0 := by rw [e] at h2; grind
  have := m.sN
  have k1 := Int.mul_eq_zero.1 f1
  have k2 := Int.mul_eq_zero.1 f2
  exact hab (Prod.ext (by omega) (by omega))
theorem Mid.ar (m : Mid a b h N s) (c d : Pt) : N * ar c d h = (N - s) * ar c d a + s * ar c d b := by
  have h1 := m.e1
  have h2 := m.e2
  unfold G1.ar crs vec
  dsimp only
  grind
theorem sep_end (m : Mid a b h N s) (ht : ar a b e ≠ 0) : Sep a h b e := by
  have hab : a ≠ b := fun k => ht (by rw [k]; unfold ar crs vec; grind)
  have hbe : b ≠ e := fun k => ht (by rw [k]; unfold ar crs vec; grind)
  have hae : a ≠ e := fun k => ht (by rw [k]; unfold ar crs vec; grind)
  have hbb : ar b e b = 0 := by unfold ar crs vec; grind
  have hba : ar b e a = ar a b e := by unfold ar crs vec; grind
  have hh : N * ar b e h = (N - s) * ar a b e := by rw [m.ar, hbb, hba]; omega
  have hN : N - s ≠ 0 := by have := m.sN; omega
  have h0 : ar b e h ≠ 0 := fun k => by
    rw [k, Int.mul_zero] at hh
    rcases Int.mul_eq_zero.1 hh.symm with k | k
    · exact hN k
    · exact ht k
  have hab' : ar a h b = 0 := by have := m.lin; unfold ar crs vec at *; grind
  have hhe : h ≠ e := fun k => h0 (by rw [k]; unfold ar crs vec; grind)
  have hhe' : N * ar a h e = s * ar a b e := by
    have h1 := m.e1
    have h2 := m.e2
    unfold ar crs vec
    dsimp only
    grind
  have h3 : ar a h e ≠ 0 := fun k => by
    rw [k, Int.mul_zero] at hhe'
    rcases Int.mul_eq_zero.1 hhe'.symm with k | k
    · have := m.s0; omega
    · exact ht k
  refine sep_of hbe ⟨?_, ?_, ?_, ?_, ?_⟩
  · exact onS_no.2 ⟨hab, hae, fun k => absurd (hba ▸ k) ht⟩
  · exact onS_no.2 ⟨m.ne_b hab, hhe, fun k => absurd k h0⟩
  · refine onS_no.2 ⟨hab.symm, (m.ne_b hab).symm, fun _ => ?_⟩
    have k := m.dot (vec a b) b
    have z : dot (vec a b) (vec b b) = 0 := by unfold dot vec; grind
    rw [z] at k
    have k2 := Int.mul_pos (show 0 < N - s by have := m.sN; omega) (sq_pos hab)
    have k3 : 0 < dot (vec a b) (vec h b) := pos_fac (x := N) (by have := m.s0; have := m.sN; omega) (by omega)
    have k4 : dot (vec b a) (vec b h) = dot (vec a b) (vec h b) := by unfold dot vec; grind
    omega
  · exact onS_no.2 ⟨hae.symm, hhe.symm, fun k => absurd k h3⟩
  · rintro ⟨k, _⟩
    unfold opp at k
    omega
end
section
variable {V : Nat → Pt} {n : Nat} (h : Sim V n)
include h
/-- The winding about a point inside a side. -/
theorem mid (i : Nat) {q : Pt} {N s : Int} (m : Mid (V (i + 1)) (V (i + 2)) q N s) : W V n q = base V n i + tD (E V (i + 1)) := by
  obtain ⟨w, hn, e1⟩ := h.split (V (i + 1)) (i + 1)
  obtain ⟨w', hn', e2⟩ := h.split q (i + 1)
  obtain rfl : w = w' := by omega
  have hz : V (i + 1 + w + 2) = V i := by rw [show i + 1 + w + 2 = i + n by omega, h.per]
  have hz' : V (i + 1 + w + 2 + 1) = V (i + 1) := by rw [show i + 1 + w + 2 + 1 = i + 1 + n by omega, h.per]
  have c : sumI (fun l => wd V (V (i + 1)) (i + 1 + 2 + l)) w - sumI (fun l => wd V q (i + 1 + 2 + l)) w = wnd (vec (V (i + 1)) (V (i + 3))) (vec q (V (i + 3))) - wnd (vec (V (i + 1)) (V i)) (vec q (V i)) := by
    rw [← sumI_sub]
    have k : sumI (fun l => wd V (V (i + 1)) (i + 1 + 2 + l) - wd V q (i + 1 + 2 + l)) w = sumI (fun l => (fun j => wnd (vec (V (i + 1)) (V (i + 3 + j))) (vec q (V (i + 3 + j)))) l - (fun j => wnd (vec (V (i + 1)) (V (i + 3 + j))) (vec q (V (i + 3 + j)))) (l + 1)) w :=
      sumI_congr fun l hl => cell (m.sep (h.sep (i + 1) hn hl))
    rw [k, sum_tele]
    rw [show i + 3 + w = i + 1 + w + 2 by omega, hz]
  have hl := m.lin
  have c2 : wd V (V (i + 1)) (i + 1 + 1) - wd V q (i + 1 + 1) = wnd (vec (V (i + 1)) (V (i + 2))) (vec q (V (i + 2))) - wnd (vec (V (i + 1)) (V (i + 3))) (vec q (V (i + 3))) :=
    cell (sep_end m (h.turn (i + 1)))
  have a1 : wd V (V (i + 1)) (i + 1) = 0 := wnd_0l _ _
  have a2 : wd V q (i + 1) = 0 := wnd_zero _ _ (by
    have : ar (V (i + 1)) (V (i + 1 + 1)) q = 0 := hl
    unfold ar crs vec at *
    grind)
  have a3 : wd V (V (i + 1)) (i + 1 + w + 2) = 0 := by unfold wd; rw [hz']; exact wnd_0r _ _
  have a4 : wd V q (i + 1 + w + 2) = wnd (vec q (V i)) (vec q (V (i + 1))) := by unfold wd; rw [hz', hz]
  have a5 : wnd (vec (V (i + 1)) (V (i + 2))) (vec q (V (i + 2))) = 0 := wnd_zero _ _ (by unfold ar crs vec at *; grind)
  have b2 := wnd_cut (vec (V (i + 1)) (V i)) (vec q (V (i + 1)))
  have c3 : ad (vec (V (i + 1)) (V i)) (vec q (V (i + 1))) = vec q (V i) := Prod.ext (by unfold ad vec; dsimp only; omega) (by unfold ad vec; dsimp only; omega)
  rw [c3] at b2
  have hN : 0 < N := by have := m.s0; have := m.sN; omega
  have e3 : sm N (vec q (V (i + 1))) = sm s (ng (E V (i + 1))) := by
    have h1 := m.e1
    have h2 := m.e2
    refine Prod.ext ?_ ?_ <;> (unfold sm ng E vec; dsimp only; grind)
  have e4 : wnd (vec (V (i + 1)) (V i)) (vec q (V (i + 1))) = wnd (ng (E V i)) (ng (E V (i + 1))) := by
    rw [← wnd_sm hN, e3, wnd_sm m.s0]
    exact congrArg (wnd · _) (ng_vec _ _).symm
  have k2 := wnd_two (Or.inl (h.turn' i))
  unfold base
  rw [show i + 1 + 1 = i + 2 from rfl] at *
  omega
end
end J3
end
/- The point reflection of a ring; the base is 0 or -1. -/
section
open Go.Proofs G1 G2 G3 G4 G16 G19 J1 J2 J3
set_option maxRecDepth 100000
namespace J4
def nV (V : Nat → Pt) (i : Nat) : Pt := ng (V i)
theorem vec_ng (p q : Pt) : vec (ng p) (ng q) = ng (vec p q) := Prod.ext (by unfold ng vec; dsimp only; omega) (by unfold ng vec; dsimp only; omega)
theorem ar_ng (a b c : Pt) : ar (ng a) (ng b) (ng c) = ar a b c := by unfold ar crs vec ng; grind
theorem dot_ngng (a b : Pt) : dot (ng a) (ng b) = dot a b := by unfold dot ng; grind
theorem ng_inj {p q : Pt} (h : ng p = ng q) : p = q := by
  have h1 : -p.1 = -q.1 := congrArg Prod.fst h
  have h2 : -p.2 = -q.2 := congrArg Prod.snd h
  exact Prod.ext (by omega) (by omega)
theorem onS_ng {p a b : Pt} (h : onS p a b = false) : onS (ng p) (ng a) (ng b) = false := by
  obtain ⟨h1, h2, h3⟩ := onS_no.1 h
  refine onS_no.2 ⟨fun e => h1 (ng_inj e), fun e => h2 (ng_inj e), fun e => ?_⟩
  rw [ar_ng] at e
  rw [vec_ng, vec_ng, dot_ngng]
  exact h3 e
theorem sim_ng {V : Nat → Pt} {n : Nat} (h : Sim V n) : Sim (nV V) n where
  three := h.three
  per i := congrArg ng (h.per i)
  turn i := by unfold nV; rw [ar_ng]; exact h.turn i
  dis i k h1 h2 := by
    have d := h.dis i k h1 h2
    unfold nV
    refine ⟨onS_ng d.ha, onS_ng d.hb, onS_ng d.hc, onS_ng d.hd, ?_⟩
    rw [ar_ng, ar_ng, ar_ng, ar_ng]
    exact d.hx
theorem E_ng (V : Nat → Pt) (i : Nat) : E (nV V) i = ng (E V i) := vec_ng _ _
/-- The windings with the opposite convention. -/
def Wm (V : Nat → Pt) (n : Nat) (p : Pt) : Int := W (nV V) n (ng p)
def wm (V : Nat → Pt) (p : Pt) (k : Nat) : Int := wnd (ng (vec p (V k))) (ng (vec p (V (k + 1))))
theorem wm_eq (V : Nat → Pt) (p : Pt) (k : Nat) : wd (nV V) (ng p) k = wm V p k := by
  unfold wd wm nV
  rw [vec_ng, vec_ng]
theorem Wm_eq (V : Nat → Pt) (n : Nat) (p : Pt) : Wm V n p = sumI (wm V p) n := sumI_congr fun i _ => wm_eq V p i
def le (p q : Pt) : Prop := p.2 < q.2 ∨ (p.2 = q.2 ∧ q.1 ≤ p.1)
theorem max_le (V : Nat → Pt) : ∀ n, 0 < n → ∃ j, j < n ∧ ∀ i, i < n → le (V i) (V j)
  | 0, h => absurd h (by omega)
  | 1, _ => ⟨0, by omega, fun i hi => by obtain rfl : i = 0 := by omega
                                         exact Or.inr ⟨rfl, Int.le_refl _⟩⟩
  | n + 2, _ => by
    obtain ⟨j, hj, h⟩ := max_le V (n + 1) (by omega)
    by_cases k : le (V (n + 1)) (V j)
    · refine ⟨j, by omega, fun i hi => ?_⟩
      by_cases e : i = n + 1
      · rw [e]; exact k
      · exact h i (by omega)
    · refine ⟨n + 1, by omega, fun i hi => ?_⟩
      by_cases e : i = n + 1
      · rw [e]; exact Or.inr ⟨rfl, Int.le_refl _⟩
      · have := h i (by omega)
        unfold le at *
        omega
theorem sum_zero {f : Nat → Int} : ∀ {n : Nat}, (∀ i, i < n → f i = 0) → sumI f n = 0
  | 0, _ => rfl
  | n + 1, h => by simp only [sumI]; rw [sum_zero fun i hi => h i (by omega), h n (by omega)]; rfl
theorem wnd_low {A B : Pt} (ha : A.2 ≤ 0) (hb : B.2 ≤ 0) : wnd A B = 0 := by
  unfold wnd
  repeat' split
  all_goals omega
theorem wnd_high {A B : Pt} (ha : A.2 ≤ 0) (hb : B.2 ≤ 0) (ha' : A.2 = 0 → 0 ≤ A.1) (hb' : B.2 = 0 → 0 ≤ B.1) : wnd (ng A) (ng B) = 0 := by
  have e : crs (ng A) (ng B) = crs A B := by unfold crs ng; grind
  have na : (ng A).2 = -A.2 := rfl
  have nb : (ng B).2 = -B.2 := rfl
  have c : crs A B = A.1 * B.2 - A.2 * B.1 := rfl
  have z1 : A.2 = 0 → crs A B ≤ 0 := fun k => by
    have := Int.mul_nonneg (ha' k) (show 0 ≤ -B.2 by omega)
    rw [Int.mul_neg] at this
    rw [c, k]
    omega
  have z2 : B.2 = 0 → 0 ≤ crs A B := fun k => by
    have := Int.mul_nonneg (show 0 ≤ -A.2 by omega) (hb' k)
    rw [Int.neg_mul] at this
    rw [c, k]
    omega
  unfold wnd
  rw [e, na, nb]
  repeat' split
  all_goals omega
section
variable {V : Nat → Pt} {n : Nat} (h : Sim V n)
include h
theorem top : ∃ i, ∀ k, le (V k) (V (i + 1)) := by
  have h3 := h.three
  obtain ⟨j, hj, k⟩ := max_le V n (by omega)
  refine ⟨j + n - 1, fun i => ?_⟩
  rw [show j + n - 1 + 1 = j + n by omega, h.per]
  have e : ∀ m i, V (i + n * m) = V i := fun m => by
    induction m with
    | zero => intro i; rfl
    | succ m ih => intro i; rw [Nat.mul_succ, ← Nat.add_assoc, h.per, ih]
  have e2 : V i = V (i % n) := by
    have := e (i / n) (i % n)
    rw [Nat.mod_add_div] at this
    exact this
  rw [e2]
  exact k _ (Nat.mod_lt _ (by omega))
/-- The base: 0 or -1, for the reflection, too; at the highest point both windings are 0. -/
theorem base_is : ∃ r : Int, (r = 0 ∨ r = -1) ∧ (∀ i, base V n i = r) ∧ (∀ i, base (nV V) n i = r) ∧ ∃ i, (∀ k, le (V k) (V (i + 1))) ∧ W V n (V (i + 1)) = 0 ∧ Wm V n (V (i + 1)) = 0 ∧ tD (E V i) = 0 ∧ tD (ng (E V i)) = 1 := by
  obtain ⟨i, hi⟩ := top h
  have w0 : W V n (V (i + 1)) = 0 := sum_zero fun k _ => by
    have h1 := hi k
    have h2 := hi (k + 1)
    unfold le at h1 h2
    exact wnd_low (by unfold vec; dsimp only; omega) (by unfold vec; dsimp only; omega)
  have w1 : Wm V n (V (i + 1)) = 0 := by
    rw [Wm_eq]
    refine sum_zero fun k _ => ?_
    have h1 := hi k
    have h2 := hi (k + 1)
    unfold le at h1 h2
    exact wnd_high (by unfold vec; dsimp only; omega) (by unfold vec; dsimp only; omega) (by unfold vec; dsimp only; omega) (by unfold vec; dsimp only; omega)
  have k1 := hi i
  have k2 := hi (i + 2)
  have n1 := h.ne i
  have n2 := h.ne (i + 1)
  have n1' : ¬((V i).1 = (V (i + 1)).1 ∧ (V i).2 = (V (i + 1)).2) := fun e => n1 (Prod.ext e.1 e.2)
  have n2' : ¬((V (i + 1)).1 = (V (i + 1 + 1)).1 ∧ (V (i + 1)).2 = (V (i + 1 + 1)).2) := fun e => n2 (Prod.ext e.1 e.2)
  rw [show i + 1 + 1 = i + 2 from rfl] at n2'
  unfold le at k1 k2
  have t1 : (E V i).1 = (V (i + 1)).1 - (V i).1 := rfl
  have t2 : (E V i).2 = (V (i + 1)).2 - (V i).2 := rfl
  have u1 : (E V (i + 1)).1 = (V (i + 2)).1 - (V (i + 1)).1 := rfl
  have u2 : (E V (i + 1)).2 = (V (i + 2)).2 - (V (i + 1)).2 := rfl
  have d0 : tD (E V i) = 0 := if_neg (by omega)
  have d1 : tD (ng (E V i)) = 1 := if_pos (by unfold ng; dsimp only; omega)
  have d2 : tD (E V (i + 1)) = 1 := if_pos (by omega)
  have kk := wnd_two (Or.inl (h.turn' i))
  refine ⟨base V n i, ?_, fun j => ?_, fun j => ?_, i, hi, w0, w1, d0, d1⟩
  · unfold base
    rw [w0, d0]
    unfold wnd
    repeat' split
    all_goals omega
  · rw [h.base_all j, h.base_all i]
  · rw [(sim_ng h).base_all j, ← (sim_ng h).base_all i]
    unfold base
    have e : W (nV V) n (nV V (i + 1)) = 0 := w1
    rw [e, E_ng, E_ng, w0, d0, d1]
    omega
end
end J4
end
/- The winding about any point. -/
section
open Go.Proofs G1 G2 G3 G4 G16 G19 J1 J2 J3 J4
set_option maxRecDepth 100000
namespace J5
structure Seg (a b q : Pt) (N s : Int) : Prop where
  N0 : 0 < N
  s0 : 0 ≤ s
  sN : s ≤ N
  e1 : N * (q.1 - a.1) = s * (b.1 - a.1)
  e2 : N * (q.2 - a.2) = s * (b.2 - a.2)
section
variable {a b c d e q : Pt} {N s N' s' : Int}
theorem Seg.dot (m : Seg a b q N s) (n t : Pt) : N * dot n (vec q t) = (N - s) * dot n (vec a t) + s * dot n (vec b t) := by
  have h1 := m.e1
  have h2 := m.e2
  unfold G1.dot vec
  dsimp only
  grind
theorem Seg.pos (m : Seg a b q N s) {n t : Pt} (h1 : 0 < G1.dot n (vec a t)) (h2 : 0 < G1.dot n (vec b t)) : 0 < G1.dot n (vec q t) := by
  refine pos_fac (x := N) m.N0 ?_
  rw [m.dot]
  have k1 := Int.mul_nonneg (show 0 ≤ N - s by have := m.sN; omega) (Int.le_of_lt h1)
  have k2 := Int.mul_nonneg m.s0 (Int.le_of_lt h2)
  by_cases hs : 0 < s
  · have := Int.mul_pos hs h2
    omega
  · have hz : s = 0 := by have := m.s0; omega
    have := Int.mul_pos (show 0 < N - s by have := m.N0; omega) h1
    omega
theorem Seg.ar (m : Seg a b q N s) (c d : Pt) : N * ar c d q = (N - s) * ar c d a + s * ar c d b := by
  have h1 := m.e1
  have h2 := m.e2
  unfold G1.ar crs vec
  dsimp only
  grind
theorem Seg.lin (m : Seg a b q N s) : G1.ar a b q = 0 := by
  have k := m.ar a b
  have z1 : G1.ar a b a = 0 := by unfold G1.ar crs vec; grind
  have z2 : G1.ar a b b = 0 := by unfold G1.ar crs vec; grind
  rw [z1, z2, Int.mul_zero, Int.mul_zero] at k
  rcases Int.mul_eq_zero.1 k with h | h
  · have := m.N0; omega
  · exact h
theorem Seg.first (m : Seg a b q N 0) : q = a := by
  have h1 := m.e1
  have h2 := m.e2
  rw [Int.zero_mul] at h1 h2
  have := m.N0
  have k1 := Int.mul_eq_zero.1 h1
  have k2 := Int.mul_eq_zero.1 h2
  exact Prod.ext (by omega) (by omega)
theorem Seg.last (m : Seg a b q N N) : q = b := by
  have h1 := Int.eq_of_mul_eq_mul_left (by have := m.N0; omega) m.e1
  have h2 := Int.eq_of_mul_eq_mul_left (by have := m.N0; omega) m.e2
  exact Prod.ext (by omega) (by omega)
theorem Seg.mid (m : Seg a b q N s) (h0 : s ≠ 0) (h1 : s ≠ N) : Mid a b q N s := ⟨by have := m.s0; omega, by have := m.sN; omega, m.e1, m.e2⟩
theorem Seg.at (a b : Pt) : Seg a b a 1 0 := ⟨by omega, by omega, by omega, by omega, by omega⟩
theorem no_two (k : Sep a b c d) (m : Seg a b q N s) (m' : Seg c d q N' s') : False := by
  obtain ⟨n, h1, h2, h3, h4⟩ := k
  have p1 := m.pos h1 h4
  have p2 := m.pos h2 h3
  have k := m'.dot n q
  have z : G1.dot n (vec q q) = 0 := by unfold G1.dot vec; grind
  have z1 : G1.dot n (vec c q) = -G1.dot n (vec q c) := by unfold G1.dot vec; grind
  have z2 : G1.dot n (vec d q) = -G1.dot n (vec q d) := by unfold G1.dot vec; grind
  rw [z, z1, z2, Int.mul_zero, Int.mul_neg, Int.mul_neg] at k
  have k1 := Int.mul_nonneg (show 0 ≤ N' - s' by have := m'.sN; omega) (Int.le_of_lt p1)
  have k2 := Int.mul_nonneg m'.s0 (Int.le_of_lt p2)
  by_cases hs : 0 < s'
  · have := Int.mul_pos hs p2
    omega
  · have hz : s' = 0 := by have := m'.s0; omega
    have := Int.mul_pos (show 0 < N' - s' by have := m'.N0; omega) p1
    omega
theorem no_next (ht : G1.ar a b e ≠ 0) (m : Seg a b q N s) (m' : Seg b e q N' s') : s = N ∧ s' = 0 := by
  constructor
  · have k := m.ar b e
    have z1 : G1.ar b e b = 0 := by unfold G1.ar crs vec; grind
    have z2 : G1.ar b e a = G1.ar a b e := by unfold G1.ar crs vec; grind
    rw [m'.lin, z1, z2, Int.mul_zero, Int.mul_zero] at k
    rcases Int.mul_eq_zero.1 (show (N - s) * G1.ar a b e = 0 by omega) with h | h
    · omega
    · exact absurd h ht
  · have k := m'.ar a b
    have z1 : G1.ar a b b = 0 := by unfold G1.ar crs vec; grind
    rw [m.lin, z1, Int.mul_zero, Int.mul_zero] at k
    rcases Int.mul_eq_zero.1 (show s' * G1.ar a b e = 0 by omega) with h | h
    · exact h
    · exact absurd h ht
/-- A side that is met on the way by one to the right. -/
theorem hit {p : Pt} (hp : q = (p.1 + 1, p.2)) (hd : b.2 = a.2 ∨ ∃ m, G1.ar a b q = m * (b.2 - a.2)) (hne : wnd (vec p a) (vec p b) ≠ wnd (vec q a) (vec q b)) :
    (∃ N s, Seg a b q N s) ∧ wnd (vec p a) (vec p b) = 1 - tD (vec a b) - tD (vec a b) ∧ wnd (vec q a) (vec q b) = 0 ∧ (vec a b).2 ≠ 0 := by
  have q1 : q.1 = p.1 + 1 := by rw [hp]
  have q2 : q.2 = p.2 := by rw [hp]
  have c1 : crs (vec q a) (vec q b) = G1.ar a b q := by unfold G1.ar crs vec; grind
  have c2 : crs (vec p a) (vec p b) = G1.ar a b q + (b.2 - a.2) := by unfold G1.ar crs vec; rw [q1, q2]; grind
  have y1 : (vec p a).2 = a.2 - q.2 := by unfold vec; dsimp only; omega
  have y2 : (vec p b).2 = b.2 - q.2 := by unfold vec; dsimp only; omega
  have y3 : (vec q a).2 = a.2 - q.2 := rfl
  have y4 : (vec q b).2 = b.2 - q.2 := rfl
  have y5 : (vec a b).2 = b.2 - a.2 := rfl
  have hdy : b.2 ≠ a.2 := fun e => by
    apply hne
    unfold wnd
    rw [y1, y2, y3, y4]
    repeat' split
    all_goals omega
  obtain ⟨m, hm⟩ := hd.resolve_left hdy
  have g1 : 0 < b.2 - a.2 → G1.ar a b q ≤ 0 → 0 < G1.ar a b q + (b.2 - a.2) → G1.ar a b q = 0 := fun h1 h2 h3 => by
    rw [hm] at h2 h3 ⊢
    have k1 : ¬0 < m := fun k => by have := Int.mul_pos k h1; omega
    have k2 : ¬m ≤ -1 := fun k => by
      have := Int.mul_nonneg (show 0 ≤ -1 - m by omega) (Int.le_of_lt h1)
      grind
    have : m = 0 := by omega
    rw [this, Int.zero_mul]
  have g2 : b.2 - a.2 < 0 → 0 ≤ G1.ar a b q → G1.ar a b q + (b.2 - a.2) < 0 → G1.ar a b q = 0 := fun h1 h2 h3 => by
    rw [hm] at h2 h3 ⊢
    have k1 : ¬0 < m := fun k => by
      have := Int.mul_pos k (show 0 < -(b.2 - a.2) by omega)
      grind
    have k2 : ¬m ≤ -1 := fun k => by
      have := Int.mul_nonneg (show 0 ≤ -1 - m by omega) (show 0 ≤ -(b.2 - a.2) by omega)
      grind
    have : m = 0 := by omega
    rw [this, Int.zero_mul]
  have key : G1.ar a b q = 0 ∧ ((0 < b.2 - a.2 ∧ a.2 ≤ q.2 ∧ q.2 < b.2) ∨ (b.2 - a.2 < 0 ∧ b.2 ≤ q.2 ∧ q.2 < a.2)) := by
    unfold wnd at hne
    rw [c1, c2, y1, y2, y3, y4] at hne
    generalize G1.ar a b q = x at *
    clear hm
    by_cases h1 : 0 < b.2 - a.2
    · by_cases h2 : x ≤ 0
      · by_cases h3 : 0 < x + (b.2 - a.2)
        · refine ⟨g1 h1 h2 h3, Or.inl ⟨h1, ?_⟩⟩
          by_cases h4 : a.2 ≤ q.2 ∧ q.2 < b.2
          · exact h4
          · exfalso
            apply hne
            repeat' split
            all_goals omega
        · exfalso
          apply hne
          repeat' split
          all_goals omega
      · exfalso
        apply hne
        repeat' split
        all_goals omega
    · by_cases h2 : 0 ≤ x
      · by_cases h3 : x + (b.2 - a.2) < 0
        · refine ⟨g2 (by omega) h2 h3, Or.inr ⟨by omega, ?_⟩⟩
          by_cases h4 : b.2 ≤ q.2 ∧ q.2 < a.2
          · exact h4
          · exfalso
            apply hne
            repeat' split
            all_goals omega
        · exfalso
          apply hne
          repeat' split
          all_goals omega
      · exfalso
        apply hne
        repeat' split
        all_goals omega
  obtain ⟨h0, hy⟩ := key
  refine ⟨?_, ?_, ?_, by omega⟩
  · have l : (b.1 - a.1) * (q.2 - a.2) - (b.2 - a.2) * (q.1 - a.1) = 0 := h0
    rcases hy with ⟨h1, h2, h3⟩ | ⟨h1, h2, h3⟩
    · exact ⟨b.2 - a.2, q.2 - a.2, by omega, by omega, by omega, by grind, by grind⟩
    · exact ⟨a.2 - b.2, a.2 - q.2, by omega, by omega, by omega, by grind, by grind⟩
  · unfold wnd tD
    rw [c2, y1, y2, y5, h0]
    repeat' split
    all_goals omega
  · exact wnd_zero _ _ (c1.trans h0)
end
end J5
end
/- One step to the right; scaled rings; the winding about any point. -/
section
open Go.Proofs G1 G2 G3 G4 G16 G19 J1 J2 J3 J4 J5
set_option maxRecDepth 100000
namespace J6
theorem corner {T U : Pt} (h : crs T U ≠ 0) : tD T - wnd T U + (if 0 < U.2 then 1 else 0) - (if T.2 < 0 then 1 else 0) = 0 ∨ tD T - wnd T U + (if 0 < U.2 then 1 else 0) - (if T.2 < 0 then 1 else 0) = 1 := by
  have c : crs T U = T.1 * U.2 - T.2 * U.1 := rfl
  have z1 : T.2 = 0 → crs T U = T.1 * U.2 := fun k => by rw [c, k]; omega
  have z2 : U.2 = 0 → crs T U = -(T.2 * U.1) := fun k => by rw [c, k]; omega
  have y1 : 0 < T.1 * U.2 → same T.1 U.2 := same_mul
  have y2 : 0 < T.1 * -U.2 → same T.1 (-U.2) := same_mul
  rw [Int.mul_neg] at y2
  unfold same at y1 y2
  unfold wnd tD
  repeat' split
  all_goals omega
/-- All sides are met at points of the grid. -/
def Grid (V : Nat → Pt) (q : Pt) : Prop := ∀ k, (V (k + 1)).2 = (V k).2 ∨ ∃ m, ar (V k) (V (k + 1)) q = m * ((V (k + 1)).2 - (V k).2)
section
variable {V : Nat → Pt} {n : Nat} (h : Sim V n) {p q : Pt} (hp : q = (p.1 + 1, p.2)) (hd : Grid V q)
include hp hd
theorem hits (k : Nat) (hne : wd V p k ≠ wd V q k) : (∃ N s, Seg (V k) (V (k + 1)) q N s) ∧ wd V p k = 1 - tD (E V k) - tD (E V k) ∧ wd V q k = 0 ∧ (E V k).2 ≠ 0 := hit hp (hd k) hne
include h
theorem at_vertex (i : Nat) (e : q = V (i + 1)) : W V n p = base V n i ∨ W V n p = base V n i + 1 := by
  obtain ⟨w, hn, e1⟩ := h.split p (i + 1)
  obtain ⟨w', hn', e2⟩ := h.split q (i + 1)
  obtain rfl : w = w' := by omega
  have hz : V (i + 1 + w + 2) = V i := by rw [show i + 1 + w + 2 = i + n by omega, h.per]
  have hz' : V (i + 1 + w + 2 + 1) = V (i + 1) := by rw [show i + 1 + w + 2 + 1 = i + 1 + n by omega, h.per]
  have s0 : Seg (V (i + 1)) (V (i + 2)) q 1 0 := e ▸ Seg.at _ _
  have c1 : wd V p (i + 1 + 1) = wd V q (i + 1 + 1) := by
    refine Decidable.byContradiction fun hne => ?_
    obtain ⟨⟨N, s, m⟩, _⟩ := hits hp hd _ hne
    have := no_next (h.turn (i + 1)) s0 m
    omega
  have c2 : sumI (fun l => wd V p (i + 1 + 2 + l)) w = sumI (fun l => wd V q (i + 1 + 2 + l)) w := sumI_congr fun l hl => by
    refine Decidable.byContradiction fun hne => ?_
    obtain ⟨⟨N, s, m⟩, _⟩ := hits hp hd _ hne
    exact no_two (h.sep (i + 1) hn hl) s0 m
  have q1 : q.1 = p.1 + 1 := by rw [hp]
  have q2 : q.2 = p.2 := by rw [hp]
  have c3 : wd V q (i + 1) = 0 := by unfold wd; rw [e]; exact wnd_0l _ _
  have c4 : wd V q (i + 1 + w + 2) = 0 := by unfold wd; rw [hz', e]; exact wnd_0r _ _
  have f1 : (V (i + 1)).1 = p.1 + 1 := by rw [← e, q1]
  have f2 : (V (i + 1)).2 = p.2 := by rw [← e, q2]
  have u2 : (E V (i + 1)).2 = (V (i + 2)).2 - (V (i + 1)).2 := rfl
  have t2 : (E V i).2 = (V (i + 1)).2 - (V i).2 := rfl
  have c5 : wd V p (i + 1) = if 0 < (E V (i + 1)).2 then 1 else 0 := by
    have x1 : crs (vec p (V (i + 1))) (vec p (V (i + 1 + 1))) = (V (i + 2)).2 - (V (i + 1)).2 := by unfold crs vec; rw [show i + 1 + 1 = i + 2 from rfl]; grind
    unfold wd wnd
    rw [x1, u2]
    have x2 : (vec p (V (i + 1))).2 = 0 := by unfold vec; dsimp only; omega
    have x3 : (vec p (V (i + 1 + 1))).2 = (V (i + 2)).2 - (V (i + 1)).2 := by unfold vec; dsimp only; rw [show i + 1 + 1 = i + 2 from rfl]; omega
    rw [x2, x3]
    repeat' split
    all_goals omega
  have c6 : wd V p (i + 1 + w + 2) = -(if (E V i).2 < 0 then 1 else 0) := by
    have x1 : crs (vec p (V i)) (vec p (V (i + 1))) = (V (i + 1)).2 - (V i).2 := by unfold crs vec; grind
    unfold wd wnd
    rw [hz, hz', x1, t2]
    have x2 : (vec p (V (i + 1))).2 = 0 := by unfold vec; dsimp only; omega
    have x3 : (vec p (V i)).2 = (V i).2 - (V (i + 1)).2 := by unfold vec; dsimp only; omega
    rw [x2, x3]
    repeat' split
    all_goals omega
  have k := corner (h.turn' i)
  have e3 : base V n i = W V n q + wnd (E V i) (E V (i + 1)) - tD (E V i) := by unfold base; rw [e]
  omega
theorem at_mid (i : Nat) {N s : Int} (m : Mid (V (i + 1)) (V (i + 2)) q N s) (hne : wd V p (i + 1) ≠ wd V q (i + 1)) : W V n p = base V n i ∨ W V n p = base V n i + 1 := by
  obtain ⟨w, hn, e1⟩ := h.split p (i + 1)
  obtain ⟨w', hn', e2⟩ := h.split q (i + 1)
  obtain rfl : w = w' := by omega
  have hz : V (i + 1 + w + 2) = V i := by rw [show i + 1 + w + 2 = i + n by omega, h.per]
  have hz' : V (i + 1 + w + 2 + 1) = V (i + 1) := by rw [show i + 1 + w + 2 + 1 = i + 1 + n by omega, h.per]
  have s0 : Seg (V (i + 1)) (V (i + 2)) q N s := ⟨by have := m.s0; have := m.sN; omega, by have := m.s0; omega, by have := m.sN; omega, m.e1, m.e2⟩
  have c1 : wd V p (i + 1 + 1) = wd V q (i + 1 + 1) := by
    refine Decidable.byContradiction fun hne => ?_
    obtain ⟨⟨N', s', m'⟩, _⟩ := hits hp hd _ hne
    have := no_next (h.turn (i + 1)) s0 m'
    have := m.sN
    omega
  have c2 : sumI (fun l => wd V p (i + 1 + 2 + l)) w = sumI (fun l => wd V q (i + 1 + 2 + l)) w := sumI_congr fun l hl => by
    refine Decidable.byContradiction fun hne => ?_
    obtain ⟨⟨N', s', m'⟩, _⟩ := hits hp hd _ hne
    exact no_two (h.sep (i + 1) hn hl) s0 m'
  have c3 : wd V p (i + 1 + w + 2) = wd V q (i + 1 + w + 2) := by
    refine Decidable.byContradiction fun hne => ?_
    obtain ⟨⟨N', s', m'⟩, _⟩ := hits hp hd _ hne
    rw [hz, hz'] at m'
    have := no_next (h.turn i) m' s0
    have := m.s0
    omega
  obtain ⟨_, k1, k2, k3⟩ := hits hp hd _ hne
  have k4 := mid h i m
  have k5 : tD (E V (i + 1)) = 0 ∨ tD (E V (i + 1)) = 1 := by unfold tD; split <;> omega
  omega
theorem step {r : Int} (hr : ∀ i, base V n i = r) : W V n p = W V n q ∨ W V n p = r ∨ W V n p = r + 1 := by
  by_cases all : ∀ k, wd V p k = wd V q k
  · exact Or.inl (sumI_congr fun k _ => all k)
  · refine Or.inr ?_
    obtain ⟨k, hk⟩ := Classical.not_forall.1 all
    have h3 := h.three
    have hk' : wd V p (k + n - 1 + 1) ≠ wd V q (k + n - 1 + 1) := by
      rw [show k + n - 1 + 1 = k + n by omega, h.wd_per, h.wd_per]
      exact hk
    obtain ⟨⟨N, s, m⟩, _⟩ := hits hp hd _ hk'
    rw [← hr (k + n - 1)]
    by_cases z0 : s = 0
    · subst z0
      exact at_vertex h hp hd _ m.first
    · by_cases z1 : s = N
      · subst z1
        have := at_vertex h hp hd _ m.last
        rwa [h.base_next] at this
      · exact at_mid h hp hd _ (m.mid z0 z1) hk'
end
end J6
end
/- Scaled rings; the winding about any point. -/
section
open Go.Proofs G1 G2 G3 G4 G16 G19 J1 J2 J3 J4 J5 J6
set_option maxRecDepth 100000
namespace J7
def sV (M : Int) (V : Nat → Pt) (i : Nat) : Pt := sm M (V i)
theorem vec_sm (M : Int) (p q : Pt) : vec (sm M p) (sm M q) = sm M (vec p q) := Prod.ext (by unfold sm vec; dsimp only; grind) (by unfold sm vec; dsimp only; grind)
theorem ar_sm (M : Int) (a b c : Pt) : ar (sm M a) (sm M b) (sm M c) = M * M * ar a b c := by unfold ar crs vec sm; grind
theorem dot_sm (M : Int) (a b : Pt) : dot (sm M a) (sm M b) = M * M * dot a b := by unfold dot sm; grind
section
variable {M : Int} (hM : 0 < M)
include hM
theorem sm_inj {p q : Pt} (h : sm M p = sm M q) : p = q := by
  have h1 : M * p.1 = M * q.1 := congrArg Prod.fst h
  have h2 : M * p.2 = M * q.2 := congrArg Prod.snd h
  exact Prod.ext (Int.eq_of_mul_eq_mul_left (by omega) h1) (Int.eq_of_mul_eq_mul_left (by omega) h2)
theorem mul_sign (x : Int) : (0 < M * M * x ↔ 0 < x) ∧ (M * M * x < 0 ↔ x < 0) :=
  sign_eq (p := 1) (q := M * M) (by omega) (Int.mul_pos hM hM) (by omega)
theorem onS_sm {p a b : Pt} (h : onS p a b = false) : onS (sm M p) (sm M a) (sm M b) = false := by
  obtain ⟨h1, h2, h3⟩ := onS_no.1 h
  refine onS_no.2 ⟨fun e => h1 (sm_inj hM e), fun e => h2 (sm_inj hM e), fun e => ?_⟩
  rw [ar_sm] at e
  rw [vec_sm, vec_sm, dot_sm]
  have k1 := mul_sign hM (ar a b p)
  have k2 := mul_sign hM (dot (vec p a) (vec p b))
  have := h3 (by omega)
  omega
theorem sim_sm {V : Nat → Pt} {n : Nat} (h : Sim V n) : Sim (sV M V) n where
  three := h.three
  per i := congrArg (sm M) (h.per i)
  turn i := by
    unfold sV
    rw [ar_sm]
    have k1 := mul_sign hM (ar (V i) (V (i + 1)) (V (i + 2)))
    have := h.turn i
    omega
  dis i k h1 h2 := by
    have d := h.dis i k h1 h2
    unfold sV
    refine ⟨onS_sm hM d.ha, onS_sm hM d.hb, onS_sm hM d.hc, onS_sm hM d.hd, ?_⟩
    rw [ar_sm, ar_sm, ar_sm, ar_sm]
    have k1 := mul_sign hM (ar (V i) (V (i + 1)) (V (i + k)))
    have k2 := mul_sign hM (ar (V i) (V (i + 1)) (V (i + k + 1)))
    have k3 := mul_sign hM (ar (V (i + k)) (V (i + k + 1)) (V i))
    have k4 := mul_sign hM (ar (V (i + k)) (V (i + k + 1)) (V (i + 1)))
    have := d.hx
    unfold opp at *
    omega
theorem wnd_ss (A B : Pt) : wnd (sm M A) (sm M B) = wnd A B := by rw [wnd_sm hM, wnd_sml hM]
theorem W_sm (V : Nat → Pt) (n : Nat) (p : Pt) : W (sV M V) n (sm M p) = W V n p := sumI_congr fun k _ => by
  unfold wd sV
  rw [vec_sm, vec_sm, wnd_ss hM]
theorem base_sm (V : Nat → Pt) (n i : Nat) : base (sV M V) n i = base V n i := by
  have e : ∀ j, E (sV M V) j = sm M (E V j) := fun j => vec_sm _ _ _
  unfold base
  rw [e, e, wnd_ss hM, tD_sm hM]
  have := W_sm hM V n (V (i + 1))
  unfold sV at *
  omega
end
/-- A number that the heights of all sides divide. -/
def fac (V : Nat → Pt) (k : Nat) : Int := if (V (k + 1)).2 = (V k).2 then 1 else (V (k + 1)).2 - (V k).2
def prodI (f : Nat → Int) : Nat → Int
  | 0 => 1
  | n + 1 => prodI f n * f n
theorem prod_dvd {f : Nat → Int} : ∀ {n k : Nat}, k < n → f k ∣ prodI f n
  | n + 1, k, h => by
    by_cases e : k = n
    · rw [e]; exact Int.dvd_mul_left _ _
    · exact Int.dvd_trans (prod_dvd (show k < n by omega)) (Int.dvd_mul_right _ _)
theorem prod_ne {f : Nat → Int} : ∀ {n : Nat}, (∀ k, k < n → f k ≠ 0) → prodI f n ≠ 0
  | 0, _ => by unfold prodI; omega
  | n + 1, h => Int.mul_ne_zero (prod_ne fun k hk => h k (by omega)) (h n (by omega))
theorem fac_ne (V : Nat → Pt) (k : Nat) : fac V k ≠ 0 := by unfold fac; split <;> omega
theorem per_mod {V : Nat → Pt} {n : Nat} (h : ∀ i, V (i + n) = V i) (i : Nat) : V i = V (i % n) := by
  have e : ∀ m i, V (i + n * m) = V i := fun m => by
    induction m with
    | zero => intro i; rfl
    | succ m ih => intro i; rw [Nat.mul_succ, ← Nat.add_assoc, h, ih]
  have := e (i / n) (i % n)
  rw [Nat.mod_add_div] at this
  exact this
theorem bound (f : Nat → Int) : ∀ n, ∃ B, ∀ k, k < n → f k < B
  | 0 => ⟨0, fun k h => absurd h (by omega)⟩
  | n + 1 => by
    obtain ⟨B, h⟩ := bound f n
    refine ⟨max B (f n + 1), fun k hk => ?_⟩
    by_cases e : k = n
    · rw [e]; omega
    · have := h k (by omega)
      omega
section
variable {V : Nat → Pt} {n : Nat} (h : Sim V n)
include h
theorem common : ∃ M : Int, 0 < M ∧ ∀ k, (V (k + 1)).2 = (V k).2 ∨ ∃ c, M = c * ((V (k + 1)).2 - (V k).2) := by
  have h3 := h.three
  have p0 := prod_ne (f := fac V) (n := n) fun k _ => fac_ne V k
  refine ⟨prodI (fac V) n * prodI (fac V) n, ?_, fun k => ?_⟩
  · rcases Int.lt_or_gt_of_ne p0 with k | k
    · have := Int.mul_pos (show 0 < -prodI (fac V) n by omega) (show 0 < -prodI (fac V) n by omega)
      rwa [Int.neg_mul_neg] at this
    · exact Int.mul_pos k k
  · by_cases e : (V (k + 1)).2 = (V k).2
    · exact Or.inl e
    · refine Or.inr ?_
      have e1 : fac V (k % n) = (V (k + 1)).2 - (V k).2 := by
        have e2 : V (k % n) = V k := (per_mod h.per k).symm
        have e3 : V (k % n + 1) = V (k + 1) := by rw [per_mod h.per (k + 1), per_mod h.per (k % n + 1), Nat.mod_add_mod]
        unfold fac
        rw [e2, e3, if_neg e]
      obtain ⟨c, hc⟩ := prod_dvd (f := fac V) (Nat.mod_lt k (show 0 < n by omega))
      rw [e1] at hc
      refine ⟨prodI (fac V) n * c, ?_⟩
      rw [Int.mul_assoc]
      rw [Int.mul_comm c, ← hc]
/-- The winding about any point. -/
theorem any {r : Int} (hr : ∀ i, base V n i = r) (p : Pt) : W V n p = 0 ∨ W V n p = r ∨ W V n p = r + 1 := by
  obtain ⟨M, hM, hc⟩ := common h
  have h3 := h.three
  obtain ⟨B, hB⟩ := bound (fun k => (sV M V k).1) n
  have hB' : ∀ k, (sV M V k).1 < B := fun k => by
    have e : sV M V k = sV M V (k % n) := congrArg (sm M) (per_mod h.per k)
    rw [e]
    exact hB _ (Nat.mod_lt _ (by omega))
  have h' := sim_sm hM h
  have hr' : ∀ i, base (sV M V) n i = r := fun i => (base_sm hM V n i).trans (hr i)
  have grid : ∀ x : Int, Grid (sV M V) (x, M * p.2) := fun x k => by
    rcases hc k with e | ⟨c, e⟩
    · exact Or.inl (congrArg (M * ·) e)
    · refine Or.inr ⟨c * ((V (k + 1)).1 - (V k).1) * (p.2 - (V k).2) - (x - M * (V k).1), ?_⟩
      unfold ar crs vec sV sm
      dsimp only
      grind
  have main : ∀ t : Nat, ∀ x : Int, B - x ≤ t → W (sV M V) n (x, M * p.2) = 0 ∨ W (sV M V) n (x, M * p.2) = r ∨ W (sV M V) n (x, M * p.2) = r + 1 := fun t => by
    induction t with
    | zero =>
      intro x hx
      refine Or.inl (sum_zero fun k _ => ?_)
      have k1 := hB' k
      have k2 := hB' (k + 1)
      have e := wnd_half (n := (-1, 0)) (A := vec (x, M * p.2) (sV M V k)) (B := vec (x, M * p.2) (sV M V (k + 1))) (by unfold dot vec; dsimp only; omega) (by unfold dot vec; dsimp only; omega)
      unfold wd
      rw [e]
      exact if_neg (by omega)
    | succ t ih =>
      intro x hx
      have k := J6.step h' (p := (x, M * p.2)) (q := (x + 1, M * p.2)) rfl (grid _) hr'
      have k2 := ih (x + 1) (by omega)
      omega
  have e := W_sm hM V n p
  have k := main (B - M * p.1).toNat (M * p.1) (by omega)
  rw [← e]
  exact k
end
end J7
end
/- The area of a ring is the sum of its windings. -/
section
open Go.Proofs G1 G2 G3 G4 G16 G19 J1 J2 J3 J4 J7
set_option maxRecDepth 100000
namespace J8
def rect (x0 y0 : Int) (w h : Nat) (F : Pt → Int) : Int := sumI (fun j => sumI (fun k => F (x0 + (k : Int), y0 + (j : Int))) w) h
theorem sum_swap {f : Nat → Nat → Int} {w : Nat} : ∀ {h : Nat}, sumI (fun j => sumI (fun k => f j k) w) h = sumI (fun k => sumI (fun j => f j k) h) w
  | 0 => by
    have : sumI (fun _ => (0 : Int)) w = 0 := sum_zero fun _ _ => rfl
    exact this.symm
  | h + 1 => by
    have e : sumI (fun k => sumI (fun j => f j k) (h + 1)) w = sumI (fun k => sumI (fun j => f j k) h + f h k) w := rfl
    rw [e, sumI_adds, ← sum_swap (h := h)]
    rfl
theorem rect_sum {x0 y0 : Int} {w h n : Nat} {F : Nat → Pt → Int} : rect x0 y0 w h (fun p => sumI (fun i => F i p) n) = sumI (fun i => rect x0 y0 w h (F i)) n := by
  unfold rect
  have e : (fun j : Nat => sumI (fun k : Nat => sumI (fun i => F i (x0 + (k : Int), y0 + (j : Int))) n) w) = fun j : Nat => sumI (fun i => sumI (fun k : Nat => F i (x0 + (k : Int), y0 + (j : Int))) w) n :=
    funext fun j => sum_swap
  rw [e, sum_swap]
theorem rect_add {x0 y0 : Int} {w h : Nat} {F G : Pt → Int} : rect x0 y0 w h (fun p => F p + G p) = rect x0 y0 w h F + rect x0 y0 w h G := by
  unfold rect
  rw [← sumI_adds]
  exact sumI_congr fun j _ => sumI_adds
theorem rect_congr {x0 y0 : Int} {w h : Nat} {F G : Pt → Int} (e : ∀ k j : Nat, k < w → j < h → F (x0 + (k : Int), y0 + (j : Int)) = G (x0 + (k : Int), y0 + (j : Int))) : rect x0 y0 w h F = rect x0 y0 w h G :=
  sumI_congr fun j hj => sumI_congr fun k hk => e k j hk hj
theorem sum_neg {f : Nat → Int} : ∀ {n : Nat}, sumI (fun i => -f i) n = -sumI f n
  | 0 => rfl
  | n + 1 => by simp only [sumI]; rw [sum_neg (n := n)]; omega
theorem rect_neg {x0 y0 : Int} {w h : Nat} {F : Pt → Int} : rect x0 y0 w h (fun p => -F p) = -rect x0 y0 w h F := by
  unfold rect
  rw [← sum_neg]
  exact sumI_congr fun j _ => sum_neg
theorem sum_const {c : Int} : ∀ {n : Nat}, sumI (fun _ => c) n = n * c
  | 0 => by simp [sumI]
  | n + 1 => by simp only [sumI]; rw [sum_const (n := n)]; grind
/-- A sum over a part of it. -/
theorem sum_part {f : Nat → Int} {lo h H : Nat} (hl : lo + h ≤ H) (z : ∀ j, j < H → ¬(lo ≤ j ∧ j < lo + h) → f j = 0) : sumI f H = sumI (fun t => f (lo + t)) h := by
  obtain ⟨m, rfl⟩ : ∃ m, H = lo + (h + m) := ⟨H - lo - h, by omega⟩
  rw [sumI_add, sumI_add]
  have e1 : sumI f lo = 0 := sum_zero fun i hi => z i (by omega) (by omega)
  have e2 : sumI (fun i => f (lo + (h + i))) m = 0 := sum_zero fun i hi => z _ (by omega) (by omega)
  rw [e1, e2]
  omega
theorem cnt (x0 c : Int) : ∀ w : Nat, sumI (fun k => if x0 + (k : Int) < c then 1 else 0) w = if c ≤ x0 then 0 else if x0 + (w : Int) ≤ c then (w : Int) else c - x0
  | 0 => by simp only [sumI]; repeat' split
            all_goals omega
  | w + 1 => by
    simp only [sumI]
    rw [cnt x0 c w]
    repeat' split
    all_goals omega
theorem cnt2 (x0 f : Int) : ∀ w : Nat, sumI (fun k => if f < x0 + (k : Int) then -1 else 0) w = if f < x0 then -(w : Int) else if x0 + (w : Int) ≤ f + 1 then 0 else f + 1 - x0 - w
  | 0 => by simp only [sumI]; repeat' split
            all_goals omega
  | w + 1 => by
    simp only [sumI]
    rw [cnt2 x0 f w]
    repeat' split
    all_goals omega
def sW (a b p : Pt) : Int := wnd (vec p a) (vec p b)
def sM (a b p : Pt) : Int := wnd (ng (vec p a)) (ng (vec p b))
theorem sW_up {a b : Pt} {h t : Int} (hh : b.2 = a.2 + h) (h0 : 0 ≤ t) (ht : t < h) (x : Int) : sW a b (x, a.2 + t) = if x < a.1 - (-((b.1 - a.1) * t)) / h then 1 else 0 := by
  have e : crs (vec (x, a.2 + t) a) (vec (x, a.2 + t) b) = (b.1 - a.1) * t - h * (x - a.1) := by unfold crs vec; dsimp only; rw [hh]; grind
  have k : x < a.1 - (-((b.1 - a.1) * t)) / h ↔ 0 < (b.1 - a.1) * t - h * (x - a.1) := by
    have k1 : -((b.1 - a.1) * t) / h < a.1 - x ↔ -((b.1 - a.1) * t) < (a.1 - x) * h := Int.ediv_lt_iff_lt_mul (by omega)
    have k2 : (a.1 - x) * h = -(h * (x - a.1)) := by grind
    omega
  have y1 : (vec (x, a.2 + t) a).2 = -t := by unfold vec; dsimp only; omega
  have y2 : (vec (x, a.2 + t) b).2 = h - t := by unfold vec; dsimp only; omega
  unfold sW wnd
  rw [e, y1, y2]
  repeat' split
  all_goals omega
theorem sM_up {a b : Pt} {h t : Int} (hh : b.2 = a.2 + h) (h0 : 0 ≤ t) (ht : t < h) (x : Int) : sM a b (x, b.2 - t) = if b.1 + (-((b.1 - a.1) * t)) / h < x then -1 else 0 := by
  have e : crs (ng (vec (x, b.2 - t) a)) (ng (vec (x, b.2 - t) b)) = -((b.1 - a.1) * t) - h * (x - b.1) := by unfold crs ng vec; dsimp only; rw [hh]; grind
  have k : b.1 + (-((b.1 - a.1) * t)) / h < x ↔ -((b.1 - a.1) * t) - h * (x - b.1) < 0 := by
    have k1 : -((b.1 - a.1) * t) / h < x - b.1 ↔ -((b.1 - a.1) * t) < (x - b.1) * h := Int.ediv_lt_iff_lt_mul (by omega)
    have k2 : (x - b.1) * h = h * (x - b.1) := Int.mul_comm _ _
    omega
  have y1 : (ng (vec (x, b.2 - t) a)).2 = h - t := by unfold ng vec; dsimp only; omega
  have y2 : (ng (vec (x, b.2 - t) b)).2 = -t := by unfold ng vec; dsimp only; omega
  unfold sM wnd
  rw [e, y1, y2]
  repeat' split
  all_goals omega
theorem sW_out {a b p : Pt} (h : ¬(a.2 ≤ p.2 ∧ p.2 < b.2)) (hab : a.2 ≤ b.2) : sW a b p = 0 := by
  unfold sW wnd vec
  dsimp only
  repeat' split
  all_goals omega
theorem sM_out {a b p : Pt} (h : ¬(a.2 < p.2 ∧ p.2 ≤ b.2)) (hab : a.2 ≤ b.2) : sM a b p = 0 := by
  unfold sM wnd vec ng
  dsimp only
  repeat' split
  all_goals omega
theorem fl_bd {D t h L U : Int} (h0 : 0 ≤ t) (ht : t < h) (l0 : L ≤ 0) (l1 : L ≤ D) (u0 : 0 ≤ U) (u1 : D ≤ U) : L ≤ -((-(D * t)) / h) ∧ -((-(D * t)) / h) ≤ U := by
  have hp : 0 < h := by omega
  have k1 : -(D * t) / h < -L + 1 ↔ -(D * t) < (-L + 1) * h := Int.ediv_lt_iff_lt_mul hp
  have k2 : -(D * t) / h < -U ↔ -(D * t) < -U * h := Int.ediv_lt_iff_lt_mul hp
  have a1 : -(D * t) < (-L + 1) * h := by
    have := Int.mul_nonneg (show 0 ≤ D - L by omega) h0
    have := Int.mul_nonneg (show 0 ≤ -L by omega) (show 0 ≤ h - t by omega)
    grind
  have a2 : ¬-(D * t) < -U * h := by
    have := Int.mul_nonneg (show 0 ≤ U - D by omega) h0
    have := Int.mul_nonneg u0 (show 0 ≤ h - t by omega)
    grind
  omega
/-- What a side gives. -/
theorem side_up {a b : Pt} {x0 y0 : Int} {w H : Nat} (hab : a.2 ≤ b.2) (ax : x0 ≤ a.1 ∧ a.1 < x0 + w) (bx : x0 ≤ b.1 ∧ b.1 < x0 + w) (ay : y0 ≤ a.2 ∧ a.2 < y0 + H) (bY : y0 ≤ b.2 ∧ b.2 < y0 + H) :
    rect x0 y0 w H (sW a b) + rect x0 y0 w H (sM a b) = (b.2 - a.2) * (a.1 + b.1 - x0 - (x0 + w - 1)) := by
  obtain ⟨lo, hlo⟩ : ∃ lo : Nat, a.2 = y0 + lo := ⟨(a.2 - y0).toNat, by omega⟩
  obtain ⟨h, hh⟩ : ∃ h : Nat, b.2 = a.2 + h := ⟨(b.2 - a.2).toNat, by omega⟩
  have e1 : rect x0 y0 w H (sW a b) = sumI (fun t : Nat => a.1 - (-((b.1 - a.1) * (t : Int))) / (h : Int) - x0) h := by
    unfold rect
    rw [sum_part (lo := lo) (h := h) (by omega) (fun j _ hn => sum_zero fun k _ => sW_out (by dsimp only; omega) hab)]
    refine sumI_congr fun t ht => ?_
    have r : sumI (fun k : Nat => sW a b (x0 + (k : Int), y0 + ((lo + t : Nat) : Int))) w = sumI (fun k : Nat => if x0 + (k : Int) < a.1 - (-((b.1 - a.1) * (t : Int))) / (h : Int) then 1 else 0) w := sumI_congr fun k _ => by
      rw [show y0 + ((lo + t : Nat) : Int) = a.2 + t by omega]
      exact sW_up hh (by omega) (by omega) _
    rw [r, cnt]
    have k := fl_bd (D := b.1 - a.1) (t := (t : Int)) (h := (h : Int)) (L := x0 - a.1) (U := x0 + w - 1 - a.1) (by omega) (by omega) (by omega) (by omega) (by omega) (by omega)
    repeat' split
    all_goals omega
  have e2 : rect x0 y0 w H (sM a b) = sumI (fun t : Nat => b.1 + (-((b.1 - a.1) * (t : Int))) / (h : Int) + 1 - x0 - w) h := by
    unfold rect
    rw [sum_part (lo := lo + 1) (h := h) (by omega) (fun j _ hn => sum_zero fun k _ => sM_out (by dsimp only; omega) hab), ← sum_rev]
    refine sumI_congr fun t ht => ?_
    have r : sumI (fun k : Nat => sM a b (x0 + (k : Int), y0 + ((lo + 1 + (h - 1 - t) : Nat) : Int))) w = sumI (fun k : Nat => if b.1 + (-((b.1 - a.1) * (t : Int))) / (h : Int) < x0 + (k : Int) then -1 else 0) w := sumI_congr fun k _ => by
      rw [show y0 + ((lo + 1 + (h - 1 - t) : Nat) : Int) = b.2 - t by omega]
      exact sM_up hh (by omega) (by omega) _
    rw [r, cnt2]
    have k := fl_bd (D := b.1 - a.1) (t := (t : Int)) (h := (h : Int)) (L := b.1 - (x0 + w - 1)) (U := b.1 - x0) (by omega) (by omega) (by omega) (by omega) (by omega) (by omega)
    repeat' split
    all_goals omega
  rw [e1, e2, ← sumI_adds]
  have e3 : sumI (fun t : Nat => a.1 - (-((b.1 - a.1) * (t : Int))) / (h : Int) - x0 + (b.1 + (-((b.1 - a.1) * (t : Int))) / (h : Int) + 1 - x0 - w)) h = sumI (fun _ => a.1 + b.1 - x0 - (x0 + w - 1)) h := sumI_congr fun t _ => by omega
  rw [e3, sum_const, hh]
  grind
theorem side_all {a b : Pt} {x0 y0 : Int} {w H : Nat} (ax : x0 ≤ a.1 ∧ a.1 < x0 + w) (bx : x0 ≤ b.1 ∧ b.1 < x0 + w) (ay : y0 ≤ a.2 ∧ a.2 < y0 + H) (bY : y0 ≤ b.2 ∧ b.2 < y0 + H) :
    rect x0 y0 w H (sW a b) + rect x0 y0 w H (sM a b) = (b.2 - a.2) * (a.1 + b.1 - x0 - (x0 + w - 1)) := by
  rcases Int.le_total a.2 b.2 with h | h
  · exact side_up h ax bx ay bY
  · have k := side_up h bx ax bY ay
    have e1 : rect x0 y0 w H (sW a b) = -rect x0 y0 w H (sW b a) := by
      rw [← rect_neg]
      exact rect_congr fun _ _ _ _ => wnd_anti _ _
    have e2 : rect x0 y0 w H (sM a b) = -rect x0 y0 w H (sM b a) := by
      rw [← rect_neg]
      exact rect_congr fun _ _ _ _ => wnd_anti _ _
    rw [e1, e2]
    grind
end J8
end
/- A valid ring: windings are 0 and 1; its area. -/
section
open Go.Proofs G1 G2 G3 G4 G5 G6 G7 G16 G19 J1 J2 J3 J4 J7 J8
set_option maxRecDepth 100000
namespace J9
def pV (r : Pts) (i : Nat) : Pt := r.p (i % r.n)
theorem pV_lt {r : Pts} {i : Nat} (h : i < r.n) : pV r i = r.p i := by unfold pV; rw [Nat.mod_eq_of_lt h]
theorem pV_nxt (r : Pts) (i : Nat) : pV r (i + 1) = nxt r (i % r.n) := by unfold pV nxt; rw [Nat.mod_add_mod]
theorem bet_no {p a b : Pt} (hp : onB p = true) (ha : onB a = true) (hb : onB b = true) (h : betV p a b = false) : onS p a b = false := by
  unfold betV at h
  rw [hp, ha, hb] at h
  exact h
theorem dis_cr {a b c d : Pt} (ha : onB a = true) (hb : onB b = true) (hc : onB c = true) (hd : onB d = true) (h : crV a b c d ≤ 0) : Dis a b c d := by
  unfold crV at h
  by_cases t : tch a b c d = true
  · rw [if_pos t] at h; omega
  rw [if_neg t] at h
  have t' : tch a b c d = false := by cases k : tch a b c d <;> first | rfl | exact absurd k t
  unfold tch at t'
  rw [Bool.or_eq_false_iff, Bool.or_eq_false_iff, Bool.or_eq_false_iff] at t'
  refine ⟨bet_no ha hc hd t'.1.1.1, bet_no hb hc hd t'.1.1.2, bet_no hc ha hb t'.1.2, bet_no hd ha hb t'.2, fun ⟨k1, k2⟩ => ?_⟩
  rw [if_pos (by rw [Bool.and_eq_true]; exact ⟨prt_iff.2 k1, prt_iff.2 k2⟩)] at h
  omega
theorem sim_val {r : Pts} (h : valV r = true) : Sim (pV r) r.n := by
  obtain ⟨⟨_, ho⟩, ⟨h3, _⟩, _, hs⟩ := val_ok h
  obtain ⟨k1, k2⟩ := (sim_iff h3).1 hs
  have lt : ∀ i, i % r.n < r.n := fun i => Nat.mod_lt _ (by omega)
  have hon : ∀ i, onB (pV r i) = true := fun i => ho _ (lt i)
  refine ⟨h3, fun i => by unfold pV; rw [Nat.add_mod_right], fun i e => ?_, fun i k h1 h2 => ?_⟩
  · refine k1 _ (lt i) ?_
    unfold trnI
    have e1 : r.p ((i % r.n + 2) % r.n) = pV r (i + 2) := by unfold pV; rw [Nat.mod_add_mod]
    rw [← pV_nxt, e1]
    unfold turnV
    rw [if_pos ⟨hon i, hon (i + 1), hon (i + 2)⟩]
    exact sgn_zero.2 e
  · have na : NA r.n (i % r.n) ((i + k) % r.n) := by
      have e0 := Nat.mod_add_div i r.n
      have lt' := lt i
      have em : (i + k) % r.n = if i % r.n + k < r.n then i % r.n + k else i % r.n + k - r.n := by
        rw [← Nat.mod_add_mod]
        split
        · exact Nat.mod_eq_of_lt (by omega)
        · rw [Nat.mod_eq_sub_mod (by omega)]
          exact Nat.mod_eq_of_lt (by omega)
      have es : ∀ j, j < r.n → (j + 1) % r.n = if j + 1 = r.n then 0 else j + 1 := fun j hj => by
        split
        · rename_i e; rw [e, Nat.mod_self]
        · exact Nat.mod_eq_of_lt (by omega)
      unfold NA
      rw [es _ lt', es _ (lt (i + k)), em]
      refine ⟨?_, ?_, ?_⟩ <;> (repeat' split) <;> omega
    have c := k2 _ _ (lt i) (lt (i + k)) na
    unfold crI2 at c
    rw [← pV_nxt, ← pV_nxt] at c
    exact dis_cr (hon i) (hon (i + 1)) (hon (i + k)) (hon (i + k + 1)) c
theorem tw_val (r : Pts) : twV r = sumI (fun k => tw2 (pV r k) (pV r (k + 1))) r.n := sumI_congr fun k hk => by
  rw [pV_nxt, pV_lt hk, Nat.mod_eq_of_lt hk]
section
variable {V : Nat → Pt} {n : Nat}
/-- The area is the sum of the windings. -/
theorem area (hper : ∀ i, V (i + n) = V i) {x0 y0 : Int} {w H : Nat} (hb : ∀ k, (x0 ≤ (V k).1 ∧ (V k).1 < x0 + w) ∧ (y0 ≤ (V k).2 ∧ (V k).2 < y0 + H)) :
    rect x0 y0 w H (W V n) + rect x0 y0 w H (Wm V n) = sumI (fun k => tw2 (V k) (V (k + 1))) n := by
  have e1 : rect x0 y0 w H (W V n) = sumI (fun k => rect x0 y0 w H (sW (V k) (V (k + 1)))) n := rect_sum (F := fun k => sW (V k) (V (k + 1)))
  have e2 : rect x0 y0 w H (Wm V n) = sumI (fun k => rect x0 y0 w H (sM (V k) (V (k + 1)))) n := by
    have : Wm V n = fun p => sumI (fun k => sM (V k) (V (k + 1)) p) n := funext fun p => Wm_eq V n p
    rw [this]
    exact rect_sum (F := fun k => sM (V k) (V (k + 1)))
  rw [e1, e2, ← sumI_adds]
  have e3 : sumI (fun k => rect x0 y0 w H (sW (V k) (V (k + 1))) + rect x0 y0 w H (sM (V k) (V (k + 1)))) n = sumI (fun k => tw2 (V k) (V (k + 1)) + ((fun j => (x0 + (x0 + w - 1)) * (V j).2 - (V j).1 * (V j).2) k - (fun j => (x0 + (x0 + w - 1)) * (V j).2 - (V j).1 * (V j).2) (k + 1))) n :=
    sumI_congr fun k _ => by
      rw [side_all (hb k).1 (hb (k + 1)).1 (hb k).2 (hb (k + 1)).2]
      unfold tw2
      grind
  rw [e3, sumI_adds, sum_tele]
  have z : V n = V 0 := by have := hper 0; rwa [Nat.zero_add] at this
  rw [z]
  omega
theorem sum_le {f : Nat → Int} {c : Int} : ∀ {m : Nat}, (∀ i, i < m → f i ≤ c) → sumI f m ≤ m * c
  | 0, _ => by simp [sumI]
  | m + 1, h => by
    have k1 := sum_le (m := m) fun i hi => h i (by omega)
    have k2 := h m (by omega)
    simp only [sumI]
    grind
theorem rect_le {x0 y0 c : Int} {w H : Nat} {F : Pt → Int} (h : ∀ p, F p ≤ c) : rect x0 y0 w H F ≤ H * (w * c) :=
  sum_le fun _ _ => sum_le fun _ _ => h _
/-- Where it is positive, the windings are 0 and 1. -/
theorem base_zero (h : Sim V n) (hA : 0 < sumI (fun k => tw2 (V k) (V (k + 1))) n) : (∀ i, base V n i = 0) ∧ (∀ i, base (nV V) n i = 0) := by
  obtain ⟨r, hr, h1, h2, _⟩ := base_is h
  rcases hr with rfl | rfl
  · exact ⟨h1, h2⟩
  exfalso
  have h3 := h.three
  have B : ∀ f : Nat → Int, (∀ i, f (i + n) = f i) → ∃ B : Nat, ∀ k, -(B : Int) ≤ f k ∧ f k < B := fun f hf => by
    obtain ⟨B1, k1⟩ := bound f n
    obtain ⟨B2, k2⟩ := bound (fun k => -f k) n
    refine ⟨(max B1 B2).toNat, fun k => ?_⟩
    have e : f k = f (k % n) := per_mod (V := fun k => (f k, 0)) (fun i => Prod.ext (hf i) rfl) k |> congrArg Prod.fst
    have lt := Nat.mod_lt k (show 0 < n by omega)
    have := k1 _ lt
    have := k2 _ lt
    omega
  obtain ⟨B1, k1⟩ := B (fun k => (V k).1) fun i => congrArg Prod.fst (h.per i)
  obtain ⟨B2, k2⟩ := B (fun k => (V k).2) fun i => congrArg Prod.snd (h.per i)
  have e := area h.per (x0 := -(B1 : Int)) (y0 := -(B2 : Int)) (w := 2 * B1) (H := 2 * B2) fun k => ⟨⟨(k1 k).1, by have := (k1 k).2; omega⟩, (k2 k).1, by have := (k2 k).2; omega⟩
  have w1 : ∀ p, W V n p ≤ 0 := fun p => by have := any h h1 p; omega
  have w2 : ∀ p, Wm V n p ≤ 0 := fun p => by
    have : W (nV V) n (ng p) = 0 ∨ W (nV V) n (ng p) = -1 ∨ W (nV V) n (ng p) = -1 + 1 := any (sim_ng h) h2 (ng p)
    unfold Wm
    omega
  have l1 := rect_le (x0 := -(B1 : Int)) (y0 := -(B2 : Int)) (w := 2 * B1) (H := 2 * B2) w1
  have l2 := rect_le (x0 := -(B1 : Int)) (y0 := -(B2 : Int)) (w := 2 * B1) (H := 2 * B2) w2
  rw [Int.mul_zero, Int.mul_zero] at l1 l2
  omega
end
theorem base_val {r : Pts} (h : valV r = true) : (∀ i, base (pV r) r.n i = 0) ∧ (∀ i, base (nV (pV r)) r.n i = 0) :=
  base_zero (sim_val h) (by rw [← tw_val]; exact (val_ok h).2.2.1)
theorem W_01 {r : Pts} (h : valV r = true) (p : Pt) : W (pV r) r.n p = 0 ∨ W (pV r) r.n p = 1 := by
  have := any (sim_val h) (base_val h).1 p
  omega
theorem Wm_01 {r : Pts} (h : valV r = true) (p : Pt) : Wm (pV r) r.n p = 0 ∨ Wm (pV r) r.n p = 1 := by
  have : W (nV (pV r)) r.n (ng p) = 0 ∨ W (nV (pV r)) r.n (ng p) = 0 ∨ W (nV (pV r)) r.n (ng p) = 0 + 1 := any (sim_ng (sim_val h)) (base_val h).2 (ng p)
  unfold Wm
  omega
end J9
end
/- Boxes. -/
section
open Go.Proofs G1 G2 G3 G4 G5 G6 G7 G8 G16 G19 J1 J2 J3 J4 J7 J8 J9
set_option maxRecDepth 100000
namespace J10
theorem loI_le {r : Pts} {i : Nat} : ∀ {m : Nat}, i < m → (loI r m).1 ≤ (r.p i).1 ∧ (loI r m).2 ≤ (r.p i).2
  | m + 1, h => by
    have e1 : (loI r (m + 1)).1 = min (loI r m).1 (r.p m).1 := rfl
    have e2 : (loI r (m + 1)).2 = min (loI r m).2 (r.p m).2 := rfl
    by_cases e : i = m
    · subst e; omega
    · have := loI_le (r := r) (show i < m by omega)
      omega
theorem hiI_le {r : Pts} {i : Nat} : ∀ {m : Nat}, i < m → (r.p i).1 ≤ (hiI r m).1 ∧ (r.p i).2 ≤ (hiI r m).2
  | m + 1, h => by
    have e1 : (hiI r (m + 1)).1 = max (hiI r m).1 (r.p m).1 := rfl
    have e2 : (hiI r (m + 1)).2 = max (hiI r m).2 (r.p m).2 := rfl
    by_cases e : i = m
    · subst e; omega
    · have := hiI_le (r := r) (show i < m by omega)
      omega
theorem off_half {n A B : Pt} (hA : 0 < dot n A) (hB : 0 < dot n B) : onE A B = false := by
  unfold onE
  rw [Bool.and_eq_false_iff, decide_eq_false_iff_not, decide_eq_false_iff_not]
  by_cases h0 : crs A B = 0
  · refine Or.inr fun hd => ?_
    have e : dot n A * dot A B = dot n B * dot A A := by unfold crs dot at *; grind
    have hz : A ≠ (0, 0) := fun k => by rw [k] at hA; unfold dot at hA; omega
    have := sq_pos (p := (0, 0)) (a := A) (Ne.symm hz)
    have hv : vec (0, 0) A = A := Prod.ext (by unfold vec; dsimp only; omega) (by unfold vec; dsimp only; omega)
    rw [hv] at this
    have k1 := Int.mul_pos hB this
    have k2 := Int.mul_nonneg (Int.le_of_lt hA) (show 0 ≤ -dot A B by omega)
    grind
  · exact Or.inl h0
section
variable {V : Nat → Pt} {n : Nat} {lo hi : Pt}
theorem W_out (hper : ∀ i, V (i + n) = V i) (hb : ∀ k, (lo.1 ≤ (V k).1 ∧ (V k).1 ≤ hi.1) ∧ (lo.2 ≤ (V k).2 ∧ (V k).2 ≤ hi.2)) {p : Pt} (h : ¬((lo.1 ≤ p.1 ∧ p.1 < hi.1) ∧ (lo.2 ≤ p.2 ∧ p.2 < hi.2))) : W V n p = 0 := by
  have z : V n = V 0 := by have := hper 0; rwa [Nat.zero_add] at this
  by_cases h1 : p.2 < lo.2
  · refine sum_zero fun k _ => ?_
    have := hb k
    have := hb (k + 1)
    unfold wd wnd vec
    dsimp only
    repeat' split
    all_goals omega
  by_cases h2 : hi.2 ≤ p.2
  · refine sum_zero fun k _ => ?_
    have := hb k
    have := hb (k + 1)
    exact wnd_low (by unfold vec; dsimp only; omega) (by unfold vec; dsimp only; omega)
  by_cases h3 : p.1 < lo.1
  · have e : W V n p = sumI (fun k => (fun j => -up (vec p (V j))) k - (fun j => -up (vec p (V j))) (k + 1)) n := sumI_congr fun k _ => by
      have := hb k
      have := hb (k + 1)
      unfold wd
      rw [wnd_half (n := (1, 0)) (by unfold dot vec; dsimp only; omega) (by unfold dot vec; dsimp only; omega), if_pos (show (0 : Int) < (1, 0).1 by decide)]
      dsimp only
      omega
    rw [e, sum_tele, z]
    omega
  · refine sum_zero fun k _ => ?_
    have k1 := hb k
    have k2 := hb (k + 1)
    have a1 : (vec p (V k)).1 ≤ 0 := by unfold vec; dsimp only; omega
    have b1 : (vec p (V (k + 1))).1 ≤ 0 := by unfold vec; dsimp only; omega
    unfold wd
    generalize vec p (V k) = A at *
    generalize vec p (V (k + 1)) = B at *
    have c : crs A B = A.1 * B.2 - A.2 * B.1 := rfl
    have q1 : A.2 ≤ 0 → 0 < B.2 → crs A B ≤ 0 := fun x y => by
      have := Int.mul_nonneg (show 0 ≤ -A.1 by omega) (show 0 ≤ B.2 by omega)
      have := Int.mul_nonneg (show 0 ≤ -A.2 by omega) (show 0 ≤ -B.1 by omega)
      grind
    have q2 : 0 < A.2 → B.2 ≤ 0 → 0 ≤ crs A B := fun x y => by
      have := Int.mul_nonneg (show 0 ≤ -A.1 by omega) (show 0 ≤ -B.2 by omega)
      have := Int.mul_nonneg (show 0 ≤ A.2 by omega) (show 0 ≤ -B.1 by omega)
      grind
    unfold wnd
    repeat' split
    all_goals omega
theorem Wm_out (hper : ∀ i, V (i + n) = V i) (hb : ∀ k, (lo.1 ≤ (V k).1 ∧ (V k).1 ≤ hi.1) ∧ (lo.2 ≤ (V k).2 ∧ (V k).2 ≤ hi.2)) {p : Pt} (h : ¬((lo.1 < p.1 ∧ p.1 ≤ hi.1) ∧ (lo.2 < p.2 ∧ p.2 ≤ hi.2))) : Wm V n p = 0 := by
  refine W_out (lo := ng hi) (hi := ng lo) (fun i => congrArg ng (hper i)) (fun k => ?_) ?_
  · have := hb k
    unfold nV ng
    dsimp only
    omega
  · unfold ng
    dsimp only
    omega
theorem sum_cut {f : Nat → Int} {m : Nat} (h : f m = 0) : sumI f (m + 1) = sumI f m := by simp only [sumI]; omega
theorem sum_cut0 {f : Nat → Int} {m : Nat} (h : f 0 = 0) : sumI f (m + 1) = sumI (fun i => f (1 + i)) m := by
  rw [Nat.add_comm, sumI_add]
  have : sumI f 1 = f 0 := by simp [sumI]
  omega
/-- At most the area of the box. -/
theorem area_le (hper : ∀ i, V (i + n) = V i) (hw : ∀ p, W V n p ≤ 1) (hm : ∀ p, Wm V n p ≤ 1) (hb : ∀ k, (lo.1 ≤ (V k).1 ∧ (V k).1 ≤ hi.1) ∧ (lo.2 ≤ (V k).2 ∧ (V k).2 ≤ hi.2)) : sumI (fun k => tw2 (V k) (V (k + 1))) n ≤ 2 * (hi.1 - lo.1) * (hi.2 - lo.2) := by
  have h0 := hb 0
  obtain ⟨w, hw'⟩ : ∃ w : Nat, hi.1 = lo.1 + w := ⟨(hi.1 - lo.1).toNat, by omega⟩
  obtain ⟨H, hH⟩ : ∃ H : Nat, hi.2 = lo.2 + H := ⟨(hi.2 - lo.2).toNat, by omega⟩
  have e := area hper (x0 := lo.1) (y0 := lo.2) (w := w + 1) (H := H + 1) fun k => by have := hb k; omega
  have e1 : rect lo.1 lo.2 (w + 1) (H + 1) (W V n) ≤ H * (w * 1) := by
    unfold rect
    rw [sum_cut (f := fun j : Nat => sumI (fun k : Nat => W V n (lo.1 + (k : Int), lo.2 + (j : Int))) (w + 1)) (sum_zero fun k _ => W_out hper hb (by dsimp only; omega))]
    refine sum_le fun j _ => ?_
    rw [sum_cut (f := fun k : Nat => W V n (lo.1 + (k : Int), lo.2 + (j : Int))) (W_out hper hb (by dsimp only; omega))]
    exact sum_le fun k _ => hw _
  have e2 : rect lo.1 lo.2 (w + 1) (H + 1) (Wm V n) ≤ H * (w * 1) := by
    unfold rect
    rw [sum_cut0 (f := fun j : Nat => sumI (fun k : Nat => Wm V n (lo.1 + (k : Int), lo.2 + (j : Int))) (w + 1)) (sum_zero fun k _ => Wm_out hper hb (by dsimp only; omega))]
    refine sum_le fun j _ => ?_
    rw [sum_cut0 (f := fun k : Nat => Wm V n (lo.1 + (k : Int), lo.2 + ((1 + j : Nat) : Int))) (Wm_out hper hb (by dsimp only; omega))]
    exact sum_le fun k _ => hm _
  have e3 : 2 * (hi.1 - lo.1) * (hi.2 - lo.2) = 2 * (H * (w * 1)) := by rw [hw', hH]; grind
  omega
end
theorem box_in {r : Pts} (h : 0 < r.n) (k : Nat) : ((loI r r.n).1 ≤ (pV r k).1 ∧ (pV r k).1 ≤ (hiI r r.n).1) ∧ ((loI r r.n).2 ≤ (pV r k).2 ∧ (pV r k).2 ≤ (hiI r r.n).2) := by
  have lt : k % r.n < r.n := Nat.mod_lt _ h
  have := loI_le (r := r) lt
  have := hiI_le (r := r) lt
  unfold pV
  omega
theorem dbl_vec (a p : Pt) : dbl a (dbP p) = sm 2 (vec p a) := Prod.ext (by unfold dbl dbP sm vec; dsimp only; omega) (by unfold dbl dbP sm vec; dsimp only; omega)
theorem wdV_W {r : Pts} (p : Pt) : wdV r (dbP p) = W (pV r) r.n p := sumI_congr fun k hk => by
  unfold wdI wd
  rw [dbl_vec, dbl_vec, wnd_ss (by omega), pV_nxt, pV_lt hk, Nat.mod_eq_of_lt hk]
theorem onI_on {r : Pts} {p : Pt} {i : Nat} (h : onS p (r.p i) (nxt r i) = true) : onI r (dbP p) i = true := by
  have k := h
  unfold onI
  rw [dbl_vec, dbl_vec]
  unfold onE
  have e1 : crs (sm 2 (vec p (r.p i))) (sm 2 (vec p (nxt r i))) = 4 * ar (r.p i) (nxt r i) p := by unfold ar crs sm vec; grind
  have e2 : dot (sm 2 (vec p (r.p i))) (sm 2 (vec p (nxt r i))) = 4 * dot (vec p (r.p i)) (vec p (nxt r i)) := by unfold dot sm vec; grind
  rw [e1, e2, Bool.and_eq_true, decide_eq_true_eq, decide_eq_true_eq]
  unfold onS at k
  rw [Bool.or_eq_true, Bool.or_eq_true, eqP_iff, eqP_iff, Bool.and_eq_true, decide_eq_true_eq, decide_eq_true_eq, sgn_zero] at k
  rcases k with (e | e) | ⟨e, e'⟩
  · rw [e]
    have x : ar (r.p i) (nxt r i) (r.p i) = 0 := by unfold ar crs vec; grind
    have y : dot (vec (r.p i) (r.p i)) (vec (r.p i) (nxt r i)) = 0 := by unfold dot vec; grind
    omega
  · rw [e]
    have x : ar (r.p i) (nxt r i) (nxt r i) = 0 := by unfold ar crs vec; grind
    have y : dot (vec (nxt r i) (r.p i)) (vec (nxt r i) (nxt r i)) = 0 := by unfold dot vec; grind
    omega
  · omega
/-- A point on a side. -/
theorem whe_on {r : Pts} {p : Pt} (hv : valV r = true) (hp : onB p = true) {i : Nat} (hi : i < r.n) (h : onS p (r.p i) (nxt r i) = true) : wheV r p = 0 := by
  have k : onV r (dbP p) = true := orB_true.2 ⟨i, hi, onI_on h⟩
  unfold wheV outV insV
  rw [hv, hp, k, Bool.not_true, Bool.and_false, Bool.and_false]
  rfl
/-- A point that is not in the box. -/
theorem whe_box {r : Pts} {p : Pt} (hv : valV r = true) (h : ((p.1 < (loI r r.n).1 ∨ (hiI r r.n).1 < p.1) ∨ p.2 < (loI r r.n).2) ∨ (hiI r r.n).2 < p.2) : wheV r p = -1 := by
  have h3 := (val_ok hv).2.1.1
  have hb := box_in (r := r) (by omega)
  have k1 : wdV r (dbP p) = 0 := by
    rw [wdV_W]
    exact W_out (sim_val hv).per hb (by omega)
  have k2 : onV r (dbP p) = false := by
    refine orB_false.2 fun i hi => ?_
    have b1 := hb i
    have b2 := hb (i + 1)
    rw [pV_lt hi] at b1
    rw [pV_nxt, Nat.mod_eq_of_lt hi] at b2
    unfold onI
    rw [dbl_vec, dbl_vec]
    rcases h with ((h | h) | h) | h
    · exact off_half (n := (1, 0)) (by unfold dot sm vec; dsimp only; omega) (by unfold dot sm vec; dsimp only; omega)
    · exact off_half (n := (-1, 0)) (by unfold dot sm vec; dsimp only; omega) (by unfold dot sm vec; dsimp only; omega)
    · exact off_half (n := (0, 1)) (by unfold dot sm vec; dsimp only; omega) (by unfold dot sm vec; dsimp only; omega)
    · exact off_half (n := (0, -1)) (by unfold dot sm vec; dsimp only; omega) (by unfold dot sm vec; dsimp only; omega)
  unfold wheV outV
  rw [k1, k2]
  split <;> rfl
theorem tw_le {r : Pts} (hv : valV r = true) : 1 ≤ twV r ∧ twV r ≤ 2 * ((hiI r r.n).1 - (loI r r.n).1) * ((hiI r r.n).2 - (loI r r.n).2) := by
  have h3 := (val_ok hv).2.1.1
  have h0 := (val_ok hv).2.2.1
  refine ⟨by omega, ?_⟩
  rw [tw_val]
  exact area_le (sim_val hv).per (fun p => by have := W_01 hv p; omega) (fun p => by have := Wm_01 hv p; omega) (box_in (by omega))
end J10
end
