/- A part of the proof: see the last text. -/
import Derived.Test.YtcckdpimimkejaaG16
open Go Go.Eng Go.Proofs G1 G2 G3 G4 G5 G6 G7 G8 G9 G10 G11 G12 G13 G16
set_option maxRecDepth 100000
namespace G18
/-! ### Rings that are moved, or turned over, plainly -/
def sw (p : Pt) : Pt := (p.2, p.1)
def mv (t p : Pt) : Pt := (p.1 + t.1, p.2 + t.2)
/-- Distances are kept, and areas, but for their sign. -/
structure Iso (f : Pt → Pt) (e : Int) : Prop where
  e1 : e = 1 ∨ e = -1
  ar : ∀ a b c, G1.ar (f a) (f b) (f c) = e * G1.ar a b c
  dt : ∀ p a b, dot (vec (f p) (f a)) (vec (f p) (f b)) = dot (vec p a) (vec p b)
  inj : ∀ p q, f p = f q → p = q
theorem iso_mv (t : Pt) : Iso (mv t) 1 where
  e1 := .inl rfl
  ar a b c := by unfold G1.ar crs vec mv; dsimp only; grind
  dt p a b := by unfold dot vec mv; dsimp only; grind
  inj p q h := by
    unfold mv at h
    simp only [Prod.mk.injEq] at h
    exact Prod.ext (by omega) (by omega)
theorem iso_sw : Iso sw (-1) where
  e1 := .inr rfl
  ar a b c := by unfold G1.ar crs vec sw; dsimp only; grind
  dt p a b := by unfold dot vec sw; dsimp only; grind
  inj p q h := by
    unfold sw at h
    simp only [Prod.mk.injEq] at h
    exact Prod.ext h.2 h.1
theorem ar_swap (a b c : Pt) : ar b a c = -ar a b c := by unfold ar crs vec; dsimp only; grind
theorem ar_rot (a b c : Pt) : ar c b a = -ar a b c := by unfold ar crs vec; dsimp only; grind
theorem dot_comm (u v : Pt) : dot u v = dot v u := by unfold dot; grind
theorem bool_ext {a b : Bool} (h : a = true ↔ b = true) : a = b := Bool.eq_iff_iff.2 h
theorem onS_swap (p a b : Pt) : onS p b a = onS p a b := by
  refine bool_ext ?_
  rw [onS_iff, onS_iff, ar_swap, dot_comm]
  constructor
  · rintro (h | h | ⟨h1, h2⟩)
    · exact .inr (.inl h)
    · exact .inl h
    · exact .inr (.inr ⟨by omega, h2⟩)
  · rintro (h | h | ⟨h1, h2⟩)
    · exact .inr (.inl h)
    · exact .inl h
    · exact .inr (.inr ⟨by omega, h2⟩)
theorem betV_swap (p a b : Pt) : betV p b a = betV p a b := by
  unfold betV
  rw [onS_swap]
  cases onB p <;> cases onB a <;> cases onB b <;> rfl
theorem tch_swap (a b c d : Pt) : tch b a c d = tch a b c d := by
  unfold tch
  rw [betV_swap c a b, betV_swap d a b]
  cases betV a c d <;> cases betV b c d <;> rfl
theorem sgn_neg (n : Int) : sgn (-n) = -sgn n := by
  unfold sgn
  (repeat' split) <;> omega
theorem prt_swap (a b c d : Pt) : prt b a c d = prt a b c d := by
  unfold prt
  rw [ar_swap a b c, ar_swap a b d, sgn_neg, sgn_neg, Int.neg_mul_neg]
theorem prt_swap' (a b c d : Pt) : prt a b d c = prt a b c d := by
  unfold prt
  rw [Int.mul_comm]
theorem crV_swap (a b c d : Pt) : crV b a c d = crV a b c d := by
  unfold crV
  rw [tch_swap, prt_swap, prt_swap' c d a b]
theorem crV_swap2 (a b c d : Pt) : crV b a d c = crV a b c d := by
  rw [crV_swap, crV_symm, crV_swap, crV_symm]
section
variable {f : Pt → Pt} {e : Int} (h : Iso f e)
include h
theorem Iso.sq (p q : Pt) : sqd (f p) (f q) = sqd p q := h.dt p q q
theorem Iso.onS (p a b : Pt) : G2.onS (f p) (f a) (f b) = G2.onS p a b := by
  refine bool_ext ?_
  rw [onS_iff, onS_iff, h.ar, h.dt]
  refine or_congr ⟨h.inj _ _, fun e => by rw [e]⟩ (or_congr ⟨h.inj _ _, fun e => by rw [e]⟩ (and_congr ?_ Iff.rfl))
  rcases h.e1 with rfl | rfl <;> omega
theorem Iso.prt (a b p q : Pt) : G2.prt (f a) (f b) (f p) (f q) = G2.prt a b p q := by
  unfold G2.prt
  rw [h.ar, h.ar]
  rcases h.e1 with rfl | rfl
  · rw [Int.one_mul, Int.one_mul]
  · rw [show -1 * G1.ar a b p = -G1.ar a b p by omega, show -1 * G1.ar a b q = -G1.ar a b q by omega, sgn_neg, sgn_neg, Int.neg_mul_neg]
/-- A point that is on the grid, and stays there. -/
theorem Iso.bet {p a b : Pt} (hp : onB p = true) (hp' : onB (f p) = true) (ha : onB a = true) (ha' : onB (f a) = true) (hb : onB b = true) (hb' : onB (f b) = true) : betV (f p) (f a) (f b) = betV p a b := by
  unfold betV
  rw [hp, hp', ha, ha', hb, hb', h.onS]
theorem Iso.cr {a b c d : Pt} (ha : onB a = true) (ha' : onB (f a) = true) (hb : onB b = true) (hb' : onB (f b) = true) (hc : onB c = true) (hc' : onB (f c) = true) (hd : onB d = true) (hd' : onB (f d) = true) : crV (f a) (f b) (f c) (f d) = crV a b c d := by
  unfold crV tch
  rw [h.prt, h.prt, h.bet ha ha' hc hc' hd hd', h.bet hb hb' hc hc' hd hd', h.bet hc hc' ha ha' hb hb', h.bet hd hd' ha ha' hb hb']
theorem Iso.dist {p q : Pt} (hp : onB p = true) (hp' : onB (f p) = true) (hq : onB q = true) (hq' : onB (f q) = true) : distV (f p) (f q) = distV p q := by
  unfold distV
  rw [if_pos ⟨hp', hq'⟩, if_pos ⟨hp, hq⟩, h.sq]
end
/-! From the other end of a segment -/
theorem far_iff {a b u v : Pt} (hu : onS u a b = true) (hv : onS v a b = true) : sqd a u < sqd a v ↔ sqd b v < sqd b u := by
  by_cases hab : a = b
  · subst hab
    rw [onS_self hu, onS_self hv]
  have hD : 0 < (b.1 - a.1) * (b.1 - a.1) + (b.2 - a.2) * (b.2 - a.2) := nrm_pos fun ⟨e1, e2⟩ => hab (Prod.ext (by omega) (by omega))
  obtain ⟨u1, u2⟩ := onS_line hu
  obtain ⟨v1, v2⟩ := onS_line hv
  have hu' := onS_swap u a b
  have hv' := onS_swap v a b
  obtain ⟨_, u4⟩ := onS_line (hu'.trans hu)
  obtain ⟨_, v4⟩ := onS_line (hv'.trans hv)
  unfold ar crs vec at u1 v1
  unfold dot vec at u2 v2 u4 v4
  unfold sqd dot vec
  dsimp only at u1 v1 u2 v2 u4 v4 ⊢
  generalize hx : b.1 - a.1 = x at *
  generalize hy : b.2 - a.2 = y at *
  generalize hp : u.1 - a.1 = p at *
  generalize hq : u.2 - a.2 = q at *
  generalize hr : v.1 - a.1 = r at *
  generalize hs : v.2 - a.2 = s at *
  have e1 : a.1 - b.1 = -x := by omega
  have e2 : a.2 - b.2 = -y := by omega
  have e3 : u.1 - b.1 = p - x := by omega
  have e4 : u.2 - b.2 = q - y := by omega
  have e5 : v.1 - b.1 = r - x := by omega
  have e6 : v.2 - b.2 = s - y := by omega
  rw [e1, e2, e3, e4] at u4
  rw [e1, e2, e5, e6] at v4
  rw [e3, e4, e5, e6]
  have k1 : (x * x + y * y) * (p * p + q * q) = (x * p + y * q) * (x * p + y * q) := by grind
  have k2 : (x * x + y * y) * (r * r + s * s) = (x * r + y * s) * (x * r + y * s) := by grind
  have k3 : (x * x + y * y) * ((p - x) * (p - x) + (q - y) * (q - y)) = (x * x + y * y - (x * p + y * q)) * (x * x + y * y - (x * p + y * q)) := by grind
  have k4 : (x * x + y * y) * ((r - x) * (r - x) + (s - y) * (s - y)) = (x * x + y * y - (x * r + y * s)) * (x * x + y * y - (x * r + y * s)) := by grind
  have u5 : 0 ≤ x * x + y * y - (x * p + y * q) := by grind
  have v5 : 0 ≤ x * x + y * y - (x * r + y * s) := by grind
  generalize x * x + y * y = D at *
  generalize x * p + y * q = m at *
  generalize x * r + y * s = n at *
  have lt_iff : ∀ {i j : Int}, 0 ≤ i → 0 ≤ j → (i * i < j * j ↔ i < j) := by
    intro i j hi hj
    constructor
    · intro h
      refine Classical.byContradiction fun hn => ?_
      have := Int.mul_le_mul (show j ≤ i by omega) (show j ≤ i by omega) hj hi
      omega
    · intro h
      have := Int.mul_pos (show 0 < j - i by omega) (show 0 < j + i by omega)
      grind
  have mul_iff : ∀ {i j : Int}, D * i < D * j ↔ i < j := by
    intro i j
    constructor
    · intro h; exact Int.lt_of_mul_lt_mul_left h (by omega)
    · intro h; exact Int.mul_lt_mul_of_pos_left h hD
  rw [← mul_iff, k1, k2, ← mul_iff (i := _) (j := (p - x) * (p - x) + (q - y) * (q - y)), k3, k4, lt_iff u2 v2, lt_iff v5 u5]
  omega
theorem addP_comm (s t : Pt) : addP s t = addP t s := by unfold addP; exact Prod.ext (Int.add_comm _ _) (Int.add_comm _ _)
/-- The middles of a side do not depend on its direction. -/
theorem midS_rev {a b : Pt} {L : List Pt} (ha : onB a = true) (hb : onB b = true) (hL : ∀ u ∈ L, onB u = true ∧ onS u a b = true) (m : Pt) : m ∈ midS b L ↔ m ∈ midS a L := by
  have lt : ∀ u v, u ∈ L → v ∈ L → (distV b u < distV b v ↔ distV a v < distV a u) := by
    intro u v hu hv
    unfold distV
    rw [if_pos ⟨hb, (hL u hu).1⟩, if_pos ⟨hb, (hL v hv).1⟩, if_pos ⟨ha, (hL v hv).1⟩, if_pos ⟨ha, (hL u hu).1⟩]
    exact (far_iff (hL v hv).2 (hL u hu).2).symm
  rw [mem_midS, mem_midS]
  constructor
  · rintro ⟨s, t, h1, h2, h3, h4, rfl⟩
    refine ⟨t, s, h2, h1, (lt s t h1 h2).1 h3, fun u hu ⟨k1, k2⟩ => h4 u hu ⟨(lt s u h1 hu).2 k2, (lt u t hu h2).2 k1⟩, addP_comm _ _⟩
  · rintro ⟨s, t, h1, h2, h3, h4, rfl⟩
    refine ⟨t, s, h2, h1, (lt t s h2 h1).2 h3, fun u hu ⟨k1, k2⟩ => h4 u hu ⟨(lt u s hu h1).1 k2, (lt t u h2 hu).1 k1⟩, addP_comm _ _⟩
/-- The middles of the images. -/
theorem midS_map {f g : Pt → Pt} {a : Pt} {L M : List Pt} (hg : ∀ s t, addP (f s) (f t) = g (addP s t)) (hd : ∀ u ∈ L, distV (f a) (f u) = distV a u) (hM : ∀ x, x ∈ M ↔ ∃ u ∈ L, x = f u) (m : Pt) : m ∈ midS (f a) M ↔ ∃ m' ∈ midS a L, m = g m' := by
  rw [mem_midS]
  constructor
  · rintro ⟨s, t, h1, h2, h3, h4, rfl⟩
    obtain ⟨s, hs, rfl⟩ := (hM s).1 h1
    obtain ⟨t, ht, rfl⟩ := (hM t).1 h2
    rw [hd s hs, hd t ht] at h3
    refine ⟨addP s t, mem_midS.2 ⟨s, t, hs, ht, h3, fun u hu k => ?_, rfl⟩, hg s t⟩
    have := h4 (f u) ((hM _).2 ⟨u, hu, rfl⟩)
    rw [hd s hs, hd t ht, hd u hu] at this
    exact this k
  · rintro ⟨m', h, rfl⟩
    obtain ⟨s, t, hs, ht, h3, h4, rfl⟩ := mem_midS.1 h
    refine ⟨f s, f t, (hM _).2 ⟨s, hs, rfl⟩, (hM _).2 ⟨t, ht, rfl⟩, by rw [hd s hs, hd t ht]; exact h3, fun u hu k => ?_, (hg s t).symm⟩
    obtain ⟨w, hw, rfl⟩ := (hM u).1 hu
    rw [hd s hs, hd t ht, hd w hw] at k
    exact h4 w hw k
/-- The ring c is the image of r. -/
structure Tr (r c : Pts) (f : Pt → Pt) (s : Nat → Nat) : Prop where
  n : c.n = r.n
  ren : Ren r.n s
  on : OnR r
  on' : ∀ i, i < r.n → onB (f (r.p i)) = true
  side : ∀ i, i < r.n → (c.p i = f (r.p (s i)) ∧ nxt c i = f (nxt r (s i))) ∨ (c.p i = f (nxt r (s i)) ∧ nxt c i = f (r.p (s i)))
  na : ∀ i k, i < r.n → k < r.n → (NA r.n i k ↔ NA r.n (s i) (s k))
  trn : ∃ t, Ren r.n t ∧ ∀ i, i < r.n → trnI c i = trnI r (t i)
  mem : ∀ m, m ∈ lsR c.p c.n ↔ ∃ x ∈ lsR r.p r.n, m = f x
section
variable {r c q d : Pts} {f g : Pt → Pt} {e : Int} {s t : Nat → Nat} (hi : Iso f e) (h : Tr r c f s) (h' : Tr q d f t) (hg : ∀ s t, addP (f s) (f t) = g (addP s t))
include h in
theorem Tr.onx {i : Nat} (hlt : i < r.n) : onB (f (nxt r i)) = true := h.on' _ (Nat.mod_lt _ (by omega))
include hi h h' in
theorem Tr.cr {i k : Nat} (hi1 : i < r.n) (hk : k < q.n) : crV (c.p i) (nxt c i) (d.p k) (nxt d k) = crV (r.p (s i)) (nxt r (s i)) (q.p (t k)) (nxt q (t k)) := by
  have i1 := h.ren.lt i hi1
  have i2 := h'.ren.lt k hk
  have key := hi.cr (h.on _ i1) (h.on' _ i1) (nxt_on h.on i1) (h.onx i1) (h'.on _ i2) (h'.on' _ i2) (nxt_on h'.on i2) (h'.onx i2)
  rcases h.side i hi1 with ⟨e1, e2⟩ | ⟨e1, e2⟩ <;> rcases h'.side k hk with ⟨e3, e4⟩ | ⟨e3, e4⟩ <;> rw [e1, e2, e3, e4]
  · exact key
  · rw [crV_symm, crV_swap, crV_symm]; exact key
  · rw [crV_swap]; exact key
  · rw [crV_swap2]; exact key
include hi h in
theorem Tr.sim (h3 : 3 ≤ r.n) : simV c = simV r := by
  rw [Bool.eq_iff_iff, sim_iff (by rw [h.n]; exact h3), sim_iff h3, h.n]
  obtain ⟨t, ht, het⟩ := h.trn
  constructor
  · rintro ⟨h1, h2⟩
    refine ⟨fun j hj => ?_, fun j l hj hl hna => ?_⟩
    · obtain ⟨i, hi, rfl⟩ := ht.onto j hj
      rw [← het i hi]
      exact h1 i hi
    · obtain ⟨i, hi1, rfl⟩ := h.ren.onto j hj
      obtain ⟨k, hk, rfl⟩ := h.ren.onto l hl
      have := h2 i k hi1 hk ((h.na i k hi1 hk).2 hna)
      unfold crI2 at this ⊢
      rw [h.cr hi h hi1 hk] at this
      exact this
  · rintro ⟨h1, h2⟩
    refine ⟨fun i hi => ?_, fun i k hi1 hk hna => ?_⟩
    · rw [het i hi]
      exact h1 _ (ht.lt i hi)
    · have := h2 _ _ (h.ren.lt i hi1) (h.ren.lt k hk) ((h.na i k hi1 hk).1 hna)
      unfold crI2 at this ⊢
      rw [h.cr hi h hi1 hk]
      exact this
include hi h h' in
theorem Tr.cross : crossB c d = crossB r q := by
  unfold crossB
  rw [h.n, ← orB_ren (f := crR r q) h.ren]
  refine orB_congr fun i hi1 => ?_
  unfold crR
  rw [h'.n, ← orB_ren (f := crI r q (s i)) h'.ren]
  exact orB_congr fun k hk => by unfold crI; rw [h.cr hi h' hi1 hk]
include h in
theorem Tr.off : orB (offI c) c.n = orB (offI r) r.n := by
  rw [orB_false.2 fun i hi1 => ?_, orB_false.2 fun i hi1 => by unfold offI; rw [h.on i hi1]; rfl]
  rw [h.n] at hi1
  have i1 := h.ren.lt i hi1
  unfold offI
  rcases h.side i hi1 with ⟨e1, _⟩ | ⟨e1, _⟩ <;> rw [e1]
  · rw [h.on' _ i1]; rfl
  · rw [h.onx i1]; rfl
include hi h h' hg in
theorem Tr.mid (m : Pt) : m ∈ midL c d ↔ ∃ m' ∈ midL r q, m = g m' := by
  have side : ∀ i, i < r.n → (m ∈ midI c d i ↔ ∃ m' ∈ midI r q (s i), m = g m') := by
    intro i hi1
    have i1 := h.ren.lt i hi1
    have a1 := h.on _ i1
    have a2 := h.on' _ i1
    have b1 := nxt_on h.on i1
    have b2 := h.onx i1
    have hst := stops_on (s := q) (k := q.n) a1 b1
    have hson : ∀ u ∈ stL r q (s i), onB (f u) = true := by
      intro u hu
      unfold stL G11.stK at hu
      simp only [List.mem_append, List.mem_cons, List.not_mem_nil, or_false, List.mem_filter] at hu
      rcases hu with (rfl | rfl) | ⟨hu, _⟩
      · exact a2
      · exact b2
      · obtain ⟨k, hk, rfl⟩ := mem_lsR.1 hu
        exact h'.on' k hk
    have hmem : ∀ x, x ∈ stL c d i ↔ ∃ u ∈ stL r q (s i), x = f u := by
      intro x
      unfold stL G11.stK
      simp only [List.mem_append, List.mem_cons, List.not_mem_nil, or_false, List.mem_filter]
      have bet : ∀ u, u ∈ lsR q.p q.n → betV (f u) (c.p i) (nxt c i) = betV u (r.p (s i)) (nxt r (s i)) := by
        intro u hu
        obtain ⟨k, hk, rfl⟩ := mem_lsR.1 hu
        rcases h.side i hi1 with ⟨e1, e2⟩ | ⟨e1, e2⟩ <;> rw [e1, e2]
        · exact hi.bet (h'.on k hk) (h'.on' k hk) a1 a2 b1 b2
        · rw [betV_swap]
          exact hi.bet (h'.on k hk) (h'.on' k hk) a1 a2 b1 b2
      constructor
      · rintro ((rfl | rfl) | ⟨hu, hb⟩)
        · rcases h.side i hi1 with ⟨e1, _⟩ | ⟨e1, _⟩
          · exact ⟨_, .inl (.inl rfl), e1⟩
          · exact ⟨_, .inl (.inr rfl), e1⟩
        · rcases h.side i hi1 with ⟨_, e1⟩ | ⟨_, e1⟩
          · exact ⟨_, .inl (.inr rfl), e1⟩
          · exact ⟨_, .inl (.inl rfl), e1⟩
        · obtain ⟨w, hw, rfl⟩ := (h'.mem x).1 hu
          exact ⟨w, .inr ⟨hw, by rw [← bet w hw]; exact hb⟩, rfl⟩
      · rintro ⟨u, (rfl | rfl) | ⟨hu, hb⟩, rfl⟩
        · rcases h.side i hi1 with ⟨e1, _⟩ | ⟨_, e1⟩
          · exact .inl (.inl e1.symm)
          · exact .inl (.inr e1.symm)
        · rcases h.side i hi1 with ⟨_, e1⟩ | ⟨e1, _⟩
          · exact .inl (.inr e1.symm)
          · exact .inl (.inl e1.symm)
        · exact .inr ⟨(h'.mem _).2 ⟨u, hu, rfl⟩, by rw [bet u hu]; exact hb⟩
    unfold midI
    rcases h.side i hi1 with ⟨e1, _⟩ | ⟨e1, _⟩
    · rw [e1]
      exact midS_map hg (fun u hu => hi.dist a1 a2 (hst u hu).1 (hson u hu)) hmem m
    · rw [e1]
      rw [midS_map hg (fun u hu => hi.dist b1 b2 (hst u hu).1 (hson u hu)) hmem m]
      refine exists_congr fun m' => and_congr ?_ Iff.rfl
      exact midS_rev a1 b1 hst m'
  rw [mem_midL, h.n]
  constructor
  · rintro ⟨i, hi1, hm⟩
    obtain ⟨m', h1, h2⟩ := (side i hi1).1 hm
    exact ⟨m', mem_midL.2 ⟨s i, h.ren.lt i hi1, h1⟩, h2⟩
  · rintro ⟨m', hm, rfl⟩
    obtain ⟨j, hj, hm⟩ := mem_midL.1 hm
    obtain ⟨i, hi1, rfl⟩ := h.ren.onto j hj
    exact ⟨i, hi1, (side i hi1).2 ⟨m', hm, rfl⟩⟩
end
end G18
