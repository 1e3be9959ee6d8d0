/- The engine, part 11e: a step of a region that draws its order; all of it. -/
import Derived.Test.YtcckdpimimkejaaEngZ
namespace Go.Eng
open Go Go.RowKit
section
variable {P : Program} {C : Ctx} {ro : Option Nat} {ops : Array Oper} {I : List DInfo}
variable {T : Tb} {K : St → Prop} {fr0 : List (Nat × SV)} {res : List (Nat × SV)} {keep : Nat → Bool} {t : DTree} {hp : List (Nat × HObj)} {nx : Nat} {μ : Nat → Option (Nat × Nat)} {a : Act} {w : World}

def plus (keep : Nat → Bool) (i : Nat) : Nat → Bool := fun j => j == i || keep j

/-- The slots that an operation reads are as they were evaluated. -/
theorem DInv.look (hI : DOk P C.n ops I) (h0 : LabOk fr0 []) (h : DInv I T K fr0 C res keep t hp nx μ a w) {i : Nat} {x : DInfo} (hx : I[i]? = some x) (hpre : ∀ q ∈ x.pre, keep q = true) :
    (∀ t ∈ readS x.o, Eng.look (frOf I fr0 res) t = Eng.look (frOf I fr0 (res.filter fun p => keep p.1)) t) ∧
    (∀ d w, x.o.guard = some (d, w) → ∃ G : Nat → Prop, G d ∧ ∀ t, G t → Eng.look (frOf I fr0 res) t = Eng.look (frOf I fr0 (res.filter fun p => keep p.1)) t ∧ ∀ d' w' v, Eng.look (frOf I fr0 res) t = .gd d' w' v → G d') := by
  have hS : ∀ j y, keep j = true → I[j]? = some y → ∀ q ∈ y.pre, keep q = true := h.kD
  have same : ∀ {j : Nat} {y : DInfo} {t : Nat}, I[j]? = some y → (∀ q ∈ y.pre, keep q = true) → t ∈ readS y.o → Eng.look (frOf I fr0 res) t = Eng.look (frOf I fr0 (res.filter fun p => keep p.1)) t ∧ ∀ p ∈ res, dstOf I p.1 = some t → keep p.1 = true := by
    intro j y t hy hp ht
    have hk : ∀ p ∈ res, dstOf I p.1 = some t → keep p.1 = true := by
      intro p _ hd
      rcases hI.named (S := fun q => keep q = true) hS hy hp (read_name ht) hd with e | e
      · subst e; exact absurd hd (hI.ownD hy ht)
      · exact e
    exact ⟨(look_keep I fr0 keep res hk).symm, hk⟩
  refine ⟨fun t ht => (same hx hpre ht).1, fun d wt hg => ⟨fun t => ∃ j y, I[j]? = some y ∧ (∀ q ∈ y.pre, keep q = true) ∧ t ∈ readS y.o, ⟨i, x, hx, hpre, by unfold readS; rw [hg]; simp⟩, ?_⟩⟩
  rintro t ⟨j, y, hy, hp, ht⟩
  obtain ⟨e1, e2⟩ := same hy hp ht
  refine ⟨e1, fun d' w' v hl => ?_⟩
  rcases look_some I fr0 (t := t) res with e | ⟨q, hq, hqd, e⟩
  · rw [e] at hl
    have := h0 _ _ _ _ hl
    simp [memN] at this
  · rw [e] at hl
    obtain ⟨z, hz, hzg⟩ := h.gd q hq d' w' v hl
    exact ⟨q.1, z, hz, hS q.1 z (e2 q hq hqd) hz, by unfold readS; rw [hzg]; simp⟩

/-- No slot hangs on one that has not been written. -/
theorem DInv.free (hI : DOk P C.n ops I) (h0 : LabOk fr0 []) (h : DInv I T K fr0 C res keep t hp nx μ a w) {i d : Nat} (hd : dstOf I i = some d) (hk : keep i = false) : ∀ t d' w' y, Eng.look (frOf I fr0 (res.filter fun p => keep p.1)) t = .gd d' w' y → d' ≠ d := by
  intro t d' w' y hl e
  subst e
  rcases look_some I fr0 (t := t) (res.filter fun p => keep p.1) with e | ⟨q, hq, hqd, e⟩
  · rw [e] at hl
    have := h0 _ _ _ _ hl
    simp [memN] at this
  · rw [e] at hl
    obtain ⟨hq1, hq2⟩ := List.mem_filter.1 hq
    obtain ⟨z, hz, hzg⟩ := h.gd q hq1 d' w' y hl
    rcases hI.named (S := fun q => keep q = true) h.kD hz (h.kD q.1 z hq2 hz) (t := d') (j := i) (guard_name hzg) hd with e | e
    · subst e
      rw [hq2] at hk; cases hk
    · rw [e] at hk; cases hk

/-- The slots, once an operation has been run. -/
theorem look_plus (hI : DOk P C.n ops I) (hnd : (res.map (·.1)).Nodup) {i d : Nat} {s : SV} (hm : (i, s) ∈ res) (hd : dstOf I i = some d) : ∀ t, Eng.look (frOf I fr0 (res.filter fun p => plus keep i p.1)) t = if d = t then s else Eng.look (frOf I fr0 (res.filter fun p => keep p.1)) t := by
  intro t
  by_cases e : d = t
  · subst e
    rw [if_pos rfl]
    refine look_hit I fr0 _ (List.mem_filter.2 ⟨hm, by simp [plus]⟩) hd ?_
    intro p hp hpd
    have := hI.uniq hpd hd
    obtain ⟨p1, p2⟩ := p
    simp only at this
    subst this
    rw [nd_uniq hnd (List.mem_filter.1 hp).1 hm]
  · rw [if_neg e]
    refine look_filter I fr0 (plus keep i) keep res ?_
    intro p _ hpd
    unfold plus
    have : (p.1 == i) = false := by
      rw [beq_eq_false_iff_ne]
      rintro e'
      rw [e', hd] at hpd
      exact e (Option.some.inj hpd)
    rw [this]; rfl

theorem put_none (a : Act) (v : Value) : a.put none v = a := rfl

/-- A step of an operation that only computes or reads. -/
theorem step_pure (htab : TbOk P C T) (hI : DOk P C.n ops I) (h0 : LabOk fr0 []) (h : DInv I T K fr0 C res keep t hp nx μ a w) {i : Nat} {o : Oper} {x : DInfo} (ho : ops[i]? = some o) (hx : I[i]? = some x) (hco : cOper P C.n ops.toList o = some x.o) (hxe : x.eff = false)
    (hm : i ∈ res.map (·.1)) (hk : keep i = false) (hpre : ∀ q ∈ x.pre, keep q = true) {Q : Exit → Act → World → Prop} :
    wpOpIn (WF ro) 0 P ops Q i (fun a' w' => ∃ μ', DInv I T K fr0 C res (plus keep i) t hp nx μ' a' w') a w := by
  obtain ⟨⟨i', s⟩, hp1, rfl⟩ := List.mem_map.1 hm
  simp only at hx ho hk hpre hm ⊢
  have hpf := h.pf _ hp1 x hx hxe hk
  simp only at hpf
  obtain ⟨d, hd⟩ := hI.dst i' x hx hxe
  have hdi : dstOf I i' = some d := by unfold dstOf; rw [hx]; exact hd
  obtain ⟨hlk, hgk⟩ := h.look hI h0 hx hpre
  -- what is known, at the slots that have been written
  have hpf' : PF T.fs (frOf I fr0 (res.filter fun p => keep p.1)) hp nx x.o s := by
    refine PF_eq hpf (evP_agree fun q hq => hlk q (by unfold readS; exact List.mem_append_left _ hq)) ?_
    intro d0 wt hg
    obtain ⟨G, g1, g2⟩ := hgk d0 wt hg
    exact guardP_agree G g2 10 d0 wt g1
  -- the translation
  unfold cOper at hco
  split at hco
  rotate_left
  · cases hco
  rename_i sop g h3 h4
  cases hdst : dstOk C.n o.dst with
  | false => simp [hdst] at hco
  | true =>
  simp only [hdst, cond_true, Option.some.injEq] at hco
  rw [← hco] at hd hpf'
  have hodst : o.dst = some d := hd
  have hnd : ∀ c, o.op ≠ .defer c := by
    rintro c e
    rw [e] at h3
    simp [cOp] at h3
  have hdn : d < C.n := by
    rw [hodst] at hdst
    have h1 : Nat.ble (d + 1) C.n = true := hdst
    exact Nat.le_of_ble_eq_true h1
  have fin : ∀ w' v, Below w.heap.size w w' → SlotR (envOf C μ hp w') (a.tmps.setIfInBounds d v) s v → ∃ μ', DInv I T K fr0 C res (plus keep i') t hp nx μ' (a.put o.dst v) w' := by
    intro w' v hb hs
    rw [hodst]
    refine ⟨μ, ⟨h.ev, h.tr, h.nd, h.inI, h.dS, ?_, ?_, ?_, h.gd, ?_, ?_⟩⟩
    · intro j hj
      unfold plus at hj
      rcases Bool.or_eq_true_iff.1 hj with e | e
      · rw [beq_iff_eq.1 e]; exact hm
      · exact h.kS j e
    · intro p hp2 y hy he
      unfold plus
      rw [h.kE p hp2 y hy he]; simp
    · intro j y hj hy q hq
      unfold plus at hj ⊢
      rcases Bool.or_eq_true_iff.1 hj with e | e
      · rw [beq_iff_eq.1 e, hx] at hy
        cases hy
        rw [hpre q hq]; simp
      · rw [h.kD j y e hy q hq]; simp
    · intro p hp2 y hy he hkp
      unfold plus at hkp
      exact h.pf p hp2 y hy he (Bool.or_eq_false_iff.1 hkp).2
    · exact (h.rep.below hb).set' hdn (h.free hI h0 hdi hk) hs (look_plus hI h.nd hp1 hdi)
  unfold wpOpIn
  simp only [ho]
  unfold PF at hpf'
  cases g with
  | none =>
    simp only at hpf'
    have hw : Region.wanted o (yielded ops a.tmps) = true := (wanted_iff h4).2 (fun _ _ e => by cases e)
    rw [if_pos hw]
    refine wpIn_of_does hnd ?_
    obtain ⟨s', hs', hdo⟩ := evP_sound htab.fs h.rep (g := none) (fun _ _ e => by cases e) h3 hpf'.2
    refine hdo.mono ?_
    rintro v w' ⟨hb, hr⟩
    subst hs'
    exact fin w' v hb (R_slot hr hpf'.1)
  | some gw =>
    obtain ⟨d0, wt⟩ := gw
    obtain ⟨v0, hs0, hpf'⟩ := hpf'
    have hne : d0 ≠ d := by
      rintro rfl
      exact hI.ownD hx (t := d0) (by rw [← hco]; unfold readS; simp) hdi
    by_cases hw : Region.wanted o (yielded ops a.tmps) = true
    · have hg := (wanted_iff h4).1 hw
      have hgd : a.tmps.getD d0 undef = .bool wt := hg d0 wt rfl
      have hgp := guardP_sound h.rep.fr 10 d0 wt hgd
      rw [if_pos hw]
      have he' : (evP T.fs (some (d0, wt)) ⟨frOf I fr0 (res.filter fun p => keep p.1), hp, nx⟩ sop).holds (fun u => u = v0) := by
        simp only at hpf'
        split at hpf'
        · rename_i u hu; rw [hu]; exact hpf'
        · rename_i p u hu; rw [hu]; exact ⟨hpf'.1 hgp, hpf'.2⟩
        · exact absurd hgp hpf'.2
      refine wpIn_of_does hnd ?_
      obtain ⟨s', hs', hdo⟩ := evP_sound htab.fs h.rep hg h3 he'
      refine hdo.mono ?_
      rintro v w' ⟨hb, hr⟩
      subst hs'
      refine fin w' v hb ?_
      rw [hs0]
      simp only [SlotR]
      rw [getD_set_other _ _ _ _ hne, hgd]
      exact ⟨fun _ => hr, fun e => absurd rfl e⟩
    · have hg : ¬ a.tmps.getD d0 undef = .bool wt := by
        intro e
        exact hw ((wanted_iff h4).2 (fun d' w' e' => by cases e'; exact e))
      rw [if_neg hw]
      refine ⟨fun f _ => WF_fn ro f, fin w undef (Below.refl _ _) ?_⟩
      rw [hs0]
      simp only [SlotR]
      rw [getD_set_other _ _ _ _ hne]
      exact ⟨fun e => absurd e hg, fun _ => trivial⟩

/-! ### Operations that make or write -/
def nodeEv (T : Tb) (o : SOper) (stab : List SOper) (sub : DTree) (fr : List (Nat × SV)) (hp : List (Nat × HObj)) (nx : Nat) (k : St → Prop) : Prop :=
  match o.guard with
  | none => evE T none ⟨fr, hp, nx⟩ (fun s st' => stK st' fun hp' nx' => stabP T.fs fr hp nx hp' nx' stab ∧ setX o.dst s fr fun fr' => evD T sub fr' hp' nx' k) o.op
  | some (d0, w) => guardK fr 10 d0 w (evE T (some (d0, w)) ⟨fr, hp, nx⟩ (fun s st' => stK st' fun hp' nx' => stabP T.fs fr hp nx hp' nx' stab ∧ setX o.dst s fr fun fr' => evD T sub fr' hp' nx' k) o.op)
      (setX o.dst (.tup .nil) fr fun fr' => evD T sub fr' hp nx k)

theorem chain_find {S : List Nat} {fr : List (Nat × SV)} {i : Nat} {x : DInfo} (hx : I[i]? = some x) (hxe : x.eff = true) (hi : i ∉ S) (hp0 : ∀ p ∈ x.pre, p ∈ S) : ∀ (t : DTree) (es : List Nat), i ∉ es → TreeOk I (some es) S t → evD T t fr hp nx K →
    ∃ stab sub, nodeEv T x.o stab sub fr hp nx K ∧ (∀ j ∈ S, ∀ y, I[j]? = some y → y.eff = false → readsS y.o.op = true → x.tp.testBit j = false → y.o ∈ stab) ∧ TreeOk I none (i :: S) sub := by
  intro t
  induction t with
  | done => intro es _ h; exact h.elim
  | pure => intro es _ h; exact h.elim
  | none => intro es he h _; exact absurd (h i x hx hxe hi hp0) he
  | eff e o stab sub alt _ iha =>
    intro es he h hev
    obtain ⟨⟨y, hy, hyo, hye, hyS, hyp, hst⟩, hsub, halt⟩ := h
    obtain ⟨hn, hea⟩ := hev
    by_cases hei : e = i
    · subst hei
      rw [hx] at hy
      cases hy
      subst hyo
      exact ⟨stab, sub, hn, hst, hsub⟩
    · exact iha (e :: es) (by simp [he, Ne.symm hei]) halt hea

theorem stabP_mem {tab : List (Nat × FSpec)} {fr : List (Nat × SV)} {hp' : List (Nat × HObj)} {nx' : Nat} : ∀ {l : List SOper}, stabP tab fr hp nx hp' nx' l → ∀ o ∈ l, evP tab o.guard ⟨fr, hp', nx'⟩ o.op = evP tab o.guard ⟨fr, hp, nx⟩ o.op := by
  intro l
  induction l with
  | nil => intro _ o h; cases h
  | cons b r ih =>
    intro h o ho
    rcases List.mem_cons.1 ho with rfl | ho
    · exact h.1
    · exact ih h.2 o ho

/-- A step of an operation that makes or writes memory. -/
theorem step_eff (htab : TbOk P C T) (hI : DOk P C.n ops I) (h0 : LabOk fr0 []) (h : DInv I T K fr0 C res keep t hp nx μ a w) {i : Nat} {o : Oper} {x : DInfo} (ho : ops[i]? = some o) (hx : I[i]? = some x) (hco : cOper P C.n ops.toList o = some x.o) (_hxe : x.eff = true)
    (hm : i ∉ res.map (·.1)) (hpre : ∀ q ∈ x.pre, keep q = true) {stab : List SOper} {sub : DTree} (hev : nodeEv T x.o stab sub (frOf I fr0 res) hp nx K)
    (hst : ∀ j ∈ res.map (·.1), ∀ y, I[j]? = some y → y.eff = false → readsS y.o.op = true → x.tp.testBit j = false → y.o ∈ stab) (htr : TreeOk I none (i :: res.map (·.1)) sub) {Q : Exit → Act → World → Prop} :
    wpOpIn (WF ro) 0 P ops Q i (fun a' w' => ∃ res' t' hp' nx' μ', DInv I T K fr0 C res' (plus keep i) t' hp' nx' μ' a' w') a w := by
  have hk : keep i = false := by
    cases e : keep i with
    | false => rfl
    | true => exact absurd (h.kS i e) hm
  obtain ⟨hlk, hgk⟩ := h.look hI h0 hx hpre
  have hag : Agree (slotsS x.o.op) (frOf I fr0 res) (frOf I fr0 (res.filter fun p => keep p.1)) := fun q hq => hlk q (by unfold readS; exact List.mem_append_left _ hq)
  have hfilt : ∀ s, ((i, s) :: res).filter (fun p => plus keep i p.1) = (i, s) :: res.filter (fun p => keep p.1) := by
    intro s
    rw [List.filter_cons, if_pos (by simp [plus])]
    congr 1
    refine List.filter_congr fun p hp1 => ?_
    unfold plus
    have : (p.1 == i) = false := by
      rw [beq_eq_false_iff_ne]
      rintro e
      exact hm (e ▸ List.mem_map.2 ⟨p, hp1, rfl⟩)
    rw [this]; rfl
  -- what follows
  have fin : ∀ (s : SV) (hp' : List (Nat × HObj)) (nx' : Nat) (μ' : Nat → Option (Nat × Nat)) (v : Value) (w' : World), (∀ p ∈ res, ∀ y, I[p.1]? = some y → y.eff = false → keep p.1 = false → evP T.fs y.o.guard ⟨frOf I fr0 res, hp', nx'⟩ y.o.op = evP T.fs y.o.guard ⟨frOf I fr0 res, hp, nx⟩ y.o.op) →
      RepAt C μ' ⟨frOf I fr0 (res.filter fun p => keep p.1), hp', nx'⟩ a w' → R (envOf C μ' hp' w') s [v] → (∀ d, x.o.dst = some d → d < C.n) →
      setX x.o.dst s (frOf I fr0 res) (fun fr' => evD T sub fr' hp' nx' K) → ∃ res' t' hp'' nx'' μ'', DInv I T K fr0 C res' (plus keep i) t' hp'' nx'' μ'' (a.put x.o.dst v) w' := by
    intro s hp' nx' μ' v w' hstab hrep hR hdn hsx
    have mk : ∀ (s : SV) (hev' : evD T sub (frOf I fr0 ((i, s) :: res)) hp' nx' K) (hgd : ∀ d w v, s = .gd d w v → False) (hrep' : RepAt C μ' ⟨frOf I fr0 ((i, s) :: res.filter fun p => keep p.1), hp', nx'⟩ (a.put x.o.dst v) w'),
        ∃ res' t' hp'' nx'' μ'', DInv I T K fr0 C res' (plus keep i) t' hp'' nx'' μ'' (a.put x.o.dst v) w' := by
      intro s hev' hgd hrep'
      refine ⟨(i, s) :: res, sub, hp', nx', μ', ⟨hev', htr, ?_, ?_, ?_, ?_, ?_, ?_, ?_, ?_, by rw [hfilt]; exact hrep'⟩⟩
      · simp only [List.map_cons, List.nodup_cons]; exact ⟨hm, h.nd⟩
      · intro p hp2
        rcases List.mem_cons.1 hp2 with rfl | hp2
        · exact ⟨x, hx⟩
        · exact h.inI p hp2
      · intro p hp2 y hy q hq
        rcases List.mem_cons.1 hp2 with rfl | hp2
        · rw [hx] at hy; cases hy
          exact List.mem_cons_of_mem _ (h.kS q (hpre q hq))
        · exact List.mem_cons_of_mem _ (h.dS p hp2 y hy q hq)
      · intro j hj
        unfold plus at hj
        rcases Bool.or_eq_true_iff.1 hj with e | e
        · rw [beq_iff_eq.1 e]; exact List.mem_cons_self ..
        · exact List.mem_cons_of_mem _ (h.kS j e)
      · intro p hp2 y hy he
        unfold plus
        rcases List.mem_cons.1 hp2 with rfl | hp2
        · simp
        · rw [h.kE p hp2 y hy he]; simp
      · intro j y hj hy q hq
        unfold plus at hj ⊢
        rcases Bool.or_eq_true_iff.1 hj with e | e
        · rw [beq_iff_eq.1 e, hx] at hy
          cases hy
          rw [hpre q hq]; simp
        · rw [h.kD j y e hy q hq]; simp
      · intro p hp2 d w v e
        rcases List.mem_cons.1 hp2 with rfl | hp2
        · exact (hgd d w v e).elim
        · exact h.gd p hp2 d w v e
      · intro p hp2 y hy he hkp
        unfold plus at hkp
        obtain ⟨k1, k2⟩ := Bool.or_eq_false_iff.1 hkp
        rcases List.mem_cons.1 hp2 with rfl | hp2
        · simp at k1
        · exact h.pf_more hI h0 hm hp2 hy (h.pf p hp2 y hy he k2) (hstab p hp2 y hy he k2)
    unfold setX at hsx
    split at hsx
    · rename_i hd
      have hdi : dstOf I i = none := by unfold dstOf; rw [hx]; exact hd
      have e1 : ∀ r, frOf I fr0 ((i, .junk) :: r) = frOf I fr0 r := fun r => by simp only [frOf, hdi]
      refine mk .junk (by rw [e1]; exact hsx) (fun _ _ _ e => by cases e) ?_
      rw [e1, hd, put_none]
      exact hrep
    · rename_i d hd
      simp only [forceSV, forceS_eq] at hsx
      split at hsx
      · exact hsx.elim
      · rename_i hng
        have hdi : dstOf I i = some d := by unfold dstOf; rw [hx]; exact hd
        have e2 : ∀ r, frOf I fr0 ((i, s) :: r) = (d, s) :: frOf I fr0 r := fun r => by simp only [frOf, hdi]
        refine mk _ (by rw [e2]; exact hsx) (fun d w v e => hng d w v e) ?_
        rw [hd]
        refine hrep.set' (hdn d hd) (h.free hI h0 hdi hk) (R_slot hR hng) ?_
        intro t
        rw [e2, look_cons]
  -- the translation
  have hco0 := hco
  unfold cOper at hco
  split at hco
  rotate_left
  · cases hco
  rename_i sop g h3 h4
  cases hdst : dstOk C.n o.dst with
  | false => simp [hdst] at hco
  | true =>
  simp only [hdst, cond_true, Option.some.injEq] at hco
  have hxd : x.o.dst = o.dst := by rw [← hco]
  have hxg : x.o.guard = g := by rw [← hco]
  have hxop : x.o.op = sop := by rw [← hco]
  have hnd : ∀ c, o.op ≠ .defer c := by
    rintro c e
    rw [e] at h3
    simp [cOp] at h3
  have hdn : ∀ d, x.o.dst = some d → d < C.n := by
    intro d e
    rw [hxd] at e
    rw [e] at hdst
    have h1 : Nat.ble (d + 1) C.n = true := hdst
    exact Nat.le_of_ble_eq_true h1
  have stab_ok : ∀ (hp' : List (Nat × HObj)) (nx' : Nat), stabP T.fs (frOf I fr0 res) hp nx hp' nx' stab → ∀ p ∈ res, ∀ y, I[p.1]? = some y → y.eff = false → keep p.1 = false → evP T.fs y.o.guard ⟨frOf I fr0 res, hp', nx'⟩ y.o.op = evP T.fs y.o.guard ⟨frOf I fr0 res, hp, nx⟩ y.o.op := by
    intro hp' nx' hs p hp2 y hy he hkp
    cases hr : readsS y.o.op with
    | false => exact evP_hp hr
    | true =>
      refine stabP_mem hs _ (hst p.1 (List.mem_map.2 ⟨p, hp2, rfl⟩) y hy he hr ?_)
      cases hb : x.tp.testBit p.1 with
      | false => rfl
      | true =>
        have := hI.tp_in (S := fun q => keep q = true) h.kD i x p.1 hx hpre hb
        rw [this] at hkp; cases hkp
  unfold wpOpIn
  simp only [ho]
  unfold nodeEv at hev
  simp only [stK_eq] at hev
  rw [hxg] at hev
  cases g with
  | none =>
    simp only at hev
    have hw : Region.wanted o (yielded ops a.tmps) = true := (wanted_iff h4).2 (fun _ _ e => by cases e)
    rw [if_pos hw]
    refine wpIn_of_does hnd ?_
    have hev' := evE_agree (K := fun s hp' nx' => stabP T.fs (frOf I fr0 res) hp nx hp' nx' stab ∧ setX x.o.dst s (frOf I fr0 res) fun fr' => evD T sub fr' hp' nx' K) hag hev
    rw [hxop] at hev'
    refine (evE_sound htab h.rep (g := none) (fun _ _ e => by cases e) h3 hev').mono ?_
    rintro v w' ⟨s, st', μ', ⟨k1, k2⟩, hfr, hE, hh, hR⟩
    rw [← hxd]
    have hrep := h.rep.stepTo hfr hE hh
    obtain ⟨fr1, hp1, nx1⟩ := st'
    simp only at hfr
    subst hfr
    exact fin s hp1 nx1 μ' v w' (stab_ok hp1 nx1 k1) hrep hR hdn k2
  | some gw =>
    obtain ⟨d0, wt⟩ := gw
    simp only at hev
    obtain ⟨G, g1, g2⟩ := hgk d0 wt hxg
    have hev2 := guardK_agree G g2 10 d0 wt _ _ g1 hev
    rcases guardK_sound h.rep.fr 10 d0 wt _ _ hev2 with ⟨hgd, hy⟩ | ⟨hgd, hn⟩
    · have hg : GOk (some (d0, wt)) a.tmps := by intro d w e; cases e; exact hgd
      have hw : Region.wanted o (yielded ops a.tmps) = true := (wanted_iff h4).2 hg
      rw [if_pos hw]
      refine wpIn_of_does hnd ?_
      have hev' := evE_agree (K := fun s hp' nx' => stabP T.fs (frOf I fr0 res) hp nx hp' nx' stab ∧ setX x.o.dst s (frOf I fr0 res) fun fr' => evD T sub fr' hp' nx' K) hag hy
      rw [hxop] at hev'
      refine (evE_sound htab h.rep hg h3 hev').mono ?_
      rintro v w' ⟨s, st', μ', ⟨k1, k2⟩, hfr, hE, hh, hR⟩
      rw [← hxd]
      have hrep := h.rep.stepTo hfr hE hh
      obtain ⟨fr1, hp1, nx1⟩ := st'
      simp only at hfr
      subst hfr
      exact fin s hp1 nx1 μ' v w' (stab_ok hp1 nx1 k1) hrep hR hdn k2
    · have hw : ¬ Region.wanted o (yielded ops a.tmps) = true := by
        intro e
        exact hgd ((wanted_iff h4).1 e d0 wt rfl)
      rw [if_neg hw]
      refine ⟨fun f _ => WF_fn ro f, ?_⟩
      rw [← hxd]
      exact fin (.tup .nil) hp nx μ undef w (fun _ _ _ _ _ _ => rfl) h.rep ⟨[], rfl, rfl⟩ hdn hn

/-! ### All of it -/
def isPure : DTree → Bool
  | .pure .. => true
  | _ => false

/-- What can be evaluated is evaluated. -/
theorem DInv.norm (hI : DOk P C.n ops I) (h0 : LabOk fr0 []) : ∀ (t : DTree) (res : List (Nat × SV)), DInv I T K fr0 C res keep t hp nx μ a w → ∃ res' t', isPure t' = false ∧ DInv I T K fr0 C res' keep t' hp nx μ a w := by
  intro t
  induction t with
  | pure i o rest ih =>
    intro res h
    obtain ⟨s, h'⟩ := h.adv hI h0
    exact ih _ h'
  | done => intro res h; exact ⟨res, _, rfl, h⟩
  | none => intro res h; exact ⟨res, _, rfl, h⟩
  | eff => intro res h; exact ⟨res, _, rfl, h⟩

theorem tree_closed {S : List Nat} {t : DTree} (h : TreeOk I none S t) (hp : isPure t = false) (hlen : ∀ i x, I[i]? = some x → i < I.length) : Closed I S := by
  cases t with
  | done => intro i x hx _ _; exact h i (hlen i x hx)
  | none => exact h.1
  | pure => cases hp
  | eff => exact h.1

theorem tree_node {S : List Nat} {fr : List (Nat × SV)} {hp' : List (Nat × HObj)} {t : DTree} {i : Nat} {x : DInfo} (hx : I[i]? = some x) (hxe : x.eff = true) (hi : i ∉ S) (hp0 : ∀ p ∈ x.pre, p ∈ S) (h : TreeOk I none S t) (hp : isPure t = false) (hlen : ∀ i x, I[i]? = some x → i < I.length) (hev : evD T t fr hp' nx K) :
    ∃ stab sub, nodeEv T x.o stab sub fr hp' nx K ∧ (∀ j ∈ S, ∀ y, I[j]? = some y → y.eff = false → readsS y.o.op = true → x.tp.testBit j = false → y.o ∈ stab) ∧ TreeOk I none (i :: S) sub := by
  cases t with
  | done => exact absurd (h i (hlen i x hx)) hi
  | none => exact (h.2.2 i x hx hxe hi hp0).elim
  | pure => cases hp
  | eff e o stab sub alt =>
    obtain ⟨hcl, _, ⟨y, hy, hyo, hye, hyS, hyp, hst⟩, hsub, halt⟩ := h
    obtain ⟨hn, hea⟩ := hev
    by_cases hei : e = i
    · subst hei
      rw [hx] at hy
      cases hy
      subst hyo
      exact ⟨stab, sub, hn, hst, hsub⟩
    · exact chain_find hx hxe hi hp0 alt [e] (by simp [Ne.symm hei]) halt hea

def keepOf (l : Array Bool) : Nat → Bool := fun j => l.getD j false

/-- Where all are listed, nothing is left. -/
theorem wpAny_all {listed : Array Bool} (hall : ∀ i, i < ops.size → keepOf listed i = true) (hsz : listed.size = ops.size) {Q : Exit → Act → World → Prop} (fuel : Nat) {a : Act} {w : World} (h : Q .normal a w) : wpAnyIn (WF ro) 0 P .any ops Q fuel listed a w := by
  have hr : Region.ready .any ops listed = [] := by
    refine List.eq_nil_iff_forall_not_mem.2 fun i hi => ?_
    unfold Region.ready at hi
    obtain ⟨h1, h2⟩ := List.mem_filter.1 hi
    have hlt := List.mem_range.1 h1
    simp only [Bool.and_eq_true, Bool.not_eq_true'] at h2
    have h3 := hall i hlt
    unfold keepOf at h3
    have h4 := h2.1
    rw [Array.getD_eq_getD_getElem?] at h3 h4
    rw [Array.getElem?_eq_getElem (show i < listed.size by omega)] at h3 h4
    simp only [Option.getD_some] at h3 h4
    rw [h3] at h4
    cases h4
  cases fuel with
  | zero => exact ⟨hr, h⟩
  | succ fuel => exact ⟨fun _ => h, fun i hi => by rw [hr] at hi; cases hi⟩

/-- The last operation, if it is left for itself. -/
def LastOk (P : Program) (ro : Option Nat) (C : Ctx) (ops : Array Oper) (I : List DInfo) (K : St → Prop) (Q : Exit → Act → World → Prop) : Prop :=
  (I.length = ops.size ∧ ∀ st μ a w, K st → RepAt C μ st a w → Q .normal a w) ∨
  (I.length + 1 = ops.size ∧ ∃ o, ops[I.length]? = some o ∧ (∀ p ∈ preOf o, p < I.length) ∧ (∀ i, i < I.length → (maskOf I (preOf o)).testBit i = true) ∧
    ∀ st μ a w, K st → RepAt C μ st a w → wpListIn (WF ro) 0 P ops Q [o] a w)

theorem drawn_any (htab : TbOk P C T) (hI : DOk P C.n ops I) (h0 : LabOk fr0 []) {Q : Exit → Act → World → Prop} (hL : LastOk P ro C ops I K Q) :
    ∀ (fuel : Nat) (listed : Array Bool) (a : Act) (w : World), listed.size = ops.size → listed.count false = fuel → (I.length < ops.size → keepOf listed I.length = false) → (∃ res t hp nx μ, DInv I T K fr0 C res (keepOf listed) t hp nx μ a w) →
      wpAnyIn (WF ro) 0 P .any ops Q fuel listed a w := by
  have hlen : ∀ i x, I[i]? = some x → i < I.length := fun i x e => (List.getElem?_eq_some_iff.1 e).1
  have hle := hI.len
  -- the end
  have fin0 : ∀ (listed : Array Bool) (a : Act) (w : World), (∃ res t hp nx μ, DInv I T K fr0 C res (keepOf listed) t hp nx μ a w) → (∀ i, i < I.length → keepOf listed i = true) → ∃ st μ, K st ∧ RepAt C μ st a w := by
    rintro listed a w ⟨res, t, hp, nx, μ, h⟩ hall
    obtain ⟨res, t, hpu, h⟩ := h.norm hI h0 t res
    have hin : ∀ i, i < I.length → i ∈ res.map (·.1) := fun i hi => h.kS i (hall i hi)
    have htr := h.tr
    have hev := h.ev
    cases t with
    | pure => cases hpu
    | none => obtain ⟨_, ⟨i, h1, h2⟩, _⟩ := htr; exact absurd (hin i h1) h2
    | eff => obtain ⟨_, ⟨i, h1, h2⟩, _⟩ := htr; exact absurd (hin i h1) h2
    | done =>
      refine ⟨_, μ, hev, ?_⟩
      have hr := h.rep
      have : res.filter (fun p => keepOf listed p.1) = res := by
        refine List.filter_eq_self.2 fun p hp => ?_
        obtain ⟨x, hx⟩ := h.inI p hp
        exact hall p.1 (hlen _ _ hx)
      rw [this] at hr
      exact hr
  have fin : ∀ (listed : Array Bool) (a : Act) (w : World), listed.size = ops.size → (I.length < ops.size → keepOf listed I.length = false) → (∃ res t hp nx μ, DInv I T K fr0 C res (keepOf listed) t hp nx μ a w) → (∀ i, i < ops.size → keepOf listed i = true) → Q .normal a w := by
    intro listed a w hsz hlast hex hall
    obtain ⟨st, μ, h1, h2⟩ := fin0 listed a w hex (fun i hi => hall i (by omega))
    rcases hL with ⟨_, hK⟩ | ⟨he, _⟩
    · exact hK st μ a w h1 h2
    · have := hlast (by omega)
      rw [hall _ (by omega)] at this
      cases this
  have ready_low : ∀ (listed : Array Bool) (i : Nat), listed.size = ops.size → i ∈ Region.ready .any ops listed → ∃ o, ops[i]? = some o ∧ i < listed.size ∧ keepOf listed i = false ∧ ∀ q ∈ preOf o, keepOf listed q = true := by
    intro listed i hsz hi
    unfold Region.ready at hi
    obtain ⟨h1, h2⟩ := List.mem_filter.1 hi
    have hlt := List.mem_range.1 h1
    simp only [Bool.and_eq_true, Bool.not_eq_true'] at h2
    obtain ⟨h2, h3⟩ := h2
    have ho : ops[i]? = some ops[i] := Array.getElem?_eq_getElem hlt
    refine ⟨_, ho, by omega, ?_, ?_⟩
    · unfold keepOf
      rw [Array.getD_eq_getD_getElem?] at h2 ⊢
      rw [Array.getElem?_eq_getElem (show i < listed.size by omega)] at h2 ⊢
      exact h2
    · intro q hq
      unfold preOf at hq
      obtain ⟨e, he, rfl⟩ := List.mem_map.1 hq
      obtain ⟨he1, he2⟩ := List.mem_filter.1 he
      rw [ho] at h3
      simp only [Option.map_some, Option.getD_some, Array.all_eq_true_iff_forall_mem] at h3
      have := h3 e (by simpa using he1)
      rw [he2] at this
      simpa [keepOf] using this
  have ready_iff : ∀ (listed : Array Bool) (i : Nat), listed.size = ops.size → i < I.length → i ∈ Region.ready .any ops listed → ∃ o x, ops[i]? = some o ∧ I[i]? = some x ∧ cOper P C.n ops.toList o = some x.o ∧ i < listed.size ∧ keepOf listed i = false ∧ ∀ q ∈ x.pre, keepOf listed q = true := by
    intro listed i hsz hlt hi
    obtain ⟨o, ho, h1, h2, h3⟩ := ready_low listed i hsz hi
    obtain ⟨x, hx, hc, hp⟩ := hI.op i _ hlt ho
    exact ⟨o, x, ho, hx, hc, h1, h2, by rw [hp]; exact h3⟩
  -- what could be run
  have is_ready : ∀ (listed : Array Bool) (i : Nat) (o : Oper), listed.size = ops.size → ops[i]? = some o → keepOf listed i = false → (∀ q ∈ preOf o, keepOf listed q = true) → i ∈ Region.ready .any ops listed := by
    intro listed i o hsz ho hkf hpre
    have hi : i < ops.size := (Array.getElem?_eq_some_iff.1 ho).1
    have hlt : i < listed.size := by omega
    unfold Region.ready
    refine List.mem_filter.2 ⟨List.mem_range.2 hi, ?_⟩
    rw [ho]
    simp only [Option.map_some, Option.getD_some, Bool.and_eq_true, Bool.not_eq_true']
    refine ⟨?_, ?_⟩
    · unfold keepOf at hkf
      rw [Array.getD_eq_getD_getElem?, Array.getElem?_eq_getElem hlt] at hkf ⊢
      exact hkf
    · rw [Array.all_eq_true_iff_forall_mem]
      intro e he
      cases hbd : Region.binds .any e with
      | false => rfl
      | true =>
        have hq : e.on ∈ preOf o := by
          unfold preOf
          exact List.mem_map.2 ⟨e, List.mem_filter.2 ⟨by simpa using he, hbd⟩, rfl⟩
        have := hpre e.on hq
        simpa [keepOf] using this
  intro fuel
  induction fuel with
  | zero =>
    intro listed a w hsz hc hlast hex
    have hall : ∀ i, i < ops.size → keepOf listed i = true := by
      intro i hi
      have hlt : i < listed.size := by omega
      unfold keepOf
      rw [Array.getD_eq_getD_getElem?, Array.getElem?_eq_getElem hlt]
      cases e : listed[i] with
      | true => rfl
      | false =>
        exfalso
        have : false ∈ listed := by rw [← e]; exact Array.getElem_mem hlt
        exact absurd hc (Nat.ne_of_gt (Array.count_pos_iff.2 this))
    refine ⟨?_, fin listed a w hsz hlast hex hall⟩
    refine List.eq_nil_iff_forall_not_mem.2 fun i hi => ?_
    obtain ⟨o, ho, _, hk, _⟩ := ready_low listed i hsz hi
    rw [hall i (Array.getElem?_eq_some_iff.1 ho).1] at hk
    cases hk
  | succ fuel ih =>
    intro listed a w hsz hc hlast hex
    refine ⟨fun hr => fin listed a w hsz hlast hex ?_, ?_⟩
    · -- whatever is left could be run
      intro i
      induction i using Nat.strongRecOn with
      | _ i ihi =>
        intro hi
        refine Classical.byContradiction fun hk => ?_
        have hkf : keepOf listed i = false := by cases e : keepOf listed i with | false => rfl | true => exact absurd e hk
        have ho : ops[i]? = some ops[i] := Array.getElem?_eq_getElem hi
        have hpre : ∀ q ∈ preOf ops[i], q < i := by
          by_cases hlow : i < I.length
          · obtain ⟨x, hx, _, hp⟩ := hI.op i _ hlow ho
            intro q hq
            exact hI.lt i x hx q (by rw [hp]; exact hq)
          · rcases hL with ⟨he, _⟩ | ⟨he, o, ho', hp, _⟩
            · omega
            · have : i = I.length := by omega
              subst this
              rw [ho] at ho'
              cases ho'
              exact hp
        have := is_ready listed i _ hsz ho hkf (fun q hq => ihi q (hpre q hq) (by have := hpre q hq; omega))
        rw [hr] at this
        cases this
    · intro i hi
      obtain ⟨o0, ho0, hil, hki, hpre0⟩ := ready_low listed i hsz hi
      have hio := (Array.getElem?_eq_some_iff.1 ho0).1
      have hkeep : keepOf (listed.setIfInBounds i true) = plus (keepOf listed) i := by
        funext j
        unfold plus keepOf
        by_cases hj : j = i
        · subst hj
          simp [hil, Array.getD_eq_getD_getElem?]
        · have : (j == i) = false := beq_eq_false_iff_ne.2 hj
          simp [this, Array.getD_eq_getD_getElem?, Array.getElem?_setIfInBounds_ne (Ne.symm hj)]
      by_cases hlow : i < I.length
      · obtain ⟨o, x, ho, hx, hco, hil, hki, hpre⟩ := ready_iff listed i hsz hlow hi
        obtain ⟨res, t, hp, nx, μ, h⟩ := hex
        obtain ⟨res, t, hpu, h⟩ := h.norm hI h0 t res
        have hcnt : (listed.setIfInBounds i true).count false = fuel := by
          have hki' : listed[i] = false := by
            unfold keepOf at hki
            rw [Array.getD_eq_getD_getElem?, Array.getElem?_eq_getElem hil] at hki
            exact hki
          rw [Array.setIfInBounds_def, dif_pos hil, Array.count_set hil, hki']
          simp
          omega
        have go : ∀ a' w', (∃ res' t' hp' nx' μ', DInv I T K fr0 C res' (plus (keepOf listed) i) t' hp' nx' μ' a' w') → wpAnyIn (WF ro) 0 P .any ops Q fuel (listed.setIfInBounds i true) a' w' := by
          intro a' w' hx
          refine ih _ a' w' (by simp [hsz]) hcnt (fun hlt => ?_) (by rw [hkeep]; exact hx)
          rw [hkeep]
          unfold plus
          rw [hlast hlt, beq_eq_false_iff_ne.2 (by omega)]
          rfl
        have hpS : ∀ q ∈ x.pre, q ∈ res.map (·.1) := fun q hq => h.kS q (hpre q hq)
        cases hxe : x.eff with
        | false =>
          have hm := tree_closed h.tr hpu hlen i x hx hxe hpS
          refine wpOpIn_mono ?_ (step_pure htab hI h0 h ho hx hco hxe hm hki hpre)
          rintro a' w' ⟨μ', h'⟩
          exact go a' w' ⟨res, t, hp, nx, μ', h'⟩
        | true =>
          have hm : i ∉ res.map (·.1) := by
            intro hmem
            obtain ⟨p, hp1, rfl⟩ := List.mem_map.1 hmem
            rw [h.kE p hp1 x hx hxe] at hki
            cases hki
          obtain ⟨stab, sub, hn, hst, htr⟩ := tree_node hx hxe hm hpS h.tr hpu hlen h.ev
          refine wpOpIn_mono ?_ (step_eff htab hI h0 h ho hx hco hxe hm hpre hn hst htr)
          rintro a' w' h'
          exact go a' w' h'
      · rcases hL with ⟨he, _⟩ | ⟨he, o, ho', hp, hbits, hK⟩
        · omega
        · have hie : i = I.length := by omega
          subst hie
          rw [ho0] at ho'
          cases ho'
          have hkd : ∀ j x, keepOf listed j = true → I[j]? = some x → ∀ q ∈ x.pre, keepOf listed q = true := by
            obtain ⟨res, t, hp, nx, μ, h⟩ := hex
            exact h.kD
          have hall : ∀ j, j < I.length → keepOf listed j = true := by
            intro j hj
            rcases maskOf_bit (hbits j hj) with h | ⟨p, hp1, y, hy, hb⟩
            · exact hpre0 j h
            · exact hI.tp_in (S := fun q => keepOf listed q = true) hkd p y j hy (hkd p y (hpre0 p hp1) hy) hb
          obtain ⟨st, μ, h1, h2⟩ := fin0 listed a w hex hall
          have hw := hK st μ a w h1 h2
          have hdone : ∀ a' w', Q .normal a' w' → wpAnyIn (WF ro) 0 P .any ops Q fuel (listed.setIfInBounds I.length true) a' w' := by
            intro a' w' hq
            refine wpAny_all (fun j hj => ?_) (by simp [hsz]) fuel hq
            rw [hkeep]
            unfold plus
            by_cases e : j = I.length
            · simp [e]
            · rw [hall j (by omega)]; simp
          unfold wpOpIn
          simp only [ho0]
          simp only [wpListIn] at hw
          split at hw
          · rename_i hwant
            rw [if_pos hwant]
            exact Oper.wpIn_mono hdone hw
          · rename_i hwant
            rw [if_neg hwant]
            exact ⟨hw.1, hdone _ _ hw.2⟩

theorem drawn_start {_hint : List Nat} {id : Nat} {t : DTree} (htab : TbOk P C T) (hf : P.follows .mixedOrders = true) (hI : DOk P C.n ops I) (htr : TreeOk I none [] t) {st : St} (h0 : LabOk st.fr []) {Q : Exit → Act → World → Prop} {K : St → Prop} (hL : LastOk P ro C ops I K Q)
    (h : RepAt C μ st a w) (hev : evD T t st.fr st.hp st.nx K) : (Code.region id ops true).wpIn (WF ro) 0 P Q a w := by
  refine wpIn_region_any hf ?_
  obtain ⟨fr, hp, nx⟩ := st
  have hkf : ∀ j, keepOf (Array.replicate ops.size false) j = false := by
    intro j
    unfold keepOf
    rw [Array.getD_eq_getD_getElem?, Array.getElem?_replicate]
    split <;> rfl
  refine drawn_any htab hI h0 hL ops.size _ _ _ (by simp) (by simp) (fun _ => hkf _) ⟨[], t, hp, nx, μ, ?_⟩
  refine ⟨hev, htr, .nil, (fun _ h => by cases h), (fun _ h => by cases h), ?_, (fun _ h => by cases h), ?_, (fun _ h => by cases h), (fun _ h => by cases h), ?_⟩
  · intro i hi; rw [hkf] at hi; cases hi
  · intro i x hi; rw [hkf] at hi; cases hi
  · exact h.below ((Below.refl _ _).drew)

theorem drawn_sound (htab : TbOk P C T) {hint : List Nat} {id : Nat} {t : DTree} (hd : cDraw P C.n hint ops.toList = some t) {st : St} (h0 : LabOk st.fr []) {Q : Exit → Act → World → Prop} {K : St → Prop} (hK : ∀ st μ a w, K st → RepAt C μ st a w → Q .normal a w)
    (h : RepAt C μ st a w) (hev : evD T t st.fr st.hp st.nx K) : (Code.region id ops true).wpIn (WF ro) 0 P Q a w := by
  obtain ⟨hf, I, hI, he, htr⟩ := cDraw_ok hd
  exact drawn_start (_hint := hint) htab hf hI htr h0 (.inl ⟨he, hK⟩) h hev

theorem drawnL_sound (htab : TbOk P C T) {hint : List Nat} {id : Nat} {t : DTree} {so : SOper} (hd : cDrawL P C.n hint ops.toList = some (t, so)) {st : St} (h0 : LabOk st.fr []) {Q : Exit → Act → World → Prop} {K0 K : St → Prop} (hK : ∀ st μ a w, K st → RepAt C μ st a w → Q .normal a w)
    (hK0 : ∀ st μ a w, K0 st → RepAt C μ st a w → ∃ st', LabOk st'.fr [] ∧ RepAt C μ st' a w ∧ evOs T [so] [] st' K)
    (h : RepAt C μ st a w) (hev : evD T t st.fr st.hp st.nx K0) : (Code.region id ops true).wpIn (WF ro) 0 P Q a w := by
  obtain ⟨hf, I, o, hI, he, htr, ho, hco, hp, hb⟩ := cDrawL_ok hd
  refine drawn_start (_hint := hint) htab hf hI htr h0 (.inr ⟨he, o, ho, hp, hb, ?_⟩) h hev
  intro st μ a w h1 h2
  obtain ⟨st', h3, h4, h5⟩ := hK0 st μ a w h1 h2
  exact evOs_sound htab hK [o] [so] [] μ st' a w hco h3 h4 h5
end
end Go.Eng
