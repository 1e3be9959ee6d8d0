/- The engine, part 11d: whatever order is drawn. -/
import Derived.Test.YtcckdpimimkejaaEngY
namespace Go.Eng
open Go Go.RowKit

/-! ### The slots, by what has been run -/
def dstOf (I : List DInfo) (i : Nat) : Option Nat := match I[i]? with
  | some x => x.o.dst
  | none => none
def frOf (I : List DInfo) (fr0 : List (Nat × SV)) : List (Nat × SV) → List (Nat × SV)
  | [] => fr0
  | (i, s) :: r => match dstOf I i with
    | some d => (d, s) :: frOf I fr0 r
    | none => frOf I fr0 r

theorem look_frOf_cons (I : List DInfo) (fr0 res : List (Nat × SV)) (i : Nat) (s : SV) (t : Nat) : look (frOf I fr0 ((i, s) :: res)) t = if dstOf I i = some t then s else look (frOf I fr0 res) t := by
  simp only [frOf]
  split
  · rename_i d hd
    rw [look_cons, hd]
    simp
  · rename_i hd
    rw [hd]
    simp

/-- Slots whose writers are all kept. -/
theorem look_keep (I : List DInfo) (fr0 : List (Nat × SV)) (keep : Nat → Bool) {t : Nat} : ∀ (res : List (Nat × SV)), (∀ p ∈ res, dstOf I p.1 = some t → keep p.1 = true) → look (frOf I fr0 (res.filter fun p => keep p.1)) t = look (frOf I fr0 res) t := by
  intro res
  induction res with
  | nil => intro _; rfl
  | cons p r ih =>
    obtain ⟨i, s⟩ := p
    intro h
    have ihr := ih fun p hp => h p (List.mem_cons_of_mem _ hp)
    rw [List.filter_cons]
    by_cases hk : keep i = true
    · rw [if_pos hk, look_frOf_cons, look_frOf_cons, ihr]
    · rw [if_neg hk, look_frOf_cons, ihr, if_neg]
      intro hd
      exact hk (h (i, s) (List.mem_cons_self ..) hd)

/-- Slots that none of them writes. -/
theorem look_miss (I : List DInfo) (fr0 : List (Nat × SV)) {t : Nat} : ∀ (res : List (Nat × SV)), (∀ p ∈ res, dstOf I p.1 ≠ some t) → look (frOf I fr0 res) t = look fr0 t := by
  intro res
  induction res with
  | nil => intro _; rfl
  | cons p r ih =>
    obtain ⟨i, s⟩ := p
    intro h
    rw [look_frOf_cons, if_neg (h _ (List.mem_cons_self ..)), ih fun p hp => h p (List.mem_cons_of_mem _ hp)]

theorem look_hit (I : List DInfo) (fr0 : List (Nat × SV)) {t i : Nat} {s : SV} : ∀ (res : List (Nat × SV)), (i, s) ∈ res → dstOf I i = some t → (∀ p ∈ res, dstOf I p.1 = some t → p = (i, s)) → look (frOf I fr0 res) t = s := by
  intro res
  induction res with
  | nil => intro h; cases h
  | cons p r ih =>
    intro h hd hu
    obtain ⟨j, u⟩ := p
    rw [look_frOf_cons]
    split
    · rename_i hj
      have := hu (j, u) (List.mem_cons_self ..) hj
      cases this
      rfl
    · rename_i hj
      rcases List.mem_cons.1 h with e | h
      · cases e; exact absurd hd hj
      · exact ih h hd fun p hp => hu p (List.mem_cons_of_mem _ hp)

theorem look_some (I : List DInfo) (fr0 : List (Nat × SV)) {t : Nat} : ∀ (res : List (Nat × SV)), (look (frOf I fr0 res) t = look fr0 t) ∨ ∃ p ∈ res, dstOf I p.1 = some t ∧ look (frOf I fr0 res) t = p.2 := by
  intro res
  induction res with
  | nil => exact .inl rfl
  | cons p r ih =>
    obtain ⟨i, s⟩ := p
    rw [look_frOf_cons]
    split
    · rename_i h; exact .inr ⟨(i, s), List.mem_cons_self .., h, rfl⟩
    · rcases ih with h | ⟨p, hp, h⟩
      · exact .inl h
      · exact .inr ⟨p, List.mem_cons_of_mem _ hp, h⟩

/-! ### Guards -/
theorem guardP_agree {fr fr' : List (Nat × SV)} (G : Nat → Prop) (hG : ∀ t, G t → look fr t = look fr' t ∧ ∀ d w x, look fr t = .gd d w x → G d) : ∀ (n d : Nat) (w : Bool), G d → (guardP fr n d w ↔ guardP fr' n d w) := by
  intro n
  induction n with
  | zero => intro d w _; exact Iff.rfl
  | succ n ih =>
    intro d w hd
    obtain ⟨e, hc⟩ := hG d hd
    simp only [guardP]
    rw [← e]
    split
    · exact Iff.rfl
    · rename_i d' w' b hb
      rw [ih d' w' (hc _ _ _ hb)]
    · exact Iff.rfl
theorem guardK_agree {fr fr' : List (Nat × SV)} (G : Nat → Prop) (hG : ∀ t, G t → look fr t = look fr' t ∧ ∀ d w x, look fr t = .gd d w x → G d) : ∀ (n d : Nat) (w : Bool) (Y N : Prop), G d → guardK fr n d w Y N → guardK fr' n d w Y N := by
  intro n
  induction n with
  | zero => intro d w Y N _ h; exact h
  | succ n ih =>
    intro d w Y N hd h
    obtain ⟨e, hc⟩ := hG d hd
    simp only [guardK] at h ⊢
    rw [← e]
    split at h
    · exact h
    · rename_i d' w' b hb
      exact ih d' w' _ _ (hc _ _ _ hb) h
    · rename_i d' w' hb
      exact ih d' w' _ _ (hc _ _ _ hb) h
    · exact h
    · exact h.elim
theorem guardK_mono {fr : List (Nat × SV)} : ∀ (n d : Nat) (w : Bool) (Y N Y' N' : Prop), (Y → Y') → (N → N') → guardK fr n d w Y N → guardK fr n d w Y' N' := by
  intro n
  induction n with
  | zero => intro d w Y N Y' N' _ _ h; exact h
  | succ n ih =>
    intro d w Y N Y' N' hY hN h
    simp only [guardK] at h ⊢
    split at h
    · exact ⟨fun e => hY (h.1 e), fun e => hN (h.2 e)⟩
    · exact ih _ _ _ _ _ _ (fun hh => ⟨fun e => hY (hh.1 e), fun e => hN (hh.2 e)⟩) hN h
    · exact ih _ _ _ _ _ _ id hN h
    · exact hN h
    · exact h.elim

theorem evP_hp {tab : List (Nat × FSpec)} {g : Option (Nat × Bool)} {fr : List (Nat × SV)} {hp hp' : List (Nat × HObj)} {nx nx' : Nat} {so : SOp} (h : readsS so = false) : evP tab g ⟨fr, hp, nx⟩ so = evP tab g ⟨fr, hp', nx'⟩ so := by
  cases so <;> first
    | (simp [readsS] at h; done)
    | (simp only [evP]; done)
    | rfl

/-- What is known of an operation that only computes or reads, and has not been run. -/
def PF (tab : List (Nat × FSpec)) (fr : List (Nat × SV)) (hp : List (Nat × HObj)) (nx : Nat) (o : SOper) (s : SV) : Prop :=
  match o.guard with
  | none => (∀ d w x, s ≠ .gd d w x) ∧ (evP tab none ⟨fr, hp, nx⟩ o.op).holds fun v => v = s
  | some (d0, w) => ∃ v, s = .gd d0 w v ∧ match evP tab (some (d0, w)) ⟨fr, hp, nx⟩ o.op with
    | .ok u => u = v
    | .side p u => (guardP fr 10 d0 w → p) ∧ u = v
    | .fail => v = .junk ∧ ¬ guardP fr 10 d0 w

theorem PF_eq {tab : List (Nat × FSpec)} {fr fr' : List (Nat × SV)} {hp hp' : List (Nat × HObj)} {nx nx' : Nat} {o : SOper} {s : SV} (h : PF tab fr hp nx o s) (he : evP tab o.guard ⟨fr, hp, nx⟩ o.op = evP tab o.guard ⟨fr', hp', nx'⟩ o.op)
    (hg : ∀ d0 w, o.guard = some (d0, w) → (guardP fr 10 d0 w ↔ guardP fr' 10 d0 w)) : PF tab fr' hp' nx' o s := by
  unfold PF at *
  split at h
  · rename_i hgd
    rw [hgd] at he
    rw [← he]
    exact h
  · rename_i d0 w hgd
    rw [hgd] at he
    obtain ⟨v, rfl, h⟩ := h
    have hiff := hg d0 w hgd
    refine ⟨v, rfl, ?_⟩
    rw [← he]
    split at h
    · exact h
    · exact ⟨fun k => h.1 (hiff.2 k), h.2⟩
    · exact ⟨h.1, fun k => h.2 (hiff.2 k)⟩

section
variable {P : Program} {C : Ctx} {ro : Option Nat}

theorem SlotR_put' {E : Env} {t : Array Value} {d : Nat} {v : Value} {s : SV} {x : Value} (hs : ∀ d' w y, s = .gd d' w y → d' ≠ d) (h : SlotR E t s x) : SlotR E (t.setIfInBounds d v) s x := by
  cases s with
  | gd d' w y =>
    have : d' ≠ d := hs _ _ _ rfl
    simp only [SlotR] at *
    rw [getD_set_other _ _ _ _ this]
    exact h
  | _ => exact h

/-- A slot is set that no other one hangs on; the slots are written otherwise. -/
theorem RepAt.set' {μ : Nat → Option (Nat × Nat)} {fr fr' : List (Nat × SV)} {hp : List (Nat × HObj)} {nx : Nat} {a : Act} {w : World} (h : RepAt C μ ⟨fr, hp, nx⟩ a w) {d : Nat} (hd : d < C.n) (hl : ∀ t d' w y, look fr t = .gd d' w y → d' ≠ d) {s : SV} {v : Value}
    (hs : SlotR (envOf C μ hp w) (a.tmps.setIfInBounds d v) s v) (hfr : ∀ t, look fr' t = if d = t then s else look fr t) : RepAt C μ ⟨fr', hp, nx⟩ (a.put (some d) v) w where
  size := by simp [Act.put, h.size]
  defers := h.defers
  fr := by
    intro n
    simp only [Act.put]
    rw [hfr]
    by_cases hn : d = n
    · subst hn
      rw [if_pos rfl, getD_set_same _ _ _ (by rw [h.size]; exact hd)]
      exact hs
    · rw [if_neg hn, getD_set_other _ _ _ _ (Ne.symm hn)]
      exact SlotR_put' (fun d' w y e => hl n d' w y e) (h.fr n)
  hep := h.hep
  le := h.le
  kd := h.kd

/-- What holds while a region runs: res: what has been evaluated (the latest first); keep: what has been run. -/
structure DInv (I : List DInfo) (T : Tb) (K : St → Prop) (fr0 : List (Nat × SV)) (C : Ctx) (res : List (Nat × SV)) (keep : Nat → Bool) (t : DTree) (hp : List (Nat × HObj)) (nx : Nat) (μ : Nat → Option (Nat × Nat)) (a : Act) (w : World) : Prop where
  ev : evD T t (frOf I fr0 res) hp nx K
  tr : TreeOk I none (res.map (·.1)) t
  nd : (res.map (·.1)).Nodup
  inI : ∀ p ∈ res, ∃ x, I[p.1]? = some x
  dS : ∀ p ∈ res, ∀ x, I[p.1]? = some x → ∀ q ∈ x.pre, q ∈ res.map (·.1)
  kS : ∀ i, keep i = true → i ∈ res.map (·.1)
  kE : ∀ p ∈ res, ∀ x, I[p.1]? = some x → x.eff = true → keep p.1 = true
  kD : ∀ i x, keep i = true → I[i]? = some x → ∀ q ∈ x.pre, keep q = true
  gd : ∀ p ∈ res, ∀ d w v, p.2 = .gd d w v → ∃ x, I[p.1]? = some x ∧ x.o.guard = some (d, w)
  pf : ∀ p ∈ res, ∀ x, I[p.1]? = some x → x.eff = false → keep p.1 = false → PF T.fs (frOf I fr0 res) hp nx x.o p.2
  rep : RepAt C μ ⟨frOf I fr0 (res.filter fun p => keep p.1), hp, nx⟩ a w

theorem guard_name {o : SOper} {d : Nat} {w : Bool} (h : o.guard = some (d, w)) : d ∈ namesS o := by simp [namesS, h]
theorem dst_name {o : SOper} {d : Nat} (h : o.dst = some d) : d ∈ namesS o := by simp [namesS, h]
theorem slot_name {o : SOper} {t : Nat} (h : t ∈ slotsS o.op) : t ∈ namesS o := by simp [namesS, h]

variable {ops : Array Oper} {I : List DInfo}

theorem DOk.tp_lt (hI : DOk P C.n ops I) : ∀ (i : Nat) (x : DInfo) (j : Nat), I[i]? = some x → x.tp.testBit j = true → j < i := by
  intro i
  induction i using Nat.strongRecOn with
  | _ i ih =>
    intro x j hx hb
    rcases hI.tp i x hx j hb with h | ⟨p, hp, y, hy, hb'⟩
    · exact hI.lt i x hx j h
    · have h1 := hI.lt i x hx p hp
      have := ih p h1 y j hy hb'
      omega

theorem DOk.tp_in (hI : DOk P C.n ops I) {S : Nat → Prop} (hS : ∀ i x, S i → I[i]? = some x → ∀ q ∈ x.pre, S q) : ∀ (i : Nat) (x : DInfo) (j : Nat), I[i]? = some x → (∀ q ∈ x.pre, S q) → x.tp.testBit j = true → S j := by
  intro i
  induction i using Nat.strongRecOn with
  | _ i ih =>
    intro x j hx hp hb
    rcases hI.tp i x hx j hb with h | ⟨p, hpp, y, hy, hb'⟩
    · exact hp j h
    · exact ih p (hI.lt i x hx p hpp) y j hy (hS p y (hp p hpp) hy) hb'

/-- The writer of a slot is one. -/
theorem DOk.uniq (hI : DOk P C.n ops I) {i j : Nat} {t : Nat} (hi : dstOf I i = some t) (hj : dstOf I j = some t) : i = j := by
  unfold dstOf at hi hj
  split at hi
  · rename_i x hx
    split at hj
    · rename_i y hy
      refine Classical.byContradiction fun hne => ?_
      have h1 := hI.tp_lt i x j hx (hI.nm i j x y t hx hy (dst_name hi) hj hne)
      have h2 := hI.tp_lt j y i hy (hI.nm j i y x t hy hx (dst_name hj) hi (Ne.symm hne))
      omega
    · cases hj
  · cases hi

/-- A slot that is named by an operation whose forerunners are in S: its writers are in S, or it is its own. -/
theorem DOk.named (hI : DOk P C.n ops I) {S : Nat → Prop} (hS : ∀ i x, S i → I[i]? = some x → ∀ q ∈ x.pre, S q) {i : Nat} {x : DInfo} (hx : I[i]? = some x) (hp : ∀ q ∈ x.pre, S q) {t j : Nat} (ht : t ∈ namesS x.o) (hj : dstOf I j = some t) : i = j ∨ S j := by
  by_cases hij : i = j
  · exact .inl hij
  · right
    unfold dstOf at hj
    split at hj
    · rename_i y hy
      exact hI.tp_in hS i x j hx hp (hI.nm i j x y t hx hy ht hj hij)
    · cases hj

theorem read_name {o : SOper} {t : Nat} (h : t ∈ readS o) : t ∈ namesS o := by
  unfold readS at h
  unfold namesS
  simp only [List.mem_append] at h ⊢
  exact .inl h
theorem DOk.ownD (hI : DOk P C.n ops I) {i : Nat} {x : DInfo} (hx : I[i]? = some x) {t : Nat} (ht : t ∈ readS x.o) : dstOf I i ≠ some t := by
  intro e
  unfold dstOf at e
  rw [hx] at e
  have := hI.own i x hx
  unfold ownOk at this
  simp only at e
  rw [e] at this
  simp only [Bool.not_eq_true'] at this
  rw [memN_iff.2 ht] at this
  cases this

theorem look_filter (I : List DInfo) (fr0 : List (Nat × SV)) (k1 k2 : Nat → Bool) {t : Nat} : ∀ (res : List (Nat × SV)), (∀ p ∈ res, dstOf I p.1 = some t → k1 p.1 = k2 p.1) → look (frOf I fr0 (res.filter fun p => k1 p.1)) t = look (frOf I fr0 (res.filter fun p => k2 p.1)) t := by
  intro res
  induction res with
  | nil => intro _; rfl
  | cons p r ih =>
    obtain ⟨i, s⟩ := p
    intro h
    have ihr := ih fun p hp => h p (List.mem_cons_of_mem _ hp)
    rw [List.filter_cons, List.filter_cons]
    by_cases hd : dstOf I i = some t
    · have := h (i, s) (List.mem_cons_self ..) hd
      simp only at this
      simp only
      rw [this]
      split
      · rw [look_frOf_cons, look_frOf_cons, ihr]
      · exact ihr
    · have e1 : ∀ (b : Bool) (l : List (Nat × SV)), look (frOf I fr0 (if b = true then (i, s) :: l else l)) t = look (frOf I fr0 l) t := by
        intro b l
        cases b with
        | true => rw [if_pos rfl, look_frOf_cons, if_neg hd]
        | false => rfl
      rw [e1, e1, ihr]

theorem nd_uniq : ∀ {res : List (Nat × SV)}, (res.map (·.1)).Nodup → ∀ {i : Nat} {s s' : SV}, (i, s) ∈ res → (i, s') ∈ res → s = s' := by
  intro res
  induction res with
  | nil => intro _ i s s' h; cases h
  | cons p r ih =>
    intro hn i s s' h h'
    simp only [List.map_cons, List.nodup_cons] at hn
    rcases List.mem_cons.1 h with e | h1 <;> rcases List.mem_cons.1 h' with e' | h2
    · rw [← e] at e'; cases e'; rfl
    · rw [← e] at hn
      exact absurd (List.mem_map.2 ⟨(i, s'), h2, rfl⟩) hn.1
    · rw [← e'] at hn
      exact absurd (List.mem_map.2 ⟨(i, s), h1, rfl⟩) hn.1
    · exact ih hn.2 h1 h2

section
variable {T : Tb} {K : St → Prop} {fr0 : List (Nat × SV)} {res : List (Nat × SV)} {keep : Nat → Bool} {t : DTree} {hp : List (Nat × HObj)} {nx : Nat} {μ : Nat → Option (Nat × Nat)} {a : Act} {w : World}

/-- What has been evaluated stands where another operation is evaluated. -/
theorem DInv.pf_more (hI : DOk P C.n ops I) (h0 : LabOk fr0 []) (h : DInv I T K fr0 C res keep t hp nx μ a w) {i : Nat} (hi : i ∉ res.map (·.1)) {s : SV} {hp' : List (Nat × HObj)} {nx' : Nat} {p : Nat × SV} (hp1 : p ∈ res) {x : DInfo} (hx : I[p.1]? = some x) (hpf : PF T.fs (frOf I fr0 res) hp nx x.o p.2)
    (he : evP T.fs x.o.guard ⟨frOf I fr0 res, hp', nx'⟩ x.o.op = evP T.fs x.o.guard ⟨frOf I fr0 res, hp, nx⟩ x.o.op) : PF T.fs (frOf I fr0 ((i, s) :: res)) hp' nx' x.o p.2 := by
  have hS : ∀ j y, j ∈ res.map (·.1) → I[j]? = some y → ∀ q ∈ y.pre, q ∈ res.map (·.1) := by
    intro j y hj hy
    obtain ⟨q, hq, rfl⟩ := List.mem_map.1 hj
    exact h.dS q hq y hy
  have same : ∀ {j : Nat} {y : DInfo} {t : Nat}, j ∈ res.map (·.1) → I[j]? = some y → t ∈ readS y.o → look (frOf I fr0 res) t = look (frOf I fr0 ((i, s) :: res)) t := by
    intro j y t hj hy ht
    rw [look_frOf_cons, if_neg]
    intro hd
    rcases hI.named (S := fun q => q ∈ res.map (·.1)) hS hy (hS j y hj hy) (read_name ht) hd with e | e
    · subst e; exact hi hj
    · exact hi e
  have hpm : p.1 ∈ res.map (·.1) := List.mem_map.2 ⟨p, hp1, rfl⟩
  refine PF_eq hpf ?_ ?_
  · rw [← he]
    exact evP_agree fun q hq => same hpm hx (by unfold readS; exact List.mem_append_left _ hq)
  · intro d0 wt hg
    refine guardP_agree (fun t => ∃ j y, j ∈ res.map (·.1) ∧ I[j]? = some y ∧ t ∈ readS y.o) ?_ 10 d0 wt ⟨p.1, x, hpm, hx, by unfold readS; rw [hg]; simp⟩
    rintro t ⟨j, y, hj, hy, ht⟩
    refine ⟨same hj hy ht, fun d wl v hl => ?_⟩
    rcases look_some I fr0 (t := t) res with e | ⟨q, hq, hqd, e⟩
    · rw [e] at hl
      have := h0 _ _ _ _ hl
      simp [memN] at this
    · rw [e] at hl
      obtain ⟨z, hz, hzg⟩ := h.gd q hq d wl v hl
      exact ⟨q.1, z, List.mem_map.2 ⟨q, hq, rfl⟩, hz, by unfold readS; rw [hzg]; simp⟩

/-- An operation that only computes or reads is evaluated. -/
theorem DInv.adv (hI : DOk P C.n ops I) (h0 : LabOk fr0 []) {i : Nat} {o : SOper} {rest : DTree} (h : DInv I T K fr0 C res keep (.pure i o rest) hp nx μ a w) : ∃ s, DInv I T K fr0 C ((i, s) :: res) keep rest hp nx μ a w := by
  obtain ⟨⟨x, hx, hxo, hxe, hiS, hpre⟩, htr⟩ := h.tr
  have hki : keep i = false := by
    cases e : keep i with
    | false => rfl
    | true => exact absurd (h.kS i e) hiS
  obtain ⟨d, hd⟩ := hI.dst i x hx hxe
  have hdi : dstOf I i = some d := by unfold dstOf; rw [hx]; exact hd
  have hown : ∀ t ∈ readS x.o, d ≠ t := by
    intro t ht e
    exact hI.ownD hx ht (by rw [hdi, e])
  -- whatever is found
  have fin : ∀ s, evD T rest ((d, s) :: frOf I fr0 res) hp nx K → (∀ d w v, s = .gd d w v → x.o.guard = some (d, w)) → PF T.fs (frOf I fr0 res) hp nx x.o s → DInv I T K fr0 C ((i, s) :: res) keep rest hp nx μ a w := by
    intro s hev hgd hpf
    have hfrc : frOf I fr0 ((i, s) :: res) = (d, s) :: frOf I fr0 res := by simp only [frOf, hdi]
    refine ⟨by rw [hfrc]; exact hev, htr, ?_, ?_, ?_, ?_, ?_, h.kD, ?_, ?_, ?_⟩
    · simp only [List.map_cons, List.nodup_cons]; exact ⟨hiS, h.nd⟩
    · intro p hp
      rcases List.mem_cons.1 hp with rfl | hp
      · exact ⟨x, hx⟩
      · exact h.inI p hp
    · intro p hp y hy q hq
      rcases List.mem_cons.1 hp with rfl | hp
      · rw [hx] at hy; cases hy
        exact List.mem_cons_of_mem _ (hpre q hq)
      · exact List.mem_cons_of_mem _ (h.dS p hp y hy q hq)
    · intro j hj; exact List.mem_cons_of_mem _ (h.kS j hj)
    · intro p hp y hy he
      rcases List.mem_cons.1 hp with rfl | hp
      · rw [hx] at hy; cases hy; rw [hxe] at he; cases he
      · exact h.kE p hp y hy he
    · intro p hp d' w' v e
      rcases List.mem_cons.1 hp with rfl | hp
      · exact ⟨x, hx, hgd d' w' v e⟩
      · exact h.gd p hp d' w' v e
    · intro p hp1 y hy he hk
      rcases List.mem_cons.1 hp1 with rfl | hp1
      · rw [hx] at hy
        cases hy
        refine PF_eq hpf ?_ ?_
        · exact evP_agree fun q hq => by rw [hfrc, look_cons, if_neg (hown q (by unfold readS; exact List.mem_append_left _ hq))]
        · intro d0 wt hg
          have hlk : ∀ t ∈ readS x.o, look (frOf I fr0 res) t = look (frOf I fr0 ((i, s) :: res)) t := fun t ht => by rw [hfrc, look_cons, if_neg (hown t ht)]
          have hS : ∀ j y, j ∈ res.map (·.1) → I[j]? = some y → ∀ q ∈ y.pre, q ∈ res.map (·.1) := by
            intro j y hj hy
            obtain ⟨q, hq, rfl⟩ := List.mem_map.1 hj
            exact h.dS q hq y hy
          refine guardP_agree (fun t => t ∈ readS x.o ∨ ∃ j y, j ∈ res.map (·.1) ∧ I[j]? = some y ∧ t ∈ readS y.o) ?_ 10 d0 wt (.inl (by unfold readS; rw [hg]; simp))
          intro t ht
          refine ⟨?_, fun d' wl v hl => ?_⟩
          · rcases ht with ht | ⟨j, y, hj, hy, ht⟩
            · exact hlk t ht
            · rw [hfrc, look_cons, if_neg]
              intro hdt
              subst hdt
              rcases hI.named (S := fun q => q ∈ res.map (·.1)) hS hy (hS j y hj hy) (read_name ht) hdi with e | e
              · subst e; exact hiS hj
              · exact hiS e
          · rcases look_some I fr0 (t := t) res with e | ⟨q, hq, hqd, e⟩
            · rw [e] at hl
              have := h0 _ _ _ _ hl
              simp [memN] at this
            · rw [e] at hl
              obtain ⟨z, hz, hzg⟩ := h.gd q hq d' wl v hl
              exact .inr ⟨q.1, z, List.mem_map.2 ⟨q, hq, rfl⟩, hz, by unfold readS; rw [hzg]; simp⟩
      · exact h.pf_more hI h0 hiS hp1 hy (h.pf p hp1 y hy he hk) rfl
    · rw [List.filter_cons, if_neg (by simp [hki])]
      exact h.rep
  have hev := h.ev
  simp only [evD] at hev
  rw [← hxo, hd] at hev
  simp only at hev
  split at hev
  · rename_i hg
    split at hev
    · exact hev.elim
    · rename_i v hv
      simp only [forceSV, forceS_eq] at hev
      split at hev
      · exact hev.elim
      · rename_i hng
        refine ⟨v, fin v hev (fun d w u e => absurd e (hng d w u)) ?_⟩
        unfold PF
        rw [hg]
        exact ⟨hng, by rw [hv]; rfl⟩
    · rename_i p v hv
      simp only [forceSV, forceS_eq] at hev
      obtain ⟨hp1, hev⟩ := hev
      split at hev
      · exact hev.elim
      · rename_i hng
        refine ⟨v, fin v hev (fun d w u e => absurd e (hng d w u)) ?_⟩
        unfold PF
        rw [hg]
        exact ⟨hng, by rw [hv]; exact ⟨hp1, rfl⟩⟩
  · rename_i d0 wt hg
    split at hev
    · rename_i hv
      obtain ⟨hnp, hev⟩ := hev
      refine ⟨_, fin _ hev (fun d w u e => by cases e; exact hg) ?_⟩
      unfold PF
      rw [hg]
      refine ⟨_, rfl, ?_⟩
      rw [hv]
      exact ⟨rfl, hnp⟩
    · rename_i v hv
      rw [forceS_eq] at hev
      refine ⟨_, fin _ hev (fun d w u e => by cases e; exact hg) ?_⟩
      unfold PF
      rw [hg]
      refine ⟨_, rfl, ?_⟩
      rw [hv]
    · rename_i p v hv
      obtain ⟨hnp, hev⟩ := hev
      rw [forceS_eq] at hev
      refine ⟨_, fin _ hev (fun d w u e => by cases e; exact hg) ?_⟩
      unfold PF
      rw [hg]
      refine ⟨_, rfl, ?_⟩
      rw [hv]
      exact ⟨hnp, rfl⟩
end
end
end Go.Eng
