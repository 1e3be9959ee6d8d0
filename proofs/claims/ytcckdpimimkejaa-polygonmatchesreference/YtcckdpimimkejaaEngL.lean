/- The engine, part 12: when one store serves as another. -/
import Derived.Test.YtcckdpimimkejaaEngK
namespace Go.Eng
open Go Go.RowKit

section
variable {C : Ctx}

theorem subFr_look {k : Keep} {hp : List (Nat × HObj)} {fr : List (Nat × SV)} : ∀ {fr' : List (Nat × SV)}, subFr k hp fr fr' → ∀ s, (look fr' s = .junk) ∨ (sub k hp 200 (look fr s) (look fr' s) ∧ ∀ d w x, look fr' s ≠ .gd d w x) := by
  intro fr'
  induction fr' with
  | nil => intro _ s; exact .inl rfl
  | cons p r ih =>
    obtain ⟨s0, v⟩ := p
    intro hs s
    rw [look_cons]
    cases v with
    | gd d w x => simp only [subFr] at hs; exact hs.1.elim
    | _ =>
      simp only [subFr] at hs
      split
      · rename_i e
        subst e
        exact .inr ⟨hs.1, by simp⟩
      · exact ih hs.2 s

theorem pin_of (hpin : PinOk C) {nx' : Nat} {prs : List (Nat × Nat)} (hk : okPairs nx' prs = true) (hp : ∀ i, i ∈ C.np → (i, i) ∈ prs) {μ μ' : Nat → Option (Nat × Nat)} (h : ∀ id p, C.pin id = some p → μ id = some p)
    (k2 : ∀ id id' p, get? prs id = some id' → μ id = some p → μ' id' = some p) (k3 : ∀ c d i p, get? prs c = some d → μ (fid c i) = some p → μ' (fid d i) = some p) (k9 : ∀ n, n < C.bnd → n < FB → μ' n = μ n) : ∀ id p, C.pin id = some p → μ' id = some p := by
  intro id p e
  rcases hpin id p e with hb | ⟨hb, hb2⟩
  rotate_left
  · rw [k9 id hb hb2]; exact h _ _ e
  have hg := get?_of_mem hk (hp _ hb)
  by_cases hlt : id < FB
  · simp only [fbase, hlt, if_true] at hg
    exact k2 _ _ _ hg (h _ _ e)
  · simp only [fbase, hlt, if_false] at hg
    have he := fid_of (Nat.not_lt.1 hlt)
    have := k3 _ _ (id / FB - 1) p hg (by rw [he]; exact h _ _ e)
    rw [he] at this
    exact this

theorem subSt_sound (hpin : PinOk C) {μ : Nat → Option (Nat × Nat)} {st st' : St} {a : Act} {w : World} (h : RepAt C μ st a w) (hlab : LabOk st.fr []) (hs : subSt C.np C.bnd st st') : (∃ μ', RepAt C μ' st' a w) ∧ LabOk st'.fr [] := by
  unfold subSt at hs
  rw [pairsK_eq] at hs
  cases hk : okPairs st'.nx (pairsOf C.np C.bnd st st') with
  | false => simp [hk] at hs
  | true =>
    cases hfm : famOk st.hp st'.hp (pairsOf C.np C.bnd st st') with
    | false => simp [hk, hfm] at hs
    | true =>
    cases hpi : pinsIn (pairsOf C.np C.bnd st st') C.np with
    | false => simp [hk, hfm, hpi] at hs
    | true =>
    cases hlo : lowOk C.bnd (pairsOf C.np C.bnd st st') with
    | false => simp [hk, hfm, hpi, hlo] at hs
    | true =>
    cases hbn : Nat.ble C.bnd st'.nx with
    | false => simp [hk, hfm, hpi, hlo, hbn] at hs
    | true =>
    simp only [hk, hfm, hpi, hlo, hbn, cond_true] at hs
    generalize pairsOf C.np C.bnd st st' = prs at hs hk hfm hpi hlo

    obtain ⟨hfr, hhp⟩ := hs
    obtain ⟨μ', k1, k2, k3, k4, k5, k6, k7, k8, k9⟩ := sub_hep C.bnd h.hep hk hfm hhp (lowOk_mem hlo) (Nat.le_of_ble_eq_true hbn)
    have hF : (envOf C μ st.hp w).Freed (.keep prs) st.hp (envOf C μ' st'.hp w) := by
      refine ⟨fun _ => ⟨?_, fun _ _ => rfl⟩, k2, k3, rfl, ?_⟩
      · intro b hb
        refine ⟨hb.1, hb.2.1, ?_, hb.2.2.2⟩
        intro i o' c' hg hm
        obtain ⟨m, o, _, ho, e, _⟩ := k1 i o' hg
        rw [e] at hm
        exact hb.2.2.1 m o c' ho hm
      · intro id o b c hg hm hkp
        have hm' : μ id = some (b, c) := hm
        refine ⟨h.hep.lt hg hm', ?_, ?_, h.hep.obj.plain hg hm'⟩
        · rcases h.hep.mine id o b c hg hm' with hh | hh
          · exact .inr (.inl hh)
          · exact .inr (.inr hh)
        · intro i o' c2 hg' hm2
          obtain ⟨m, oi, hp1, ho, e, _⟩ := k1 i o' hg'
          rw [e] at hm2
          have := h.hep.inj _ _ _ _ _ _ _ hg ho hm' hm2
          subst this
          exact k8 _ _ _ hg hkp hp1
    have hsub : ∀ s t vs, sub (.keep prs) st.hp 200 s t → R (envOf C μ st.hp w) s vs → R (envOf C μ' st'.hp w) t vs := fun s t vs => sub_sound hF h.hep.obj 200 s t vs
    refine ⟨⟨μ', h.size, h.defers, ?_, ?_, h.le.trans (hF.le rfl), h.kd⟩, ?_⟩
    · intro s
      rcases subFr_look hfr s with e | ⟨e, hnw⟩
      · rw [e]; exact SlotR_junk _ _ _
      · have hold := h.fr s
        have hR : R (envOf C μ st.hp w) (look st.fr s) [a.tmps.getD s undef] := by
          cases hl : look st.fr s with
          | gd d w' x => have := hlab s d w' x hl; simp [memN] at this
          | _ => rw [hl] at hold; exact hold
        exact R_slot (hsub _ _ _ e hR) hnw
    · refine ⟨⟨fun id o hg => (k6 id o hg).2, ?_⟩, ?_, ?_, fun id o hg => (k6 id o hg).1, k4, k5, pin_of hpin hk (pinsIn_mem hpi) h.hep.pin k2 k3 k9, h.hep.frm⟩
      · intro i o' hg
        obtain ⟨m, o, _, ho, e, hso⟩ := k1 i o' hg
        obtain ⟨b, cp, x, e1, e2, e3⟩ := h.hep.obj.obj m o ho
        refine ⟨b, cp, x, e.trans e1, e2, subObj_HR hF.le hsub (fun _ _ _ _ e => e) hso e3⟩
      · intro i i' o1 o2 b c1 c2 g1 g2 m1 m2
        obtain ⟨d1, p1, q1, ho1, e1, _⟩ := k1 i o1 g1
        obtain ⟨d2, p2, q2, ho2, e2, _⟩ := k1 i' o2 g2
        rw [e1] at m1
        rw [e2] at m2
        have := h.hep.inj _ _ _ _ _ _ _ ho1 ho2 m1 m2
        subst this
        exact k7 _ _ _ q1 q2
      · intro i o' b c hg hm
        obtain ⟨d, o, _, ho, e, _⟩ := k1 i o' hg
        rw [e] at hm
        exact h.hep.mine _ _ _ _ ho hm
    · intro s d w' x e
      rcases subFr_look hfr s with e' | ⟨_, hnw⟩
      · rw [e'] at e; cases e
      · exact absurd e (hnw d w' x)
end
end Go.Eng
