/- A part of the proof: see the last text. -/
import Derived.Test.YtjfjbkgkafgofaaR6
open Go Go.Eng Go.Proofs R2 R3 R4 R1 R5 R6
set_option maxRecDepth 100000
namespace R7
/-! The Grid stays in order. -/
theorem mset_new {V : Type} {k : MKey} {v0 v : V} {t : Nat} : ∀ {l : List (MKey × V × Nat)}, (∀ x ∈ l, x.2.2 < t) → mset (l ++ [(k, v0, t)]) t v = l ++ [(k, v, t)] := by
  intro l
  induction l with
  | nil => intro _; simp [mset]
  | cons x r ih =>
    intro h
    have hx := h x (List.mem_cons_self ..)
    simp only [List.cons_append, mset]
    rw [if_neg (by omega), ih (fun y hy => h y (List.mem_cons_of_mem _ hy))]
theorem on_cell {p : Int × Int} (h : onB p = true) : (0 ≤ p.1 / 1024 ∧ p.1 / 1024 < 32) ∧ (0 ≤ p.2 / 1024 ∧ p.2 / 1024 < 32) := by
  have := onB_iff.1 h
  omega
theorem cellN_iff {p q : Int × Int} (hp : onB p = true) (hq : onB q = true) : cellN p = cellN q ↔ cellK p = cellK q := by
  have h1 := on_cell hp
  have h2 := on_cell hq
  unfold cellN cellK
  rw [MKey.a.injEq]
  constructor
  · intro e
    have e' : 32 * (p.1 / 1024) + p.2 / 1024 = 32 * (q.1 / 1024) + q.2 / 1024 := by omega
    omega
  · rintro ⟨e1, e2⟩
    rw [e1, e2]
theorem onB_cell {p q : Int × Int} (_hp : onB p = true) (h : cellK q = cellK p) : cellN q = cellN p := by
  unfold cellK at h
  unfold cellN
  injection h with h4 h5
  rw [h4, h5]
def G0 : G := ⟨[], 0, [], 0, fun _ => none⟩
theorem G0_ok : GOk G0 where
  dt := fun x h => by cases h
  dk := List.nodup_nil
  dv := fun x h => by cases h
  ct := fun x h => by cases h
  ck := fun k v t h => by cases h
  cn := fun _ _ _ => rfl
  ix := fun x h => by cases h
  it := fun i l c h => by cases h
theorem nodup_app {α : Type} {l : List α} {a : α} (h : l.Nodup) (ha : a ∉ l) : (l ++ [a]).Nodup := by
  rw [List.nodup_append]
  refine ⟨h, by simp, ?_⟩
  intro x hx y hy e
  simp at hy
  subst hy
  subst e
  exact ha hx
theorem mget_app {V : Type} {k k' : MKey} {v : V} {t : Nat} : ∀ {l : List (MKey × V × Nat)}, mget (l ++ [(k', v, t)]) k = match mget l k with
    | some x => some x
    | none => if k' = k then some (v, t) else none := by
  intro l
  induction l with
  | nil => simp [mget]
  | cons x r ih =>
    simp only [List.cons_append, mget]
    by_cases h : x.1 = k
    · simp [h]
    · rw [if_neg h, if_neg h, ih]
/-- The Grid with a cell's map, if need be. -/
theorem with_ok {g : G} (hg : GOk g) {p : Int × Int} (hp : onB p = true) : GOk (withCell g p) ∧ (withCell g p).d = g.d ∧ (withCell g p).dc = g.dc ∧ ((withCell g p).f (cellN p)).isSome = true := by
  unfold withCell
  cases hc : mget g.c (cellK p) with
  | some x =>
    obtain ⟨v, t⟩ := x
    obtain ⟨p', h1, h2, h3, h4⟩ := hg.ck _ _ _ hc
    have : v = cellN p := h3.trans (onB_cell hp h2.symm)
    rw [this] at h4
    exact ⟨hg, rfl, rfl, h4⟩
  | none =>
    have hf := hg.cn p hp hc
    have hno : ∀ x ∈ g.d, cellN x.2.1 ≠ cellN p := by
      intro x hx e
      have := hg.ix x hx
      rw [e, hf] at this
      cases this
    refine ⟨⟨hg.dt, hg.dk, hg.dv, ?_, ?_, ?_, ?_, ?_⟩, rfl, rfl, by simp⟩
    · intro x hx
      rcases List.mem_append.1 hx with h | h
      · have := hg.ct x h
        show x.2.2 < g.cc + 1
        omega
      · simp at h
        subst h
        exact Nat.lt_succ_self _
    · intro k v t h
      simp only at h
      rw [mget_app] at h
      cases hk : mget g.c k with
      | some y =>
        rw [hk] at h
        simp only at h
        cases h
        obtain ⟨p', h1, h2, h3, h4⟩ := hg.ck _ _ _ hk
        refine ⟨p', h1, h2, h3, ?_⟩
        dsimp only
        split
        · rfl
        · exact h4
      | none =>
        rw [hk] at h
        simp only at h
        split at h
        · rename_i e
          cases h
          exact ⟨p, hp, e.symm, rfl, by simp⟩
        · cases h
    · intro q hq h
      simp only at h
      rw [mget_app] at h
      cases hk : mget g.c (cellK q) with
      | some y => rw [hk] at h; cases h
      | none =>
        rw [hk] at h
        simp only at h
        split at h
        · cases h
        · rename_i e
          dsimp only
          rw [if_neg (fun e' => e ((cellN_iff hq hp).1 e').symm)]
          exact hg.cn q hq hk
    · intro x hx
      dsimp only
      split
      · rfl
      · exact hg.ix x hx
    · intro i l c h
      dsimp only at h
      split at h
      · rename_i e
        cases h
        refine ⟨(fun x h => by cases h), List.nodup_nil, List.nodup_nil, ?_⟩
        intro s
        constructor
        · intro h; cases h
        · rintro ⟨x, h1, _, h3⟩
          exact absurd (h3.trans e) (hno x h1)
      · exact hg.it i l c h
theorem put_ok {g : G} (hg : GOk g) (a : Adr) : GOk (putG g a).2 := by
  unfold putG
  split
  · rename_i hv
    cases hm : mget g.d (.s a.door) with
    | some y => exact hg
    | none =>
      dsimp only
      split
      · exact hg
      · obtain ⟨h1, h2, h3, h4⟩ := with_ok hg hv.2
        dsimp only
        generalize withCell g a.p = g1 at h1 h2 h3 h4
        have hnk : MKey.s a.door ∉ g1.d.map (·.1) := by rw [h2]; exact mget_none.1 hm
        obtain ⟨q, hq⟩ := Option.isSome_iff_exists.1 h4
        obtain ⟨il, ic⟩ := q
        have hit := h1.it _ _ _ hq
        rw [mset_new h1.dt]
        have hnl : MKey.s a.door ∉ il.map (·.1) := by
          intro h
          obtain ⟨x, hx1, hx2, _⟩ := (hit.2.2.2 _).1 h
          exact hnk (List.mem_map.2 ⟨x, hx1, hx2⟩)
        have hadd : addIn a.door (g1.f (cellN a.p)) = some (il ++ [(.s a.door, true, ic)], ic + 1) := by
          rw [hq]
          simp only [addIn, mset_new hit.1]
        have hsome : ∀ i, (g1.f i).isSome = true → (if i = cellN a.p then addIn a.door (g1.f i) else g1.f i).isSome = true := by
          intro i h
          split
          · rename_i e
            rw [e, hadd]
            rfl
          · exact h
        refine ⟨?_, ?_, ?_, h1.ct, ?_, ?_, ?_, ?_⟩
        · intro x hx
          show x.2.2 < g1.dc + 1
          rcases List.mem_append.1 hx with h | h
          · have := h1.dt x h
            omega
          · simp at h
            subst h
            exact Nat.lt_succ_self _
        · show ((g1.d ++ [(MKey.s a.door, a.p, g1.dc)]).map (·.1)).Nodup
          rw [List.map_append]
          exact nodup_app h1.dk hnk
        · intro x hx
          rcases List.mem_append.1 hx with h | h
          · exact h1.dv x h
          · simp at h
            subst h
            exact ⟨⟨_, rfl⟩, hv.2⟩
        · intro k v t h
          obtain ⟨p', k1, k2, k3, k4⟩ := h1.ck k v t h
          exact ⟨p', k1, k2, k3, hsome _ k4⟩
        · intro p hp h
          have := h1.cn p hp h
          dsimp only
          rw [if_neg (fun e => by rw [e, hq] at this; cases this)]
          exact this
        · intro x hx
          rcases List.mem_append.1 hx with h | h
          · exact hsome _ (h1.ix x h)
          · simp at h
            subst h
            exact hsome _ h4
        · intro i l c h
          dsimp only at h
          by_cases e : i = cellN a.p
          · rw [if_pos e, e, hadd] at h
            cases h
            refine ⟨?_, ?_, ?_, ?_⟩
            · intro x hx
              rcases List.mem_append.1 hx with h | h
              · have := hit.1 x h
                omega
              · simp at h
                subst h
                exact Nat.lt_succ_self _
            · rw [List.map_append]
              refine nodup_app hit.2.1 ?_
              intro h
              obtain ⟨y, hy1, hy2⟩ := List.mem_map.1 h
              have := hit.1 y hy1
              dsimp only at hy2
              omega
            · rw [List.map_append]
              exact nodup_app hit.2.2.1 hnl
            · intro s
              rw [List.map_append, List.mem_append, hit.2.2.2 s]
              constructor
              · rintro (⟨x, k1, k2, k3⟩ | h)
                · exact ⟨x, List.mem_append_left _ k1, k2, k3.trans e.symm⟩
                · simp at h
                  exact ⟨(.s a.door, a.p, g1.dc), List.mem_append_right _ (List.mem_cons_self ..), h.symm, e.symm⟩
              · rintro ⟨x, k1, k2, k3⟩
                rcases List.mem_append.1 k1 with h | h
                · exact .inl ⟨x, h, k2, k3.trans e⟩
                · simp at h
                  subst h
                  right
                  simp
                  exact k2.symm
          · rw [if_neg e] at h
            have := h1.it i l c h
            refine ⟨this.1, this.2.1, this.2.2.1, fun s => ?_⟩
            rw [this.2.2.2 s]
            constructor
            · rintro ⟨x, k1, k2, k3⟩
              exact ⟨x, List.mem_append_left _ k1, k2, k3⟩
            · rintro ⟨x, k1, k2, k3⟩
              rcases List.mem_append.1 k1 with h | h
              · exact ⟨x, h, k2, k3⟩
              · simp at h
                subst h
                exact absurd k3.symm e
  · exact hg
theorem mdel_mem {V : Type} {k : MKey} : ∀ {l : List (MKey × V × Nat)} {x}, (l.map (·.1)).Nodup → (x ∈ mdel l k ↔ x ∈ l ∧ x.1 ≠ k) := by
  intro l
  induction l with
  | nil => intro x _; simp [mdel]
  | cons y r ih =>
    intro x hn
    simp only [List.map_cons, List.nodup_cons] at hn
    simp only [mdel]
    by_cases e : y.1 = k
    · rw [if_pos e]
      constructor
      · intro h
        exact ⟨List.mem_cons_of_mem _ h, fun e' => hn.1 (by rw [e, ← e']; exact List.mem_map.2 ⟨x, h, rfl⟩)⟩
      · rintro ⟨h, hne⟩
        rcases List.mem_cons.1 h with h | h
        · subst h; exact absurd e hne
        · exact h
    · rw [if_neg e, List.mem_cons, List.mem_cons, ih hn.2]
      constructor
      · rintro (h | ⟨h1, h2⟩)
        · subst h; exact ⟨.inl rfl, e⟩
        · exact ⟨.inr h1, h2⟩
      · rintro ⟨h | h, h2⟩
        · exact .inl h
        · exact .inr ⟨h, h2⟩
theorem mdel_sub {V : Type} {k : MKey} : ∀ {l : List (MKey × V × Nat)}, (mdel l k).Sublist l := by
  intro l
  induction l with
  | nil => exact List.Sublist.refl _
  | cons y r ih =>
    simp only [mdel]
    split
    · exact List.sublist_cons_self ..
    · exact List.Sublist.cons_cons _ ih
theorem nodup_key {V : Type} : ∀ {l : List (MKey × V × Nat)} {x y : MKey × V × Nat}, (l.map (·.1)).Nodup → x ∈ l → y ∈ l → x.1 = y.1 → x = y := by
  intro l
  induction l with
  | nil => intro x y _ h; cases h
  | cons z r ih =>
    intro x y hn hx hy e
    simp only [List.map_cons, List.nodup_cons] at hn
    rcases List.mem_cons.1 hx with h1 | h1
    · rcases List.mem_cons.1 hy with h2 | h2
      · rw [h1, h2]
      · subst h1; exact (hn.1 (List.mem_map.2 ⟨y, h2, e.symm⟩)).elim
    · rcases List.mem_cons.1 hy with h2 | h2
      · subst h2; exact (hn.1 (List.mem_map.2 ⟨x, h1, e⟩)).elim
      · exact ih hn.2 h1 h2 e
theorem drop_ok {g : G} (hg : GOk g) (s : List UInt8) : GOk (dropG g s).2 := by
  unfold dropG
  cases hm : mget g.d (.s s) with
  | none => exact hg
  | some y =>
    obtain ⟨p, t⟩ := y
    have hmem := mget_mem hm
    have hsub : ∀ x ∈ mdel g.d (.s s), x ∈ g.d := fun x hx => mdel_sub.subset hx
    have hsome : ∀ i, (g.f i).isSome = true → (if i = cellN p then delIn s (g.f i) else g.f i).isSome = true := by
      intro i h
      obtain ⟨q, hq⟩ := Option.isSome_iff_exists.1 h
      split
      · rw [hq]; rfl
      · exact h
    refine ⟨fun x hx => hg.dt x (hsub x hx), (hg.dk.sublist (mdel_sub.map _)), fun x hx => hg.dv x (hsub x hx), hg.ct, ?_, ?_, fun x hx => hsome _ (hg.ix x (hsub x hx)), ?_⟩
    · intro k v t h
      obtain ⟨p', k1, k2, k3, k4⟩ := hg.ck k v t h
      exact ⟨p', k1, k2, k3, hsome _ k4⟩
    · intro q hq h
      have := hg.cn q hq h
      dsimp only
      split
      · rw [this]; rfl
      · exact this
    · intro i l c h
      dsimp only at h
      by_cases e : i = cellN p
      · rw [if_pos e] at h
        cases hq : g.f i with
        | none => rw [hq] at h; cases h
        | some q =>
          obtain ⟨l0, c0⟩ := q
          rw [hq] at h
          cases h
          obtain ⟨k1, k2, k3, k4⟩ := hg.it _ _ _ hq
          refine ⟨fun x hx => k1 x (mdel_sub.subset hx), k2.sublist (mdel_sub.map _), k3.sublist (mdel_sub.map _), fun s' => ?_⟩
          have hk : s' ∈ (mdel l0 (.s s)).map (·.1) ↔ s' ∈ l0.map (·.1) ∧ s' ≠ .s s := by
            constructor
            · intro h
              obtain ⟨x, hx, rfl⟩ := List.mem_map.1 h
              have := (mdel_mem k3).1 hx
              exact ⟨List.mem_map.2 ⟨x, this.1, rfl⟩, this.2⟩
            · rintro ⟨h, hne⟩
              obtain ⟨x, hx, rfl⟩ := List.mem_map.1 h
              exact List.mem_map.2 ⟨x, (mdel_mem k3).2 ⟨hx, hne⟩, rfl⟩
          rw [hk, k4 s']
          constructor
          · rintro ⟨⟨x, h1, h2, h3⟩, hne⟩
            exact ⟨x, (mdel_mem hg.dk).2 ⟨h1, by rw [h2]; exact hne⟩, h2, h3⟩
          · rintro ⟨x, h1, h2, h3⟩
            have := (mdel_mem hg.dk).1 h1
            exact ⟨⟨x, this.1, h2, h3⟩, by rw [← h2]; exact this.2⟩
      · rw [if_neg e] at h
        obtain ⟨k1, k2, k3, k4⟩ := hg.it _ _ _ h
        refine ⟨k1, k2, k3, fun s' => ?_⟩
        rw [k4 s']
        constructor
        · rintro ⟨x, h1, h2, h3⟩
          refine ⟨x, (mdel_mem hg.dk).2 ⟨h1, ?_⟩, h2, h3⟩
          intro e'
          have : x = (.s s, p, t) := by
            have hnd := hg.dk
            exact nodup_key hnd h1 hmem e'
          rw [this] at h3
          exact e h3.symm
        · rintro ⟨x, h1, h2, h3⟩
          exact ⟨x, (hsub x h1), h2, h3⟩
end R7
