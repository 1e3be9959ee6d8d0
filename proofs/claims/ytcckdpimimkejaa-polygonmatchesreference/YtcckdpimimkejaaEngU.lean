/- The engine, part 13b: ranges over functions: contexts; marks among the deferred calls; records let go. -/
import Derived.Test.YtcckdpimimkejaaEngM
namespace Go.Eng
open Go Go.RowKit
variable {P : Program}

theorem famIds_mem {f : Nat → HObj} {h : Nat} : ∀ {hp : List (Nat × HObj)}, get? hp h = some (.fam f) → h ∈ famIds hp := by
  intro hp
  induction hp with
  | nil => intro e; cases e
  | cons p r ih =>
    obtain ⟨n, o⟩ := p
    intro e
    rw [get?_cons] at e
    by_cases hn : n = h
    · rw [if_pos hn] at e
      cases e
      simp [famIds, hn]
    · rw [if_neg hn] at e
      have := ih e
      cases o <;> simp [famIds, this]

/-- Another context for the same store. -/
theorem HepAt.to {C C' : Ctx} {μ : Nat → Option (Nat × Nat)} {hp : List (Nat × HObj)} {nx : Nat} {w : World} (h : HepAt C μ hp nx w) (h1 : C'.w0 = C.w0) (h2 : C'.T = C.T) (h3 : C'.U0 = C.U0) (hH : ∀ l p o, C.H l p o → C'.H l p o)
    (hp' : ∀ id p, C'.pin id = some p → μ id = some p) : HepAt C' μ hp nx w ∧ (envOf C μ hp w).Le (envOf C' μ hp w) := by
  have hU : ∀ b, Ufor C μ hp w b → Ufor C' μ hp w b := by
    rintro b ⟨a1, a2, a3, a4⟩
    exact ⟨a1, by unfold Ctx.B at *; rw [h1, h2, h3]; exact a2, a3, a4⟩
  have hE : (envOf C μ hp w).Le (envOf C' μ hp w) := ⟨⟨⟨hU, fun _ _ => rfl⟩, fun _ _ e => e⟩, Kd.refl _, hH⟩
  refine ⟨⟨⟨h.obj.keys, ?_⟩, h.inj, ?_, h.keys, h.nx, h.fam, hp', ?_⟩, hE⟩
  · intro id o ho
    obtain ⟨b, c, x, e1, e2, e3⟩ := h.obj.obj id o ho
    exact ⟨b, c, x, e1, e2, e3.mono hE⟩
  · intro id o b c g e
    rw [h1, h2]
    exact h.mine id o b c g e
  · rw [h1, h2]; exact h.frm

/-! ### The marks of ranges over functions are run -/
structure Shut (base w w' : World) : Prop where
  os : w'.os = w.os
  tape : w'.tape = w.tape
  output : w'.output = w.output
  size : w'.heap.size = w.heap.size
  block : ∀ b, b < base.heap.size → w'.heap[b]? = w.heap[b]?
  plain : ∀ b, Plain w b → w'.heap[b]? = w.heap[b]?
  drawn : w.drawn ≤ w'.drawn

theorem Shut.refl (base w : World) : Shut base w w := ⟨rfl, rfl, rfl, rfl, fun _ _ => rfl, fun _ _ => rfl, Nat.le_refl _⟩
theorem Shut.trans {base a b c : World} (h : Shut base a b) (k : Shut base b c) : Shut base a c :=
  ⟨k.os.trans h.os, k.tape.trans h.tape, k.output.trans h.output, k.size.trans h.size, fun i hi => (k.block i hi).trans (h.block i hi),
    fun i hi => (k.plain i (fun ds e => hi ds ((h.plain i hi).symm.trans e))).trans (h.plain i hi), Nat.le_trans h.drawn k.drawn⟩

theorem leavesM {fn : Func} {tmps : Array Value} {R : Ending → World → Prop} {base : World} : ∀ (ds : List Deferred) (w : World), DfOk base w ds →
    (∀ w', Shut base w w' → ∃ v, (results fn tmps).run P w' = .ok v w' ∧ R (.returned v) w') → LeavesInM Fence.wide 0 P fn tmps R ds .returning w := by
  intro ds
  induction ds with
  | nil => intro w _ h; exact h w (.refl _ _)
  | cons d ds ih =>
    intro w hd h
    obtain ⟨D, rfl, hD, hk⟩ := hd.2 d (List.mem_cons_self ..)
    refine ⟨by simp, .inl ⟨D, _, rfl, run_takeDeferred hk, ?_⟩⟩
    have hsh : Shut base w (w.putObj D (.deferred none)) := by
      refine ⟨rfl, rfl, rfl, by simp, fun b hb => World.putObj_heap_other (by omega), fun b hb => World.putObj_heap_other ?_, Nat.le_refl _⟩
      rintro rfl
      exact hb _ hk
    refine ih _ ⟨(List.pairwise_cons.1 hd.1).2, ?_⟩ fun w' hw' => h w' (hsh.trans hw')
    intro d' hd'
    obtain ⟨D', e1, e2, e3⟩ := hd.2 d' (List.mem_cons_of_mem _ hd')
    refine ⟨D', e1, e2, (World.putObj_heap_other ?_).trans e3⟩
    rintro rfl
    have := (List.pairwise_cons.1 hd.1).1 d' hd'
    rw [e1] at this
    exact this rfl

theorem HepAt.shut {C : Ctx} {μ : Nat → Option (Nat × Nat)} {hp : List (Nat × HObj)} {nx : Nat} {base w w' : World} (h : HepAt C μ hp nx w) (hs : Shut base w w') (hb : C.w0.heap.size ≤ base.heap.size) :
    HepAt C μ hp nx w' ∧ (envOf C μ hp w).LeR (envOf C μ hp w') := by
  have hE : (envOf C μ hp w).LeR (envOf C μ hp w') := by
    refine ⟨⟨?_, fun b hb => hs.plain b hb.2.2.2⟩, fun _ _ e => e⟩
    rintro b ⟨a1, a2, a3, a4⟩
    exact ⟨by rw [hs.size]; exact a1, a2, a3, fun ds e => a4 ds ((hs.plain b a4).symm.trans e)⟩
  have mono : ∀ {o : HObj} {c : Nat} {x : Obj}, HR (envOf C μ hp w) o c x → HR (envOf C μ hp w') o c x := by
    intro o c x k
    cases o with
    | cells T l => obtain ⟨cs, h1, h2⟩ := k; exact ⟨cs, h1, R_monoR hE h2⟩
    | arr T sz len enc =>
      obtain ⟨cs, h1, h2, h3, h4⟩ := k
      refine ⟨cs, h1, h2, h3, fun i hi => ?_⟩
      obtain ⟨xs, a, b, c⟩ := h4 i hi
      exact ⟨xs, R_monoR hE a, b, c⟩
    | obj o' => exact k
    | hid lab pd => exact k
    | map V kk l clock ev iv =>
      obtain ⟨h0, es, h1, h2⟩ := k
      refine ⟨h0, es, h1, ?_⟩
      clear h0 h1
      induction l generalizing es with
      | nil => exact h2
      | cons x r ih =>
        obtain ⟨e, t, h1, h2, h3, h4, h5⟩ := h2
        exact ⟨e, t, h1, h2, R_monoR hE h3, h4, ih t h5⟩
    | iter src since seen last => obtain ⟨r, h1, h2⟩ := k; exact ⟨r, R_monoR hE h1, h2⟩
    | fam f => exact k
    | gone => exact k
  refine ⟨⟨⟨h.obj.keys, ?_⟩, h.inj, h.mine, h.keys, h.nx, h.fam, h.pin, ?_⟩, hE⟩
  · intro id o ho
    obtain ⟨b, c, x, e1, e2, e3⟩ := h.obj.obj id o ho
    exact ⟨b, c, x, e1, (hs.plain b (h.obj.plain ho e1)).trans e2, mono e3⟩
  · exact ⟨hs.os.trans h.frm.os, hs.tape.trans h.frm.tape, hs.output.trans h.frm.output, by rw [hs.size]; exact h.frm.size,
      fun b hb' ht => (hs.block b (Nat.lt_of_lt_of_le hb' hb)).trans (h.frm.block b hb' ht), Nat.le_trans h.frm.drawn hs.drawn⟩

theorem calls_marks {f : FuncId} {fn : Func} {cg : Code} {args : Array Value} {w : World} {RR : Ending → World → Prop} {Q : Exit → Act → World → Prop} (hf : P.funcs[f]? = some fn) (hb : fn.body = some cg)
    (hwp : cg.wpIn (WF none) 0 P Q { tmps := args ++ Array.replicate (fn.ntmps - args.size) undef, defers := [] } w)
    (hQ : ∀ e a' w', Q e a' w' → (e = .normal ∨ e = .ret) ∧ ∃ base, DfOk base w' a'.defers ∧ ∀ w'', Shut base w' w'' → ∃ v, (results fn a'.tmps).run P w'' = .ok v w'' ∧ RR (.returned v) w'') :
    Calls P f args w RR := by
  refine callsIn_wide.1 (callsIn_of_wp_marks (n := 0) hf hb trivial (wpIn_mono hwp ?_))
  intro e a' w' hq
  obtain ⟨he, base, h1, h2⟩ := hQ e a' w' hq
  rcases he with rfl | rfl
  · exact leavesM _ _ h1 h2
  · exact leavesM _ _ h1 h2

/-! ### A record is let go -/
theorem noHid_get {d : Nat} : ∀ {hp : List (Nat × HObj)}, noHid d hp = true → ∀ n l p, get? hp n = some (.hid l p) → l < d := by
  intro hp
  induction hp with
  | nil => intro _ n l p e; cases e
  | cons q r ih =>
    obtain ⟨m, o⟩ := q
    intro h n l p e
    rw [get?_cons] at e
    by_cases hm : m = n
    · rw [if_pos hm] at e
      cases e
      simp only [noHid] at h
      cases hb : Nat.blt l d with
      | false => simp [hb] at h
      | true => exact Nat.le_of_ble_eq_true (n := l + 1) hb
    · rw [if_neg hm] at e
      refine ih ?_ n l p e
      cases o <;> first
        | exact h
        | (simp only [noHid] at h
           split at h
           all_goals first
             | exact h
             | skip
           rename_i a b
           cases hb : Nat.blt a d with
           | false => simp [hb] at h
           | true => simpa [hb] using h)
        | (simp only [noHid] at h
           rename_i a b
           cases hb : Nat.blt a d with
           | false => simp [hb] at h
           | true => simpa [hb] using h)

theorem hget_hid {hp : List (Nat × HObj)} {n l p : Nat} (h : hget hp n = some (.hid l p)) : n < FB ∧ get? hp n = some (.hid l p) := by
  by_cases hn : n < FB
  · rw [hget_low hn] at h
    simp only [Option.bind_eq_some_iff] at h
    obtain ⟨o, h1, h2⟩ := h
    have := solid?_self h2
    subst this
    exact ⟨hn, h1⟩
  · simp only [hget, hn, if_false] at h
    split at h
    · rename_i f hf
      have h1 := solid?_self (solidF?_solid h)
      rw [← h1] at h
      cases h
    · cases h

theorem HepAt.dropRec {C C' : Ctx} {μ : Nat → Option (Nat × Nat)} {hp : List (Nat × HObj)} {nx k : Nat} {w : World} (h : HepAt C' μ hp nx w) (h1 : C'.w0 = C.w0) (h2 : C'.T = C.T) (h3 : C'.U0 = C.U0)
    (hH : ∀ l p o, l < C.dep → C'.H l p o → C.H l p o) (hp' : ∀ id p, C.pin id = some p → μ id = some p) {l0 p0 : Nat} (hg : get? hp k = some (.hid l0 p0)) (hn : noHid C.dep (drop? hp k) = true) :
    HepAt C μ (drop? hp k) nx w ∧ (envOf C' μ hp w).LeR (envOf C μ (drop? hp k) w) := by
  have hk := h.obj.keys _ _ hg
  have hd := hget_drop hk (fun f e => by rw [hg] at e; cases e)
  have hB : ∀ b, C'.B b → C.B b := fun b hb => by unfold Ctx.B at *; rw [h1, h2, h3] at hb; exact hb
  have hE : (envOf C' μ hp w).LeR (envOf C μ (drop? hp k) w) := by
    refine ⟨⟨?_, fun _ _ => rfl⟩, fun _ _ e => e⟩
    rintro b ⟨a1, a2, a3, a4⟩
    refine ⟨a1, hB b a2, ?_, a4⟩
    intro id o c ho
    rw [hd] at ho
    split at ho
    · cases ho
    · exact a3 id o c ho
  have old : ∀ {id : Nat} {o : HObj}, hget (drop? hp k) id = some o → id ≠ k ∧ hget hp id = some o := by
    intro id o ho
    rw [hd] at ho
    split at ho
    · cases ho
    · rename_i hne; exact ⟨hne, ho⟩
  have kold : ∀ {id : Nat} {o : HObj}, get? (drop? hp k) id = some o → get? hp id = some o := by
    intro id o ho
    rw [get?_drop] at ho
    split at ho
    · cases ho
    · exact ho
  have mono : ∀ {o : HObj} {c : Nat} {x : Obj}, (∀ l p, o = .hid l p → l < C.dep) → HR (envOf C' μ hp w) o c x → HR (envOf C μ (drop? hp k) w) o c x := by
    intro o c x hl k
    cases o with
    | cells T l => obtain ⟨cs, h1, h2⟩ := k; exact ⟨cs, h1, R_monoR hE h2⟩
    | arr T sz len enc =>
      obtain ⟨cs, h1, h2, h3, h4⟩ := k
      refine ⟨cs, h1, h2, h3, fun i hi => ?_⟩
      obtain ⟨xs, a, b, c⟩ := h4 i hi
      exact ⟨xs, R_monoR hE a, b, c⟩
    | obj o' => exact k
    | hid lab pd => exact hH _ _ _ (hl _ _ rfl) k
    | map V kk l clock ev iv =>
      obtain ⟨h0, es, h1, h2⟩ := k
      refine ⟨h0, es, h1, ?_⟩
      clear h0 h1
      clear hl
      induction l generalizing es with
      | nil => exact h2
      | cons x r ih =>
        obtain ⟨e, t, h1, h2, h3, h4, h5⟩ := h2
        exact ⟨e, t, h1, h2, R_monoR hE h3, h4, ih t h5⟩
    | iter src since seen last => obtain ⟨r, h1, h2⟩ := k; exact ⟨r, R_monoR hE h1, h2⟩
    | fam f => exact k
    | gone => exact k
  refine ⟨⟨⟨fun id o e => h.obj.keys _ _ (kold e), ?_⟩, ?_, ?_, fun id o e => h.keys _ _ (kold e), h.nx, ?_, hp', ?_⟩, hE⟩
  · intro id o ho
    obtain ⟨b, c, x, e1, e2, e3⟩ := h.obj.obj id o (old ho).2
    refine ⟨b, c, x, e1, e2, mono ?_ e3⟩
    rintro l p rfl
    exact noHid_get hn id l p (hget_hid ho).2
  · intro id id' o o' b c c' g g' e e'
    exact h.inj _ _ _ _ _ _ _ (old g).2 (old g').2 e e'
  · intro id o b c g e
    rw [← h1, ← h2]
    exact h.mine _ _ _ _ (old g).2 e
  · intro id p e hge
    obtain ⟨o, ho⟩ := h.fam id p e hge
    refine ⟨o, ?_⟩
    rw [hd, if_neg (by omega)]
    exact ho
  · rw [← h1, ← h2]; exact h.frm

/-! ### What is yielded -/
theorem R_cons_inv {E : Env} {h t : SV} {vs : List Value} (hr : R E (.cons h t) vs) : ∃ v r, vs = v :: r ∧ R E h [v] ∧ R E t r := by simpa only [R] using hr

theorem setPs_sound {E : Env} {n : Nat} {k : List (Nat × SV) → Prop} : ∀ (ps : List Nat) (args : SV) (fr : List (Nat × SV)) (vs : List Value) (t : Array Value), t.size = n → allLt n ps = true → R E args vs → LabOk fr [] →
    (∀ s, SlotR E t (look fr s) (t.getD s undef)) → setPs ps args fr k →
    ∃ fr1, k fr1 ∧ LabOk fr1 [] ∧ vs.length = ps.length ∧ ((ps.zip vs).foldl (fun t p => t.setIfInBounds p.1 p.2) t).size = n ∧
      ∀ s, SlotR E ((ps.zip vs).foldl (fun t p => t.setIfInBounds p.1 p.2) t) (look fr1 s) (((ps.zip vs).foldl (fun t p => t.setIfInBounds p.1 p.2) t).getD s undef) := by
  intro ps
  induction ps with
  | nil =>
    intro args fr vs t hs _ hr hl hf h
    cases args <;> simp only [setPs] at h <;> try exact h.elim
    simp only [R] at hr
    subst hr
    exact ⟨fr, h, hl, rfl, hs, hf⟩
  | cons p r ih =>
    intro args fr vs t hs hp hr hl hf h
    cases args <;> simp only [setPs, forceSV, forceS_eq] at h <;> try exact h.elim
    rename_i x y
    obtain ⟨v, vr, rfl, r1, r2⟩ := R_cons_inv hr
    have hpn : p < n ∧ allLt n r = true := by
      simp only [allLt] at hp
      cases hb : Nat.blt p n with
      | false => simp [hb] at hp
      | true => exact ⟨Nat.le_of_ble_eq_true (n := p + 1) hb, by simpa [hb] using hp⟩
    split at h
    · exact h.elim
    · rename_i hng
      have hl' : LabOk ((p, x) :: fr) [] := hl.cons (fun d w y e => absurd e (hng d w y))
      obtain ⟨fr1, k1, k2, k3, k4, k5⟩ := ih y ((p, x) :: fr) vr (t.setIfInBounds p v) (by simpa using hs) hpn.2 r2 hl' (by
        intro s
        rw [look_cons]
        by_cases hn : p = s
        · subst hn
          rw [if_pos rfl, getD_set_same _ _ _ (by omega)]
          exact R_slot r1 hng
        · rw [if_neg hn, getD_set_other _ _ _ _ (Ne.symm hn)]
          exact SlotR_put (lab := []) rfl (fun d' w y e => hl s d' w y e) (hf s)) h
      exact ⟨fr1, k1, k2, by simp [k3], k4, k5⟩
end Go.Eng
