/- The engine, part 13c: code is what its evaluation says. -/
import Derived.Test.YtcckdpimimkejaaEngU
namespace Go.Eng
open Go Go.RowKit
variable {P : Program}

theorem argFr_rep {E : Env} {t : Array Value} : ∀ {args : SV} {vs : List Value} (n : Nat), R E args vs → ∀ s, SlotR E t (look (argFr args n) s) (if n ≤ s then vs.getD (s - n) undef else undef) ∨ look (argFr args n) s = .junk := by
  intro args
  induction args with
  | cons h r _ ihr =>
    intro vs n hR s
    simp only [R] at hR
    obtain ⟨v, xs, rfl, h1, h2⟩ := hR
    simp only [argFr]
    rw [look_cons]
    split
    · rename_i e
      subst e
      refine .inl ?_
      simp only [Nat.le_refl, if_true, Nat.sub_self, List.getD_cons_zero]
      cases h with
      | gd d w x => exact ⟨v, rfl⟩
      | _ => exact h1
    · rename_i hne
      rcases ihr (n + 1) h2 s with h3 | h3
      · by_cases hs : n + 1 ≤ s
        · refine .inl ?_
          have e1 : n ≤ s := by omega
          have e2 : s - n = (s - (n + 1)) + 1 := by omega
          rw [if_pos hs] at h3
          rw [if_pos e1, e2, List.getD_cons_succ]
          exact h3
        · refine .inl ?_
          have e1 : ¬ n ≤ s := by omega
          rw [if_neg hs] at h3
          rw [if_neg e1]
          exact h3
      · exact .inr h3
  | _ => intro vs n _ s; exact .inr rfl

theorem argFr_lab : ∀ (args : SV) (n : Nat), LabOk (argFr args n) [] := by
  intro args
  induction args with
  | cons h r _ ihr =>
    intro n s d w x e
    simp only [argFr] at e
    rw [look_cons] at e
    split at e
    · cases h <;> simp [unlab, labEq] at e
    · exact ihr _ _ _ _ _ e
  | _ => intro n s d w x e; simp [argFr, look, get?] at e

theorem argsOk_len {E : Env} : ∀ {args : SV} {n : Nat} {vs : List Value}, argsOk args n → R E args vs → vs.length ≤ n := by
  intro args
  induction args with
  | nil => intro n vs _ h; simp only [R] at h; subst h; simp
  | cons h r _ ihr =>
    intro n vs ho hR
    cases n with
    | zero => exact ho.elim
    | succ n =>
      simp only [R] at hR
      obtain ⟨v, xs, rfl, _, h2⟩ := hR
      simp only [List.length_cons]
      have := ihr (n := n) ho h2
      omega
  | _ => intro n vs ho; cases n <;> exact ho.elim

/-- What is asked of a context. -/
structure CtxOk (P : Program) (C : Ctx) (ro : Option Nat) (T : Tb) : Prop where
  pin : PinOk C
  tb : TbOk P C T
  base : C.w0.heap.size ≤ C.R0.w.heap.size
  ro : ∀ l, ro = some l → ∃ r, C.R0.w.heap[l]? = some (.loop r)

def SoundAt (P : Program) (n : Nat) (c : Code) (sc : SCode) : Prop :=
  ∀ (C : Ctx) (ro : Option Nat) (T : Tb) (st : St) (a : Act) (w : World) (K : SExit → St → Prop) (Q : Exit → Act → World → Prop), C.n = n → CtxOk P C ro T →
    (∀ e st a w, K e st → Stands C st a w → Q (exitOf e) a w) → Stands C st a w → evC sc T st K → c.wpIn (WF ro) 0 P Q a w

/-! ### Rounds -/
/-- The round of a range over a function. -/
def rangeH (T : Tb) (ps : List Nat) (asgn body : SCode) (fr : List (Nat × SV)) : Handler := fun id np bnd dep args hp' nx' K =>
  match get? hp' id with
  | some (.hid l 0) => bif Nat.beq l T.dep then
      setPs ps args fr fun fr1 => evC asgn ⟨T.fs, T.ys, np, bnd, dep⟩ ⟨fr1, hp', nx'⟩ fun e st1 =>
        match e with
        | .normal => match st1 with
          | ⟨fr2, hp2, nx2⟩ => match get? hp2 id with
            | some (.hid l 0) => bif Nat.beq l T.dep then
                putK hp2 id (.hid T.dep 1) fun hp3 => evC body ⟨T.fs, T.ys, np, bnd, dep⟩ ⟨fr2, hp3, nx2⟩ fun e st2 =>
                  match st2 with
                  | ⟨_, hp4, nx4⟩ => match get? hp4 id with
                    | some (.hid l 1) => bif Nat.beq l T.dep then putK hp4 id (.hid T.dep (pdOf e)) fun hp5 => K (goesOn e) hp5 nx4 else False
                    | _ => False
              else False
            | _ => False
        | _ => False
    else False
  | _ => False

/-- What a record is like: ready; in a round; left by a return; left by an exit. -/
def recOk (r : Loop) (pd : Nat) (o : Obj) : Prop :=
  match pd with
  | 0 => o = .loop { r with state := .ready, pending := none }
  | 1 => ∃ s p, o = .loop { r with state := s, pending := p }
  | 2 => o = .loop { r with state := .done, pending := some .ret }
  | n + 3 => o = .loop { r with state := .done, pending := some (.exit n) }
theorem recOk_loop {r : Loop} {pd : Nat} {o : Obj} (h : recOk r pd o) : ∃ r', o = .loop r' := by
  unfold recOk at h
  split at h
  · exact ⟨_, h⟩
  · obtain ⟨_, _, h⟩ := h; exact ⟨_, h⟩
  · exact ⟨_, h⟩
  · exact ⟨_, h⟩
theorem recOk_any {r : Loop} {pd : Nat} {o : Obj} (h : recOk r pd o) : recOk r 1 o := by
  unfold recOk at h
  split at h
  · exact ⟨_, _, h⟩
  · exact h
  · exact ⟨_, _, h⟩
  · exact ⟨_, _, h⟩

def jumpOf : SExit → Option Code
  | .normal => none
  | .ret => some .ret
  | .exit id => some (.exit id)
theorem jump_none (e : SExit) : (jumpOf e).isNone = goesOn e := by cases e <;> rfl

theorem kd_put {w : World} {b : Nat} {r r' : Loop} (h : w.heap[b]? = some (.loop r)) : Kd w (w.putObj b (.loop r')) := by
  have hlt := (Array.getElem?_eq_some_iff.1 h).1
  refine ⟨by simp, fun k q e => ?_, fun k ds e => ?_⟩
  · by_cases hk : k = b
    · subst hk; exact ⟨_, World.putObj_heap_same hlt⟩
    · exact ⟨q, (World.putObj_heap_other hk).trans e⟩
  · by_cases hk : k = b
    · subst hk; rw [h] at e; cases e
    · exact (World.putObj_heap_other hk).trans e

/-- The record of a range is turned. -/
theorem HepAt.turn {C : Ctx} {μ : Nat → Option (Nat × Nat)} {hp : List (Nat × HObj)} {nx : Nat} {w : World} (h : HepAt C μ hp nx w) {id b c l p l' p' : Nat} {r r' : Loop} (hg : get? hp id = some (.hid l p)) (hm : μ id = some (b, c)) (hb : w.heap[b]? = some (.loop r))
    (hx : C.H l' p' (.loop r')) : (envOf C μ hp w).Le (envOf C μ (putH hp id (.hid l' p')) (w.putObj b (.loop r'))) ∧ HepAt C μ (putH hp id (.hid l' p')) nx (w.putObj b (.loop r')) := by
  have hlt := (Array.getElem?_eq_some_iff.1 hb).1
  exact h.writeK (hp' := putH hp id (.hid l' p')) (x := .hid l' p') (id := id) (b := b) (c := c) (o := .hid l p) (y := .loop r') (fun n => by rw [hget_putH]; exact hget_cons (h.obj.keys _ _ hg) rfl (fun f e => by rw [hg] at e; cases e) n) (putH_keys hg) (h.get hg rfl) hm
    (by simp) (fun k hk => World.putObj_heap_other hk) (World.putObj_heap_same hlt) rfl rfl rfl hx (kd_put hb)

theorem HepAt.recAt {C : Ctx} {μ : Nat → Option (Nat × Nat)} {hp : List (Nat × HObj)} {nx : Nat} {w : World} (h : HepAt C μ hp nx w) {id b c l p : Nat} (hg : get? hp id = some (.hid l p)) (hm : μ id = some (b, c)) : ∃ o, w.heap[b]? = some o ∧ C.H l p o := by
  obtain ⟨b', c', x, e1, e2, e3⟩ := h.obj.obj id _ (h.get hg rfl)
  have e1' : μ id = some (b', c') := e1
  rw [hm] at e1'
  cases e1'
  exact ⟨x, e2, e3⟩

theorem rangeH_ok {n : Nat} {asgn body : Code} {asgn' body' : SCode} (iha : SoundAt P n asgn asgn') (ihb : SoundAt P n body body') {C : Ctx} {ro : Option Nat} {T : Tb} (hC : CtxOk P C ro T) (hn : C.n = n) {fr : List (Nat × SV)} {a : Act} {μ : Nat → Option (Nat × Nat)} {hp : List (Nat × HObj)} {nx : Nat} {w : World}
    (h : RepAt C μ ⟨fr, hp, nx⟩ a w) (hlab : LabOk fr []) {C' : Ctx} (c1 : C'.w0 = C.w0) (c2 : C'.T = C.T) (c3 : C'.U0 = C.U0) (c4 : C'.dep = C.dep + 1) {rec : Loop} (c5 : ∀ l p o, l < C.dep → (C'.H l p o ↔ C.H l p o)) (c6 : ∀ p o, C'.H C.dep p o ↔ recOk rec p o)
    (c7 : (envOf C μ hp w).LeU C'.R0) (c8 : Kd w C'.R0.w) (c9 : ∀ id p, μ id = some p → C'.pin id = some p) (_c10 : w.heap.size ≤ C'.R0.w.heap.size) {ps : Array Tmp} (r1 : rec.tmps = a.tmps) (r2 : rec.params = ps) (r3 : rec.assign = asgn) (r4 : rec.body = body)
    (hps : allLt n ps.toList = true) : HandlerOk P C' C.dep (rangeH T ps.toList asgn' body' fr) := by
  intro C2 hx μ2 hp2 nx2 w2 id b c args vs K hh hle hkd hg hm hr hil he
  have hTd : T.dep = C.dep := hC.tb.dep
  have H2 : ∀ p o, C2.H C.dep p o ↔ recOk rec p o := fun p o => (hx.H C.dep p o (by omega)).trans (c6 p o)
  have cExt : C.Ext C' := ⟨c1, c2, c3, by omega, c5, h.le.trans c7, h.kd.trans c8, fun id p e => c9 id p (h.hep.pin id p e)⟩
  obtain ⟨o, ho, hHo⟩ := hh.recAt hg hm
  have ho' : o = .loop { rec with state := .ready, pending := none } := (H2 0 o).1 hHo
  subst ho'
  -- the caller's slots
  have hE : (envOf C μ hp w).LeR (envOf C2 μ2 hp2 w2) :=
    ⟨c7.trans (hx.R0.trans hle), fun id p e => hh.pin id p (hx.pin id p (c9 id p e))⟩
  have hfr : ∀ s, SlotR (envOf C2 μ2 hp2 w2) a.tmps (look fr s) (a.tmps.getD s undef) := by
    intro s
    have h1 := h.fr s
    have hng : ∀ d w x, look fr s ≠ .gd d w x := fun d w x e => by have := hlab s d w x e; simp [memN] at this
    have h2 : R (envOf C μ hp w) (look fr s) [a.tmps.getD s undef] := by
      cases hl : look fr s with
      | gd d w x => exact absurd hl (hng d w x)
      | _ => simp only [hl] at h1; exact h1
    exact R_slot (R_monoR hE h2) hng
  simp only [rangeH, hg, hTd, Nat.beq_refl, cond_true] at he
  obtain ⟨fr1, he1, hl1, hvs, hsz, hfr1⟩ := setPs_sound ps.toList args fr vs a.tmps (h.size.trans hn) hps hr hlab hfr he
  have hfold : ((ps.zip vs.toArray).foldl (fun tmps x => tmps.setIfInBounds x.1 x.2) a.tmps) = (ps.toList.zip vs).foldl (fun t p => t.setIfInBounds p.1 p.2) a.tmps := by
    rw [← Array.foldl_toList]
    simp
  have hy := run_yield (P := P) (args := vs.toArray) ho (by rw [r2]; simpa using hvs)
  refine ⟨rec.fn, _, rec.assign, rec.body, hy, ?_⟩
  simp only [r1, r2, r3, r4]
  rw [show (fun (tmps : Array Value) (x : Tmp × Value) => match x with | (t, a) => tmps.setIfInBounds t a) = fun tmps x => tmps.setIfInBounds x.1 x.2 from rfl, hfold]
  -- the rounds' context
  let C3 : Ctx := { C2 with n := n, np := famIds hp2, bnd := nx2, pin := μ2, R0 := envOf C2 μ2 hp2 w2 }
  let T3 : Tb := ⟨T.fs, T.ys, famIds hp2, nx2, C2.dep⟩
  have hh3 : HepAt C3 μ2 hp2 nx2 w2 := (hh.to (C' := C3) rfl rfl rfl (fun _ _ _ e => e) (fun _ _ e => e)).1
  have x3 : C2.Ext C3 := ⟨rfl, rfl, rfl, Nat.le_refl _, fun _ _ _ _ => Iff.rfl, hle, hkd, fun id p e => hh.pin id p e⟩
  have hro3 : ∀ l, some b = some l → ∃ r, C3.R0.w.heap[l]? = some (.loop r) := by
    intro l e
    cases e
    exact ⟨_, ho⟩
  have hC3 : CtxOk P C3 (some b) T3 := by
    refine ⟨?_, ⟨hC.tb.fs, ?_, rfl, rfl, rfl⟩, ?_, hro3⟩
    · intro id p e
      by_cases hlt : id < FB
      · exact .inr ⟨hh.nx id p e hlt, hlt⟩
      · left
        obtain ⟨o, ho⟩ := hh.fam id p e (Nat.not_lt.1 hlt)
        simp only [hget, hlt, if_false] at ho
        split at ho
        · rename_i f hf
          simp only [fbase, hlt, if_false]
          exact famIds_mem hf
        · cases ho
    · intro lab hd hys
      exact ((hC.tb.ys lab hd hys).ext cExt).ext (hx.trans x3)
    · show C2.w0.heap.size ≤ w2.heap.size
      exact hh.frm.size
  have rep1 : RepAt C3 μ2 ⟨fr1, hp2, nx2⟩ { tmps := (ps.toList.zip vs).foldl (fun t p => t.setIfInBounds p.1 p.2) a.tmps, defers := [] } w2 :=
    ⟨hsz, DfOk.nil _ _, hfr1, hh3, Env.LeU.refl _, Kd.refl _⟩
  refine roundIn_of_wpIn (F := Fence.wide) (n := 0) trivial ?_
  refine iha C3 (some b) T3 ⟨fr1, hp2, nx2⟩ _ w2 _ _ rfl hC3 ?_ ⟨⟨μ2, rep1⟩, hl1⟩ he1
  intro e st1 a1 w1 hk hs
  cases e with
  | exit _ => exact hk.elim
  | ret => exact hk.elim
  | normal =>
  obtain ⟨⟨μ3, h3⟩, hl3⟩ := hs
  obtain ⟨fr2, hp3, nx3⟩ := st1
  simp only at hk
  split at hk
  · rename_i l hg3
    cases hb1 : Nat.beq l C.dep with
    | false => simp [hb1] at hk
    | true =>
    have := nbeq hb1
    subst this
    simp only [hb1, cond_true, putK_eq] at hk
    have hm3 : μ3 id = some (b, c) := h3.hep.pin id _ hm
    obtain ⟨o3, ho3, hH3⟩ := h3.hep.recAt hg3 hm3
    have := (H2 0 o3).1 hH3
    simp only [recOk] at this
    subst this
    refine ⟨_, run_beginRound ho3 rfl, ?_⟩
    obtain ⟨hE4, hh4⟩ := h3.hep.turn (l' := C.dep) (p' := 1) (r' := { rec with state := .busy, pending := none }) hg3 hm3 ho3 ((H2 1 _).2 ⟨_, _, rfl⟩)
    have rep4 := h3.step hE4 hh4
    refine ihb C3 (some b) T3 ⟨fr2, putH hp3 id (.hid C.dep 1), nx3⟩ a1 _ _ _ rfl hC3 ?_ ⟨⟨μ3, rep4⟩, hl3⟩ hk
    intro e st2 a2 w4 hk2 hs2
    obtain ⟨⟨μ4, h4⟩, _⟩ := hs2
    obtain ⟨fr5, hp4, nx4⟩ := st2
    simp only at hk2
    split at hk2
    · rename_i l hg4
      cases hb2 : Nat.beq l C.dep with
      | false => simp [hb2] at hk2
      | true =>
      have := nbeq hb2
      subst this
      simp only [hb2, cond_true] at hk2
      have hm4 : μ4 id = some (b, c) := h4.hep.pin id _ hm
      obtain ⟨o4, ho4, hH4⟩ := h4.hep.recAt hg4 hm4
      obtain ⟨s4, p4, rfl⟩ := (H2 1 o4).1 hH4
      have hrec5 : C2.H C.dep (pdOf e) (.loop { rec with state := if (jumpOf e).isNone then .ready else .done, pending := jumpOf e }) := by
        rw [H2]
        cases e <;> rfl
      obtain ⟨hE5, hh5⟩ := h4.hep.turn (l' := C.dep) (p' := pdOf e) hg4 hm4 ho4 hrec5
      have hh5' : HepAt C2 μ4 (putH hp4 id (.hid C.dep (pdOf e))) nx4 _ := (hh5.to (C' := C2) rfl rfl rfl (fun _ _ _ e => e) (fun id p e => hh5.pin id p (hh.pin id p e))).1
      have fin : ∃ v w5, (Instr.endRound b (jumpOf e)).run P w4 = .ok v w5 ∧ ∃ bb hp' nx' μ', v = .bool bb ∧ K bb hp' nx' ∧ (envOf C2 μ2 hp2 w2).Le (envOf C2 μ' hp' w5) ∧ HepAt C2 μ' hp' nx' w5 := by
        refine ⟨_, _, run_endRound (jumpOf e) ho4, goesOn e, putH hp4 id (.hid C.dep (pdOf e)), nx4, μ4, by rw [jump_none], hk2, ?_, hh5'⟩
        exact ⟨⟨h4.le.trans hE5.toLeU, fun id p e => h4.hep.pin id p e⟩, h4.kd.trans hE5.kd, fun _ _ _ e => e⟩
      cases e <;> exact fin
    · exact hk2.elim
  · exact hk.elim

/-! ### Code -/
theorem sound_skip (n : Nat) : SoundAt P n .skip .skip := by
  intro C ro T st a w K Q _ _ hK h he
  exact wpIn_skip (hK _ _ _ _ he h)
theorem sound_exit (n id : Nat) : SoundAt P n (.exit id) (.exit id) := by
  intro C ro T st a w K Q _ _ hK h he
  exact wpIn_exit (hK _ _ _ _ he h)
theorem sound_ret (n : Nat) : SoundAt P n .ret .ret := by
  intro C ro T st a w K Q _ _ hK h he
  exact wpIn_ret (hK _ _ _ _ he h)
theorem sound_region {n : Nat} {G : List Nat} {id : Nat} {ops : Array Oper} {l : List SOper} (hl : cOpers P n ops.toList ops.toList = some l) : SoundAt P n (.region id ops false) (.region G l) := by
  intro C ro T st a w K Q hn hC hK h he
  obtain ⟨⟨μ, h⟩, hlab⟩ := h
  subst hn
  refine wpIn_region_list (evOs_sound (C := C) (ro := ro) hC.tb (K := fun st' => trimK st'.fr G fun fr => K .normal ⟨fr, st'.hp, st'.nx⟩) ?_ _ l [] μ st a w hl hlab h he)
  intro st' μ' a' w' hk h'
  obtain ⟨fr', hk', hlab', h''⟩ := trimK_sound h' G _ hk
  exact hK _ _ _ _ hk' ⟨⟨μ', h''⟩, hlab'⟩
theorem sound_drawn {n : Nat} {G : List Nat} {id : Nat} {hint : List Nat} {ops : Array Oper} {t : DTree} (hd : cDraw P n hint ops.toList = some t) : SoundAt P n (.region id ops true) (.drawn G t) := by
  intro C ro T st a w K Q hn hC hK h he
  obtain ⟨⟨μ, h⟩, hlab⟩ := h
  subst hn
  refine drawn_sound (C := C) (ro := ro) hC.tb hd hlab (K := fun st' => trimK st'.fr G fun fr => K .normal ⟨fr, st'.hp, st'.nx⟩) ?_ h he
  intro st' μ' a' w' hk h'
  obtain ⟨fr', hk', hlab', h''⟩ := trimK_sound h' G _ hk
  exact hK _ _ _ _ hk' ⟨⟨μ', h''⟩, hlab'⟩
theorem sound_drawnL {n : Nat} {G G' : List Nat} {id : Nat} {hint : List Nat} {ops : Array Oper} {t : DTree} {so : SOper} (hd : cDrawL P n hint ops.toList = some (t, so)) : SoundAt P n (.region id ops true) (.seq (.drawn G' t) (.region G [so])) := by
  intro C ro T st a w K Q hn hC hK h he
  obtain ⟨⟨μ, h⟩, hlab⟩ := h
  subst hn
  refine drawnL_sound (C := C) (ro := ro) hC.tb hd hlab (K0 := fun st' => trimK st'.fr G' fun fr => evOs T [so] [] ⟨fr, st'.hp, st'.nx⟩ fun st'' => trimK st''.fr G fun fr => K .normal ⟨fr, st''.hp, st''.nx⟩) (K := fun st' => trimK st'.fr G fun fr => K .normal ⟨fr, st'.hp, st'.nx⟩) ?_ ?_ h he
  · intro st' μ' a' w' hk h'
    obtain ⟨fr', hk', hlab', h''⟩ := trimK_sound h' G _ hk
    exact hK _ _ _ _ hk' ⟨⟨μ', h''⟩, hlab'⟩
  · intro st' μ' a' w' hk h'
    obtain ⟨fr', hk', hlab', h''⟩ := trimK_sound h' G' _ hk
    exact ⟨_, hlab', h'', hk'⟩
theorem sound_seq {n : Nat} {x y : Code} {x' y' : SCode} (ihx : SoundAt P n x x') (ihy : SoundAt P n y y') : SoundAt P n (.seq x y) (.seq x' y') := by
  intro C ro T st a w K Q hn hC hK h he
  refine wpIn_seq (ihx C ro T st a w _ _ hn hC ?_ h he)
  intro e st' a' w' hk h'
  cases e with
  | normal => exact ihy C ro T st' a' w' _ _ hn hC hK h' hk
  | exit id => exact hK _ _ _ _ hk h'
  | ret => exact hK _ _ _ _ hk h'
theorem sound_cond {n : Nat} {x : Operand} {y z : Code} {x' : SX} {y' z' : SCode} (hx : cX x = some x') (ihy : SoundAt P n y y') (ihz : SoundAt P n z z') : SoundAt P n (.cond x y z) (.cond x' y' z') := by
  intro C ro T st a w K Q hn hC hK h he
  have hv := h
  obtain ⟨⟨μ, hr⟩, hlab⟩ := h
  have hx := R_gx (E := envOf C μ st.hp w) (a := a) (fr := st.fr) (g := none) (fun _ _ e => by cases e) hr.fr hx
  simp only [evC] at he
  split at he
  · have : a.eval x = .bool true := by simpa [gx, CV.sv, R] using hx
    exact wpIn_cond_true this (ihy C ro T st a w K Q hn hC hK hv he)
  · have : a.eval x = .bool false := by simpa [gx, CV.sv, R] using hx
    exact wpIn_cond_false this (ihz C ro T st a w K Q hn hC hK hv he)
  · exact he.elim
  · rename_i n
    split at he
    · rename_i p hp
      have : a.eval x = .bool p := by simpa [gx, hp, unlab, R] using hx
      refine wpIn_cond this ?_
      cases p with
      | true => exact ihy C ro T st a w K Q hn hC hK hv (he.1 rfl)
      | false => exact ihz C ro T st a w K Q hn hC hK hv (he.2 rfl)
    · exact he.elim
theorem sound_join {n : Nat} {c : Code} {i : Nat} {asg : List Nat} {sc : SCode} (ih : SoundAt P n c sc) : SoundAt P n c (.join i asg sc) := by
  intro C ro T st a w K Q hn hC hK h he
  rw [evC] at he
  obtain ⟨V, h1, h2⟩ := he
  simp only [stF_eq] at h2
  refine ih C ro T st a w _ Q hn hC ?_ h h1
  intro e st' a' w' hk h'
  cases e with
  | normal =>
    obtain ⟨x, hI, hh⟩ := hk
    rcases det_headK T.bnd asg st (V.fr x) (V.hp x) with ⟨y, hy⟩ | hy
    · refine hK .normal y a' w' ((hy _).1 (h2 x hI)) ?_
      obtain ⟨⟨_, hr⟩, hl⟩ := h'
      have := (hy _).1 hh
      rw [hC.tb.np, hC.tb.bnd] at this
      exact subSt_sound hC.pin hr hl this
    · exact (hy _ hh).elim
  | exit id => exact hK _ _ _ _ hk h'
  | ret => exact hK _ _ _ _ hk h'
theorem sound_block {n id : Nat} {x : Code} {x' : SCode} (ih : SoundAt P n x x') : SoundAt P n (.block id x) (.block id x') := by
  intro C ro T st a w K Q hn hC hK h he
  refine wpIn_block (ih C ro T st a w _ _ hn hC ?_ h he)
  intro e st' a' w' hk h'
  cases e with
  | normal => exact hK _ _ _ _ hk h'
  | exit j =>
    simp only [exitOf, Exit.inBlock]
    simp only at hk
    cases hb : Nat.beq j id with
    | true =>
      rw [hb] at hk
      rw [if_pos (Nat.eq_of_beq_eq_true hb)]
      exact hK .normal _ _ _ hk h'
    | false =>
      rw [hb] at hk
      rw [if_neg (fun e => by rw [e, Nat.beq_refl] at hb; cases hb)]
      exact hK (.exit j) _ _ _ hk h'
  | ret => exact hK _ _ _ _ hk h'
theorem sound_loop {n i : Nat} {asg : List Nat} {z : Code} {z' : SCode} (ih : SoundAt P n z z') : SoundAt P n (.loop z) (.loop i asg z') := by
  intro C ro T st a w K Q hn hC hK h he
  simp only [evC, stF_eq] at he
  obtain ⟨V, x0, hI, hh, hround⟩ := he
  have entry : ∀ (s : St) (a : Act) (w : World) (x : V.X), Stands C s a w → headK T.bnd asg st (V.fr x) (V.hp x) (fun h => subSt T.np T.bnd s h) → headK T.bnd asg st (V.fr x) (V.hp x) (fun h => Stands C h a w) := by
    intro s a w x hs hk
    rcases det_headK T.bnd asg st (V.fr x) (V.hp x) with ⟨y, hy⟩ | hy
    · refine (hy _).2 ?_
      obtain ⟨⟨_, hr⟩, hl⟩ := hs
      have := (hy _).1 hk
      rw [hC.tb.np, hC.tb.bnd] at this
      exact subSt_sound hC.pin hr hl this
    · exact (hy _ hk).elim
  refine wpIn_loop_ghost (fun n a w => ∃ x, V.I x ∧ V.meas x = n ∧ headK T.bnd asg st (V.fr x) (V.hp x) (fun h => Stands C h a w)) (V.meas x0) ⟨x0, hI, rfl, entry _ _ _ _ h hh⟩ ?_
  rintro n a w ⟨x, hI, rfl, hs⟩
  obtain ⟨s, hs, hev⟩ := headK_same hs (hround x hI)
  refine ih C ro T s a w _ _ hn hC ?_ hs hev
  intro e st' a' w' hk h'
  cases e with
  | normal =>
    obtain ⟨x2, h1, h2, h3⟩ := hk
    exact ⟨_, h3, x2, h1, rfl, entry _ _ _ _ h' h2⟩
  | exit id => exact hK _ _ _ _ hk h'
  | ret => exact hK _ _ _ _ hk h'
end Go.Eng
