/- The engine, part 13d: a range over a function is what its evaluation says. -/
import Derived.Test.YtcckdpimimkejaaEngV
namespace Go.Eng
open Go Go.RowKit
variable {P : Program}

theorem results_none {fn : Func} {t : Array Value} {w : World} (h : fn.results.toList = []) : (results fn t).run P w = .ok (.tuple #[]) w := by
  have e : fn.results = #[] := Array.toList_eq_nil_iff.1 h
  simp [results, e]

theorem run_enterLoop_inner {w : World} {fn : FuncId} {tmps : Array Value} {ps : Array Tmp} {assign body : Code} {l : Nat} {r : Loop} (h : w.heap[l]? = some (.loop r)) :
    (Instr.enterLoop fn tmps ps assign body (some l)).run P w =
      .ok (w.heap.size, []) (w.alloc (.loop { state := .ready, pending := none, fn, tmps, params := ps, assign, body, defers := r.defers })) := by
  unfold Instr.enterLoop
  simp only [Sem.run_bind, run_getLoop h, run_newObj_alloc, Result.andThen, Sem.run_pure]

/-- A function's activation, as it begins. -/
theorem rep_enter {C : Ctx} {μ : Nat → Option (Nat × Nat)} {hp : List (Nat × HObj)} {nx n : Nat} {w : World} {args : SV} {vs : List Value} (hn : C.n = n) (hR : R (envOf C μ hp w) args vs) (hok : argsOk args n) (hh : HepAt C μ hp nx w)
    (hle : C.R0.LeU (envOf C μ hp w)) (hkd : Kd C.R0.w w) :
    RepAt C μ ⟨argFr args 0, hp, nx⟩ { tmps := vs.toArray ++ Array.replicate (n - vs.toArray.size) undef, defers := [] } w := by
  have hlen := argsOk_len hok hR
  refine ⟨?_, DfOk.nil _ _, ?_, hh, hle, hkd⟩
  · simp [hn]; omega
  · intro s
    rcases argFr_rep (t := vs.toArray ++ Array.replicate (n - vs.toArray.size) undef) 0 hR s with h1 | h1
    · simp only [Nat.zero_le, if_true, Nat.sub_zero] at h1
      have : (vs.toArray ++ Array.replicate (n - vs.toArray.size) undef).getD s undef = vs.getD s undef := by
        simp only [Array.getD_eq_getD_getElem?, List.getD_eq_getElem?_getD, Array.getElem?_append, List.getElem?_toArray, List.size_toArray]
        by_cases hs : s < vs.length
        · simp [hs]
        · simp only [hs, if_false, Array.getElem?_replicate]
          have : vs[s]? = none := by simp; omega
          rw [this]
          split <;> rfl
      rw [this]
      exact h1
    · rw [h1]; exact SlotR_junk _ _ _

theorem sound_range {n i : Nat} {f : Operand} {f' : SX} {gid gn : Nat} {g : SCode} {ps : Array Tmp} {a0 b0 : Code} {a' b' : SCode} {fn : Func} {cg : Code} (hf : cX f = some f') (hfn : P.funcs[gid]? = some fn) (hname : (fn.name == "runtime.NumGoroutine") = false) (hbody : fn.body = some cg)
    (hgn : fn.ntmps = gn) (hres : fn.results.toList = []) (hps : allLt n ps.toList = true) (ihg : SoundAt P gn cg g) (iha : SoundAt P n a0 a') (ihb : SoundAt P n b0 b') :
    SoundAt P n (.rangeFunc f ps a0 b0) (.range i f' gid g gn ps.toList a' b') := by
  intro C ro T st a w K Q hn hC hK hs he
  obtain ⟨⟨μ, h⟩, hlab⟩ := hs
  obtain ⟨fr, hp, nx⟩ := st
  have hTd : T.dep = C.dep := hC.tb.dep
  have hx := R_gx (E := envOf C μ hp w) (a := a) (fr := fr) (g := none) (fun _ _ e => by cases e) h.fr hf
  simp only [evC] at he
  split at he
  rotate_left
  · exact he.elim
  rename_i kf caps hgx
  rw [hgx] at hx
  cases hk1 : Nat.beq kf gid with
  | false => simp [hk1] at he
  | true =>
  cases hk3 : Nat.blt kf FM with
  | false => simp [hk1, hk3] at he
  | true =>
  cases hk2 : Nat.blt nx FB with
  | false => simp [hk1, hk2, hk3] at he
  | true =>
  have := nbeq hk1
  subst this
  have hnx : nx < FB := Nat.le_of_ble_eq_true (n := nx + 1) hk2
  simp only [hk1, hk2, hk3, Bool.and_self, cond_true] at he
  obtain ⟨hok, he⟩ := he
  simp only [R] at hx
  obtain ⟨cs, hv, hcs⟩ := hx
  have hv' := List.singleton_inj.1 hv
  unfold fnV at hv'
  rw [hk3] at hv'
  simp only [cond_true] at hv'
  refine wpIn_rangeFunc ?_
  intro fn0 hfn0
  -- the record is laid
  obtain ⟨wd, mark, dfr, hent, hbelow, hdf⟩ : ∃ wd mark dfr, (Instr.enterLoop fn0 a.tmps ps a0 b0 (WF ro).round).run P w = .ok (wd.heap.size, mark) (wd.alloc (.loop { state := .ready, pending := none, fn := fn0, tmps := a.tmps, params := ps, assign := a0, body := b0, defers := dfr })) ∧
      Below w.heap.size w wd ∧ DfOk C.R0.w wd (mark ++ a.defers) := by
    rw [WF_round]
    cases ro with
    | none =>
      have hb : Below w.heap.size w (w.alloc (.deferred (some []))) := (Below.refl _ _).alloc (Nat.le_refl _) _
      refine ⟨w.alloc (.deferred (some [])), _, w.heap.size, by rw [run_enterLoop_outer, World.size_alloc], hb, ?_⟩
      have hd := defersOk (Kd.of_below hb) h.defers
      refine ⟨List.pairwise_cons.2 ⟨?_, hd.1⟩, ?_⟩
      · intro d hd' e
        obtain ⟨D, e1, _, e3⟩ := h.defers.2 d hd'
        rw [e1] at e
        cases e
        have := (Array.getElem?_eq_some_iff.1 e3).1
        omega
      · intro d hd'
        rcases List.mem_cons.1 hd' with rfl | hd'
        · refine ⟨w.heap.size, rfl, ?_, heap_alloc_new w _⟩
          exact h.kd.size
        · exact hd.2 d hd'
    | some l =>
      obtain ⟨r, hr⟩ := hC.ro l rfl
      obtain ⟨r', hr'⟩ := h.kd.loop l r hr
      exact ⟨w, [], r'.defers, run_enterLoop_inner hr', Below.refl _ _, by simpa using h.defers⟩
  obtain ⟨rec, hrec⟩ : ∃ rec : Loop, rec = { state := .ready, pending := none, fn := fn0, tmps := a.tmps, params := ps, assign := a0, body := b0, defers := dfr } := ⟨_, rfl⟩
  rw [← hrec] at hent
  have hrec0 : recOk rec 0 (.loop rec) := by simp only [recOk]; rw [hrec]
  obtain ⟨H1, hH1⟩ : ∃ H1 : Nat → Nat → Obj → Prop, H1 = fun l p o => C.H l p o ∨ (l = C.dep ∧ recOk rec p o) := ⟨_, rfl⟩
  have H1d : ∀ l p o, H1 l p o → l < C.dep + 1 := by
    intro l p o e
    rw [hH1] at e
    rcases e with e | ⟨e, _⟩
    · have := C.Hd _ _ _ e; omega
    · omega
  have H1l : ∀ l p o, H1 l p o → ∃ r, o = .loop r := by
    intro l p o e
    rw [hH1] at e
    rcases e with e | ⟨_, e⟩
    · exact C.Hl _ _ _ e
    · exact recOk_loop e
  have H1lt : ∀ l p o, l < C.dep → (H1 l p o ↔ C.H l p o) := by
    intro l p o hl
    rw [hH1]
    refine ⟨fun e => e.resolve_right (fun e => by omega), .inl⟩
  have H1at : ∀ p o, H1 C.dep p o ↔ recOk rec p o := by
    intro p o
    rw [hH1]
    refine ⟨fun e => ?_, fun e => .inr ⟨rfl, e⟩⟩
    rcases e with e | e
    · have := C.Hd _ _ _ e; omega
    · exact e.2
  -- the context of the function that is ranged over
  let C1 : Ctx := { C with H := H1, dep := C.dep + 1, Hd := H1d, Hl := H1l }
  have hd0 := h.hep.below hbelow
  have hE0 := le_of_below (C := C) (μ := μ) (hp := hp) hbelow
  obtain ⟨hd1, hE1⟩ := hd0.to (C' := C1) rfl rfl rfl (fun l p o e => by show H1 l p o; rw [hH1]; exact .inl e) hd0.pin
  obtain ⟨hE2, hd2⟩ := hd1.alloc hnx (.loop rec) (.hid C.dep 0) rfl 0 ((H1at 0 _).2 hrec0)
  obtain ⟨w1, hw1⟩ : ∃ w1, w1 = wd.alloc (.loop rec) := ⟨_, rfl⟩
  obtain ⟨μ1, hμ1⟩ : ∃ μ1, μ1 = upd μ nx (wd.heap.size, 0) := ⟨_, rfl⟩
  rw [← hw1, ← hμ1] at hE2 hd2
  let C' : Ctx := { C1 with n := gn, np := famIds hp, bnd := nx + 1, pin := μ1, R0 := envOf C1 μ1 ((nx, .hid C.dep 0) :: hp) w1 }
  obtain ⟨hd3, hE3⟩ := hd2.to (C' := C') rfl rfl rfl (fun _ _ _ e => e) (fun _ _ e => e)
  have hEE := ((hE0.trans hE1).trans hE2).trans hE3
  have hnxm : μ1 nx = some (wd.heap.size, 0) := by rw [hμ1]; simp [upd]
  have hl1 : w1.heap[wd.heap.size]? = some (.loop rec) := by rw [hw1]; exact World.alloc_heap_new wd _
  have hsz1 : w.heap.size ≤ w1.heap.size := hEE.kd.size
  have hpinOk : PinOk C' := by
    intro id p e
    have e' : μ1 id = some p := e
    by_cases hlt : id < FB
    · exact .inr ⟨hd3.nx id p e' hlt, hlt⟩
    · left
      obtain ⟨o, ho⟩ := hd3.fam id p e' (Nat.not_lt.1 hlt)
      simp only [hget, hlt, if_false] at ho
      split at ho
      · rename_i q hq
        simp only [fbase, hlt, if_false]
        rw [get?_cons] at hq
        split at hq
        · cases hq
        · exact famIds_mem hq
      · cases ho
  have cExt : C.Ext C' := ⟨rfl, rfl, rfl, Nat.le_succ _, H1lt, h.le.trans hEE.toLeU, h.kd.trans hEE.kd, fun id p e => hEE.μ id p (h.hep.pin id p e)⟩
  let T' : Tb := ⟨T.fs, (T.dep, rangeH T ps.toList a' b' fr) :: T.ys, famIds hp, nx + 1, T.dep + 1⟩
  have hT' : TbOk P C' T' := by
    refine ⟨hC.tb.fs, ?_, rfl, rfl, by show T.dep + 1 = C.dep + 1; rw [hTd]⟩
    intro lab hd hys
    have hys' : get? ((T.dep, rangeH T ps.toList a' b' fr) :: T.ys) lab = some hd := hys
    rw [get?_cons] at hys'
    split at hys'
    · rename_i e
      cases hys'
      rw [← e, hTd]
      exact rangeH_ok (C' := C') (rec := rec) (ps := ps) iha ihb hC hn h hlab rfl rfl rfl rfl H1lt H1at hEE.toLeU hEE.kd (fun id p e => hEE.μ id p e) hsz1 (by rw [hrec]) (by rw [hrec]) (by rw [hrec]) (by rw [hrec]) hps
    · exact (hC.tb.ys lab hd hys').ext cExt
  have hbase : C'.w0.heap.size ≤ C'.R0.w.heap.size := hd3.frm.size
  have hC' : CtxOk P C' none T' := ⟨hpinOk, hT', hbase, fun l e => by cases e⟩
  -- its arguments
  have hargs : R (envOf C' μ1 ((nx, .hid C.dep 0) :: hp) w1) (.cons (.yield nx) caps) (.func (.yield wd.heap.size) #[] #[] :: cs) := by
    simp only [R]
    exact ⟨_, _, rfl, ⟨_, _, hnxm, rfl⟩, R_mono hEE hcs⟩
  have rep := rep_enter (C := C') rfl hargs hok hd3 (Env.LeU.refl _) (Kd.refl _)
  have he' : evC g T' ⟨argFr (.cons (.yield nx) caps) 0, (nx, .hid T.dep 0) :: hp, nx + 1⟩ (fun e st' =>
      match e with
      | .exit _ => False
      | _ => match st' with
        | ⟨_, hp', nx'⟩ => bif noHid T.dep (drop? hp' nx) then
          match get? hp' nx with
          | some (.hid l pd) => bif Nat.beq l T.dep then
              match pd with
              | 0 => K .normal ⟨fr, drop? hp' nx, nx'⟩
              | 1 => False
              | 2 => K .ret ⟨fr, drop? hp' nx, nx'⟩
              | n + 3 => K (.exit n) ⟨fr, drop? hp' nx, nx'⟩
            else False
          | _ => False
        else False) := he
  rw [hTd] at he'
  have hcall : (callFunc kf (#[.func (.yield wd.heap.size) #[] #[]] ++ cs.toArray)).run P w1 = .ok (.enter kf (#[.func (.yield wd.heap.size) #[] #[]] ++ cs.toArray)) w1 := by
    simp [callFunc, hfn, hbody, ne_of_beq_false hname]
  refine ⟨wd.heap.size, mark, w1, { target := .fn (.func kf) cs.toArray, args := #[.func (.yield wd.heap.size) #[] #[]] }, w1, kf, #[.func (.yield wd.heap.size) #[] #[]] ++ cs.toArray, w1, by rw [hent, hw1], ?_, fun f' _ => WF_fn ro f', ?_, fun hh => (by rw [WF_depth] at hh; cases hh), ?_⟩
  · simp only [resolve, hv']
    simp [go_sem]
  · have e1 : #[Value.func (.yield wd.heap.size) #[] #[]] ++ cs.toArray = (Value.func (.yield wd.heap.size) #[] #[] :: cs).toArray := by simp
    rw [e1] at hcall ⊢
    simpa [invoke] using hcall
  rw [callsIn_WF]
  refine calls_marks hfn hbody (Q := fun e a2 w2 => ∃ se st2, e = exitOf se ∧ (match se with
      | .exit _ => False
      | _ => match st2 with
        | ⟨_, hp', nx'⟩ => bif noHid C.dep (drop? hp' nx) then
          match get? hp' nx with
          | some (.hid l pd) => bif Nat.beq l C.dep then
              match pd with
              | 0 => K .normal ⟨fr, drop? hp' nx, nx'⟩
              | 1 => False
              | 2 => K .ret ⟨fr, drop? hp' nx, nx'⟩
              | n + 3 => K (.exit n) ⟨fr, drop? hp' nx, nx'⟩
            else False
          | _ => False
        else False) ∧ Stands C' st2 a2 w2) ?_ ?_
  · have e1 : #[Value.func (.yield wd.heap.size) #[] #[]] ++ cs.toArray = (Value.func (.yield wd.heap.size) #[] #[] :: cs).toArray := by simp
    rw [e1, hgn]
    refine ihg C' none T' ⟨argFr (.cons (.yield nx) caps) 0, (nx, .hid C.dep 0) :: hp, nx + 1⟩ _ w1 _ _ rfl hC' ?_ ⟨⟨μ1, rep⟩, argFr_lab _ _⟩ he'
    intro e st2 a2 w2 hk hs2
    exact ⟨e, st2, rfl, hk, hs2⟩
  · rintro e a2 w2 ⟨se, st2, rfl, hk, ⟨⟨μ2, h2⟩, _⟩⟩
    obtain ⟨fr2, hp2, nx2⟩ := st2
    have core : (bif noHid C.dep (drop? hp2 nx) then
          match get? hp2 nx with
          | some (.hid l pd) => bif Nat.beq l C.dep then
              match pd with
              | 0 => K .normal ⟨fr, drop? hp2 nx, nx2⟩
              | 1 => False
              | 2 => K .ret ⟨fr, drop? hp2 nx, nx2⟩
              | n + 3 => K (.exit n) ⟨fr, drop? hp2 nx, nx2⟩
            else False
          | _ => False
        else False) → ∃ base, DfOk base w2 a2.defers ∧ ∀ w'', Shut base w2 w'' → ∃ v, (results fn a2.tmps).run P w'' = .ok v w'' ∧ rangePost (WF ro) 0 P wd.heap.size Q { a with defers := mark ++ a.defers } (.returned v) w'' := by
      intro hk
      refine ⟨C'.R0.w, h2.defers, ?_⟩
      intro w3 hsh
      refine ⟨_, results_none hres, ?_⟩
      cases hn1 : noHid C.dep (drop? hp2 nx) with
      | false => simp [hn1] at hk
      | true =>
      simp only [hn1, cond_true] at hk
      split at hk
      rotate_left
      · exact hk.elim
      rename_i l pd hg2
      cases hb2 : Nat.beq l C.dep with
      | false => simp [hb2] at hk
      | true =>
      have := nbeq hb2
      subst this
      simp only [hb2, cond_true] at hk
      have hm2 : μ2 nx = some (wd.heap.size, 0) := h2.hep.pin nx _ hnxm
      obtain ⟨hh3, hE4⟩ := h2.hep.shut hsh hbase
      obtain ⟨o3, ho3, hH3⟩ := hh3.recAt hg2 hm2
      have hro3 : recOk rec pd o3 := (H1at pd o3).1 hH3
      obtain ⟨s3, p3, rfl⟩ : ∃ s p, o3 = .loop { rec with state := s, pending := p } := recOk_any hro3
      -- the record is exhausted, and let go
      obtain ⟨hE5, hh5⟩ := hh3.turn (l' := C.dep) (p' := 1) (r' := { rec with state := .exhausted, pending := p3 }) hg2 hm2 ho3 ((H1at 1 _).2 ⟨_, _, rfl⟩)
      have hgd : get? (putH hp2 nx (.hid C.dep 1)) nx = some (.hid C.dep 1) := by
        rw [get?_putH, get?_cons, if_pos rfl]
      have hdrop : drop? (putH hp2 nx (.hid C.dep 1)) nx = drop? hp2 nx := drop_putH _ _ _
      obtain ⟨hh6, hE6⟩ := hh5.dropRec (C := C) rfl rfl rfl (fun l p o hl e => (H1lt l p o hl).1 e) (fun id p e => h2.hep.pin id p (hEE.μ id p (h.hep.pin id p e))) hgd (by rw [hdrop]; exact hn1)
      rw [hdrop] at hh6 hE6
      have hLeU : (envOf C μ hp w).LeU (envOf C μ2 (drop? hp2 nx) (w3.putObj wd.heap.size (.loop { rec with state := .exhausted, pending := p3 }))) :=
        hEE.toLeU.trans (h2.le.trans (hE4.toLeU.trans (hE5.toLeU.trans hE6.toLeU)))
      have hLeR : (envOf C μ hp w).LeR (envOf C μ2 (drop? hp2 nx) (w3.putObj wd.heap.size (.loop { rec with state := .exhausted, pending := p3 }))) :=
        ⟨hLeU, fun id p e => h2.hep.pin id p (hEE.μ id p e)⟩
      -- what is below the rounds' world stands as it stood
      have kd3 : ∀ (b : Nat), b < w1.heap.size → w3.heap[b]? = w2.heap[b]? := fun b hb => hsh.block b hb
      have kd1 : Kd w1 w3 := by
        have k2 : Kd w1 w2 := h2.kd
        refine ⟨by rw [hsh.size]; exact k2.size, fun b r e => ?_, fun b ds e => ?_⟩
        · obtain ⟨r', e'⟩ := k2.loop b r e
          exact ⟨r', (kd3 b (Array.getElem?_eq_some_iff.1 e).1).trans e'⟩
        · exact (kd3 b (Array.getElem?_eq_some_iff.1 e).1).trans (k2.dfr b ds e)
      have kd4 : Kd w1 (w3.putObj wd.heap.size (.loop { rec with state := .exhausted, pending := p3 })) := kd1.trans (kd_put ho3)
      have kdd : Kd wd w1 := by rw [hw1]; exact Kd.of_below ((Below.refl _ _).alloc (Nat.le_refl _) _)
      have repF : RepAt C μ2 ⟨fr, drop? hp2 nx, nx2⟩ { a with defers := mark ++ a.defers } (w3.putObj wd.heap.size (.loop { rec with state := .exhausted, pending := p3 })) := by
        refine ⟨h.size, defersOk (kdd.trans kd4) hdf, ?_, hh6, h.le.trans hLeU, h.kd.trans (hEE.kd.trans kd4)⟩
        intro s
        have h1 := h.fr s
        have hng : ∀ d w x, look fr s ≠ .gd d w x := fun d w x e => by have := hlab s d w x e; simp [memN] at this
        have h2 : R (envOf C μ hp w) (look fr s) [a.tmps.getD s undef] := by
          cases hl : look fr s with
          | gd d w x => exact absurd hl (hng d w x)
          | _ => simp only [hl] at h1; exact h1
        exact R_slot (R_monoR hLeR h2) hng
      have hst : Stands C ⟨fr, drop? hp2 nx, nx2⟩ { a with defers := mark ++ a.defers } (w3.putObj wd.heap.size (.loop { rec with state := .exhausted, pending := p3 })) := ⟨⟨μ2, repF⟩, hlab⟩
      have hend : ∀ s3, s3 ≠ .busy → w3.heap[wd.heap.size]? = some (.loop { rec with state := s3, pending := p3 }) → (Instr.endLoop wd.heap.size).run P w3 = .ok p3 (w3.putObj wd.heap.size (.loop { rec with state := .exhausted, pending := p3 })) :=
        fun s3 hs e => run_endLoop (P := P) e hs
      unfold recOk at hro3
      split at hro3
      · injection hro3 with e1
        obtain ⟨rfl, rfl⟩ : s3 = .ready ∧ p3 = none := by injection e1 with e1 e2; exact ⟨e1, e2⟩
        exact ⟨none, _, hend _ (by simp) ho3, hK _ _ _ _ hk hst⟩
      · exact hk.elim
      · injection hro3 with e1
        obtain ⟨rfl, rfl⟩ : s3 = .done ∧ p3 = some .ret := by injection e1 with e1 e2; exact ⟨e1, e2⟩
        exact ⟨some .ret, _, hend _ (by simp) ho3, wpIn_ret (hK _ _ _ _ hk hst)⟩
      · rename_i m
        injection hro3 with e1
        obtain ⟨rfl, rfl⟩ : s3 = .done ∧ p3 = some (.exit m) := by injection e1 with e1 e2; exact ⟨e1, e2⟩
        exact ⟨some (.exit m), _, hend _ (by simp) ho3, wpIn_exit (hK _ _ _ _ hk hst)⟩
    cases se with
    | normal => exact ⟨.inl rfl, core hk⟩
    | ret => exact ⟨.inr rfl, core hk⟩
    | exit id => exact hk.elim

theorem sound_tr : ∀ {n : Nat} {c : Code} {sc : SCode}, Tr P n c sc → SoundAt P n c sc := by
  intro n c sc h
  induction h with
  | skip => exact sound_skip _
  | region hl => exact sound_region hl
  | drawn hd => exact sound_drawn hd
  | drawnL hd => exact sound_drawnL hd
  | seq _ _ ihx ihy => exact sound_seq ihx ihy
  | cond hx _ _ ihy ihz => exact sound_cond hx ihy ihz
  | join _ ih => exact sound_join ih
  | block _ ih => exact sound_block ih
  | loop _ ih => exact sound_loop ih
  | exit => exact sound_exit _ _
  | ret => exact sound_ret _
  | range hf h1 h2 h3 h4 h5 _ h6 _ _ ihg iha ihb => exact sound_range hf h1 h2 h3 h4 h5 h6 ihg iha ihb
end Go.Eng
