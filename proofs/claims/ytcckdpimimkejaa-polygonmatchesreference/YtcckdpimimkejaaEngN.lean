/- The engine, part 14: functions. -/
import Derived.Test.YtcckdpimimkejaaEngW
namespace Go.Eng
open Go Go.RowKit

theorem pickB_and (p x y : Bool) (n : Nat) : pickB p (.s n) (.c (.bool false)) x y = (p && x) := by cases p <;> simp [pickB]
theorem pickB_or (p x y : Bool) (n : Nat) : pickB p (.c (.bool true)) (.s n) x y = (p || y) := by cases p <;> simp [pickB]
theorem pickB_if (p x y : Bool) (n m : Nat) : pickB p (.s n) (.s m) x y = if p then x else y := by cases p <;> simp [pickB]

inductive SRes where
  | slot (n : Nat)
  | cell (a n : Nat) (agg : Bool)
  deriving Repr

def cRes (P : Program) : List ResultVar → Option (List SRes)
  | [] => some []
  | .tmp t :: r => match cRes P r with
    | some l => some (.slot t :: l)
    | none => none
  | .cell a t :: r => match cRes P r with
    | some l => match P.info? t with
      | some i => match P.underlying t with
        | some d => bif aggB d || i.size == 1 then some (.cell a i.size (aggB d) :: l) else none
        | none => none
      | none => none
    | none => none

def evR (st : St) : SRes → (SV → Prop) → Prop
  | .slot n, k => k (unlab none (look st.fr n))
  | .cell a n agg, k => (evLoad st.hp n agg (unlab none (look st.fr a))).holds k

def evRs (st : St) : List SRes → (SV → Prop) → Prop
  | [], k => k .nil
  | r :: l, k => evR st r fun v => evRs st l fun t => k (.cons v t)

def asRes : SV → SV
  | .cons h .nil => h
  | l => .tup l

/-- What a function's body comes to. -/
def evFnK (np : List Nat) (tab : List (Nat × FSpec)) (sc : SCode) (res : List SRes) (args : SV) (hp : List (Nat × HObj)) (nx : Nat) (K : SV → St → Prop) : Prop :=
  evC sc ⟨tab, [], np, 0, 0⟩ ⟨argFr args 0, hp, nx⟩ fun e st =>
    match e with
    | .exit _ => False
    | _ => evRs st res fun l => K (asRes l) st

def evFn (tab : List (Nat × FSpec)) (sc : SCode) (res : List SRes) (fresh : Bool) (args want : SV) : Prop :=
  evFnK [] tab sc res args [] 0 fun sv st => sub (match fresh with | true => .strict | false => .free) st.hp 200 sv want

/-- The numbers of what is handed back. -/
def pairRes (np : List Nat) (sv want : SV) (hp hp' : List (Nat × HObj)) : List (Nat × Nat) :=
  let p0 := pairSV want sv (pins np)
  let p1 := pairHp hp hp' p0 p0
  pairFam hp hp' (pairHp hp hp' p1 p1)

theorem pairResK_eq (np : List Nat) (sv want : SV) (hp hp' : List (Nat × HObj)) (k : PK) : pairResK np sv want hp hp' k = k (pairRes np sv want hp hp') := by
  simp only [pairResK, pinsK_eq, pairSVK_eq, pairHpK_eq, pairFamK_eq, pairRes]
/-- What is handed back serves as what was promised. -/
def subRes (np : List Nat) (fresh : Bool) (sv : SV) (st : St) (want : SV) (h1 : List (Nat × HObj)) (nx1 : Nat) : Prop :=
  forceHp h1 fun h1 => pairResK np sv want st.hp h1 fun prs =>
  bif okPairs nx1 prs then bif famOk st.hp h1 prs then bif pinsIn prs np then
    sub ⟨prs, false, match fresh with | true => false | false => true, false⟩ st.hp 200 sv want ∧ subHp ⟨prs, false, match fresh with | true => false | false => true, false⟩ nx1 prs st.hp h1
  else False else False else False

/-- A function, translated: its code, what it returns, its number of slots. -/
def cFunc (P : Program) (f : Nat) (G joins hint : List Nat) (rg : List (Nat × Nat × SCode × Nat)) : Option (SCode × List SRes × Nat) :=
  match P.funcs[f]? with
  | none => none
  | some fn => match fn.name == "runtime.NumGoroutine" with
    | true => none
    | false => match fn.body with
      | none => none
      | some c => match cRes P fn.results.toList with
        | none => none
        | some res => match cCode P fn.ntmps G joins hint rg c (0, 0) with
          | none => none
          | some (sc, _) => some (sc, res, fn.ntmps)

section
variable {P : Program}

/-- One result. -/
def resOne (t : Array Value) : ResultVar → Sem Value
  | .tmp x => pure (t.getD x undef)
  | .cell c y => do loadVar y (← asAddr (t.getD c undef))

section
variable {C : Ctx}
theorem evR_sound {μ : Nat → Option (Nat × Nat)} {st : St} {a : Act} {w : World} (h : RepAt C μ st a w) (x : ResultVar) (l : List ResultVar) {s : SRes} {r : List SRes} (hc : cRes P (x :: l) = some (s :: r)) {K : SV → Prop} (he : evR st s K) :
    ∃ sv v, K sv ∧ R (envOf C μ st.hp w) sv [v] ∧
      (resOne a.tmps x).run P w = .ok v w := by
  cases x with
  | tmp t =>
    simp only [cRes] at hc
    split at hc
    · simp only [Option.some.injEq, List.cons.injEq] at hc
      obtain ⟨rfl, rfl⟩ := hc
      exact ⟨_, _, he, R_unlab (fun _ _ e => by cases e) (h.fr t), by simp [resOne]⟩
    · cases hc
  | cell c t =>
    simp only [cRes] at hc
    split at hc
    · split at hc
      · rename_i i hi
        split at hc
        · rename_i d hd
          cases hk : aggB d || i.size == 1 with
          | false => simp [hk] at hc
          | true =>
            simp only [hk, cond_true, Option.some.injEq, List.cons.injEq] at hc
            obtain ⟨rfl, rfl⟩ := hc
            simp only [evR] at he
            have hx : R (envOf C μ st.hp w) (unlab none (look st.fr c)) [a.tmps.getD c undef] := R_unlab (fun _ _ e => by cases e) (h.fr c)
            obtain ⟨s', hq, u, hu, hr⟩ := evLoad_sound (P := P) h.hep.obj hi hd hk hx he
            refine ⟨s', u, hq, hr, ?_⟩
            generalize hv : a.tmps.getD c undef = v at hx hu
            have : ∃ ad, v = .pointer (some ad) ∧ ad.spot = none := by
              unfold evLoad at he
              split at he
              · rename_i heq; rw [heq] at hx; simp only [R] at hx; obtain ⟨b, c, _, hv⟩ := hx; exact ⟨_, by simpa using hv, rfl⟩
              · rename_i heq; rw [heq] at hx; simp only [R] at hx; obtain ⟨b, c, _, hv⟩ := hx; exact ⟨_, by simpa using hv, rfl⟩
              · rename_i heq; rw [heq] at hx; simp only [R] at hx; obtain ⟨b, c, _, hv, _⟩ := hx; exact ⟨_, by simpa using hv, rfl⟩
              · exact he.elim
            obtain ⟨ad, rfl, had⟩ := this
            simp [Instr.loadAt, Instr.sureAddr] at hu
            simp only [resOne, hv, asAddr, Sem.run_bind, Sem.run_pure, Result.andThen_ok]
            exact hu
        · cases hc
      · cases hc
    · cases hc

theorem cRes_cons {x : ResultVar} {l : List ResultVar} {res : List SRes} (h : cRes P (x :: l) = some res) : ∃ s r, res = s :: r ∧ cRes P l = some r := by
  cases hl : cRes P l with
  | none => cases x <;> simp [cRes, hl] at h
  | some r =>
    cases x with
    | tmp t => simp only [cRes, hl, Option.some.injEq] at h; exact ⟨_, _, h.symm, rfl⟩
    | cell c t =>
      cases hi : P.info? t with
      | none => simp [cRes, hl, hi] at h
      | some i =>
        cases hd : P.underlying t with
        | none => simp [cRes, hl, hi, hd] at h
        | some d =>
          simp only [cRes, hl, hi, hd] at h
          generalize (aggB d || i.size == 1) = bb at h
          cases bb with
          | false => simp at h
          | true => simp only [cond_true, Option.some.injEq] at h; exact ⟨_, _, h.symm, rfl⟩

theorem evRs_sound {μ : Nat → Option (Nat × Nat)} {st : St} {a : Act} {w : World} (h : RepAt C μ st a w) :
    ∀ (l : List ResultVar) (res : List SRes) (K : SV → Prop), cRes P l = some res → evRs st res K →
      ∃ sv vs, K sv ∧ isList sv = true ∧ sv.len = vs.length ∧ R (envOf C μ st.hp w) sv vs ∧
        (l.mapM (resOne a.tmps)).run P w = .ok vs w := by
  intro l
  induction l with
  | nil =>
    intro res K hc he
    simp only [cRes, Option.some.injEq] at hc
    subst hc
    exact ⟨.nil, [], he, rfl, rfl, rfl, by simp⟩
  | cons x l ih =>
    intro res K hc he
    obtain ⟨s, r, rfl, hr⟩ := cRes_cons hc
    simp only [evRs] at he
    obtain ⟨sv, v, hk, hR, hrun⟩ := evR_sound h x l hc he
    obtain ⟨t, vs, hk', _, hlen, hR', hrun'⟩ := ih r _ hr hk
    refine ⟨.cons sv t, v :: vs, hk', rfl, by simp [SV.len, hlen], by simp only [R]; exact ⟨_, _, rfl, hR, hR'⟩, ?_⟩
    rw [List.mapM_cons]
    simp only [Sem.run_bind]
    rw [hrun]
    simp only [Result.andThen_ok]
    rw [hrun']
    simp
end

theorem results_run {fn : Func} {t : Array Value} {vs : List Value} {w : World}
    (h : (fn.results.toList.mapM (resOne t)).run P w = .ok vs w) :
    (results fn t).run P w = .ok (if vs.length = 1 then vs.headD undef else .tuple vs.toArray) w := by
  have e : results fn t = (do let vs ← fn.results.mapM (resOne t); pure (if h : vs.size = 1 then vs[0] else .tuple vs)) := rfl
  rw [e, Array.mapM_eq_mapM_toList]
  simp only [Sem.run_bind, Sem.run_map, h]
  match vs with
  | [] => simp
  | [x] => simp
  | x :: y :: r => simp

theorem cFunc_spec {f : Nat} {G joins hint : List Nat} {rg : List (Nat × Nat × SCode × Nat)} {sc : SCode} {res : List SRes} {n : Nat} (hc : cFunc P f G joins hint rg = some (sc, res, n)) :
    ∃ fn c q, P.funcs[f]? = some fn ∧ fn.body = some c ∧ (fn.name == "runtime.NumGoroutine") = false ∧ cRes P fn.results.toList = some res ∧ cCode P n G joins hint rg c (0, 0) = some (sc, q) ∧ fn.ntmps = n := by
  unfold cFunc at hc
  split at hc
  · cases hc
  · rename_i fn hf
    split at hc
    · cases hc
    · rename_i hname
      split at hc
      · cases hc
      · rename_i c hb
        split at hc
        · cases hc
        · rename_i res' hres
          split at hc
          · cases hc
          · rename_i sc' q hcode
            simp only [Option.some.injEq, Prod.mk.injEq] at hc
            obtain ⟨rfl, rfl, rfl⟩ := hc
            exact ⟨fn, c, q, hf, hb, hname, hres, hcode, rfl⟩

/-- Functions that are ranged over. -/
theorem RgOk.nil : RgOk P [] := fun i gid g gn e => by cases e
theorem RgOk.cons {rg : List (Nat × Nat × SCode × Nat)} (h : RgOk P rg) {i gid : Nat} {G joins hint : List Nat} {rg' : List (Nat × Nat × SCode × Nat)} {g : SCode} {gn : Nat} (hrg' : RgOk P rg') (hc : cFunc P gid G joins hint rg' = some (g, [], gn)) : RgOk P ((i, gid, g, gn) :: rg) := by
  intro j gid' g' gn' e
  rw [get?_cons] at e
  split at e
  · cases e
    obtain ⟨fn, c, q, hf, hb, hname, hres, hcode, hn⟩ := cFunc_spec hc
    refine ⟨fn, c, hf, hname, hb, hn, ?_, cCode_tr hrg' _ _ _ _ hcode⟩
    cases hl : fn.results.toList with
    | nil => rfl
    | cons x l => rw [hl] at hres; obtain ⟨_, _, e, _⟩ := cRes_cons hres; cases e
  · exact h j gid' g' gn' e

theorem call_of {f : Nat} {G joins hint : List Nat} {rg : List (Nat × Nat × SCode × Nat)} {sc : SCode} {res : List SRes} {n : Nat} (hc : cFunc P f G joins hint rg = some (sc, res, n)) (args : Array Value) (w : World) : (callFunc f args).run P w = .ok (.enter f args) w := by
  obtain ⟨fn, c, q, hf, hb, hname, _⟩ := cFunc_spec hc
  simp [callFunc, hf, hb, ne_of_beq_false hname]

theorem calls_of {f : Nat} {G joins hint : List Nat} {rg : List (Nat × Nat × SCode × Nat)} {sc : SCode} {res : List SRes} {n : Nat} (hc : cFunc P f G joins hint rg = some (sc, res, n)) (hrg : RgOk P rg) {C : Ctx} (hn : C.n = n) (hpin : PinOk C) (hbnd : C.bnd = 0) (hdep : C.dep = 0) {w : World} (hR0 : C.R0 = envU (fun _ => False) w) (hw0 : C.w0 = w)
    {tab : List (Nat × FSpec)} (htab : TabOk P tab) {args : SV} {vs : List Value} {μ : Nat → Option (Nat × Nat)} {hp : List (Nat × HObj)} {nx : Nat} (hh : HepAt C μ hp nx w)
    (hR : R (envOf C μ hp w) args vs) (hok : argsOk args n) {K : SV → St → Prop} (hev : evFnK C.np tab sc res args hp nx K) {RR : Ending → World → Prop}
    (hfin : ∀ sv st μ' w' v, K sv st → HepAt C μ' st.hp st.nx w' → R (envOf C μ' st.hp w') sv [v] → RR (.returned v) w') : Calls P f vs.toArray w RR := by
  obtain ⟨fn, c, q, hf, hb, hname, hres, hcode, rfl⟩ := cFunc_spec hc
  have hst := rep_enter (C := C) hn hR hok hh (by rw [hR0]; exact ⟨fun _ h => h.elim, fun _ h => h.elim⟩) (by rw [hR0]; exact Kd.refl _)
  have hbase : C.w0.heap.size ≤ C.R0.w.heap.size := by rw [hR0, hw0]; exact Nat.le_refl _
  refine calls_marks hf hb (Q := fun e a' w' => ∃ se st, e = exitOf se ∧ (match se with
      | .exit _ => False
      | _ => evRs st res fun l => K (asRes l) st) ∧ Stands C st a' w') ?_ ?_
  · refine sound_tr (cCode_tr hrg _ _ _ _ hcode) C none ⟨tab, [], C.np, 0, 0⟩ _ _ w _ _ hn ⟨hpin, ⟨htab, (fun _ _ e => by cases e), rfl, hbnd.symm, hdep.symm⟩, hbase, fun l e => by cases e⟩ ?_ ⟨⟨μ, hst⟩, argFr_lab _ _⟩ hev
    intro e st a' w' hk hs
    exact ⟨e, st, rfl, by cases e <;> exact hk, hs⟩
  rintro e a' w0' ⟨se, st, rfl, hk, ⟨⟨μ', hrep0⟩, _⟩⟩
  have fin : (evRs st res fun l => K (asRes l) st) → ∃ base, DfOk base w0' a'.defers ∧ ∀ w', Shut base w0' w' → ∃ v, (results fn a'.tmps).run P w' = .ok v w' ∧ RR (.returned v) w' := by
    intro hk
    refine ⟨C.R0.w, hrep0.defers, fun w' hsh => ?_⟩
    obtain ⟨hh', hE⟩ := hrep0.hep.shut hsh hbase
    let C2 : Ctx := { C with R0 := envU (fun _ => False) w' }
    have hrep : RepAt C2 μ' st ⟨a'.tmps, []⟩ w' := by
      refine ⟨hrep0.size, DfOk.nil _ _, fun s => ?_, (hh'.to (C' := C2) rfl rfl rfl (fun _ _ _ e => e) hh'.pin).1, ⟨fun _ h => h.elim, fun _ h => h.elim⟩, Kd.refl _⟩
      have h1 := hrep0.fr s
      cases hl : look st.fr s with
      | gd d wt x =>
        rw [hl] at h1
        exact ⟨fun e => R_monoR hE (h1.1 e), h1.2⟩
      | _ => rw [hl] at h1; exact R_monoR hE h1
    obtain ⟨sv, vs, hsub, hil, hln, hRv, hrun⟩ := evRs_sound hrep _ _ _ hres hk
    refine ⟨_, results_run hrun, hfin _ _ μ' _ _ hsub hh' ?_⟩
    have hRv : R (envOf C μ' st.hp w') sv vs := hRv
    cases sv with
    | nil => simp only [R] at hRv; subst hRv; simp [asRes, R]
    | cons hh tt =>
      cases tt with
      | nil =>
        simp only [R] at hRv
        obtain ⟨v, xs, rfl, h1, rfl⟩ := hRv
        simpa [asRes] using h1
      | _ =>
        have : vs.length ≠ 1 := by
          simp only [R] at hRv
          obtain ⟨v, xs, rfl, h1, h2⟩ := hRv
          first
            | (simp only [SV.len] at hln; simp at hln ⊢
               intro e; subst e; simp at h2; done)
            | (obtain ⟨y, ys, rfl, _⟩ := h2; simp)
        simp only [this, if_false, asRes, R]
        exact ⟨vs, rfl, by simpa [R] using hRv⟩
    | _ => simp [isList] at hil
  cases se with
  | normal => exact ⟨.inl rfl, fin hk⟩
  | ret => exact ⟨.inr rfl, fin hk⟩
  | exit id => exact hk.elim

theorem hget_nil (n : Nat) : hget [] n = none := by unfold hget; split <;> rfl

theorem HepAt.start (C : Ctx) (h : C.pin = fun _ => none) : HepAt C (fun _ => none) [] 0 C.w0 := by
  refine ⟨⟨?_, ?_⟩, ?_, ?_, ?_, ?_, ?_, ?_, Frm.refl _ _⟩
  · intro id o e; cases e
  · intro id o e; rw [hget_nil] at e; cases e
  · intro id id' o o' b c c' e; rw [hget_nil] at e; cases e
  · intro id o b c e; rw [hget_nil] at e; cases e
  · intro id o e; cases e
  · intro id p e; cases e
  · intro id p e; cases e
  · intro id p e; rw [h] at e; cases e

/-- A function keeps its contract. -/
theorem Spec.ok_of {f : Nat} {S : Spec} {G joins hint : List Nat} {rg : List (Nat × Nat × SCode × Nat)} {sc : SCode} {res : List SRes} {n : Nat} (hc : cFunc P f G joins hint rg = some (sc, res, n)) (hrg : RgOk P rg)
    (tab : S.X → List (Nat × FSpec)) (htab : ∀ x, S.pre x → TabOk P (tab x))
    (h : ∀ x, S.pre x → argsOk (S.args x) n ∧ evFn (tab x) sc res S.fresh (S.args x) (S.res x)) : S.Ok P f := by
  refine ⟨call_of hc, ?_⟩
  intro x w vs U hU hpre hR
  obtain ⟨hok, hev⟩ := h x hpre
  let C : Ctx := ⟨n, w, fun _ => False, U, fun _ => none, [], 0, H0, 0, fun _ _ _ h => h.elim, fun _ _ _ h => h.elim, envU (fun _ => False) w⟩
  have hR' : R (envOf C (fun _ => none) [] w) (S.args x) vs :=
    R_monoR (E := envU U w) (E' := envOf C (fun _ => none) [] w) ⟨⟨fun b hb => show Ufor C (fun _ => none) [] w b from ⟨(hU b hb).1, .inl hb, (fun _ _ _ _ e => by cases e), (hU b hb).2⟩, fun _ _ => rfl⟩, fun _ _ e => by cases e⟩ hR
  refine calls_of hc hrg (C := C) rfl (fun id p e => by cases e) rfl rfl rfl rfl (htab x hpre) (HepAt.start C rfl) hR' hok hev ?_
  intro sv st μ' w' v hsub hh hR1
  refine ⟨?_, hh.frm.below⟩
  refine sub_sound (E := envOf C μ' st.hp w') (hp := st.hp) ?_ hh.obj 200 _ _ _ hsub hR1
  have tracked : ∀ id o b c, hget st.hp id = some o → μ' id = some (b, c) → w.heap.size ≤ b ∧ b < w'.heap.size ∧ Plain w' b := by
    intro id o b c h1 h2
    rcases hh.mine id o b c h1 h2 with h3 | h3
    · exact h3.elim
    · exact ⟨h3, hh.lt h1 h2, hh.obj.plain h1 h2⟩
  cases hfr : S.fresh with
  | true =>
    refine ⟨fun e => ?_, fun _ _ _ e => ?_, fun _ _ _ _ e => ?_, rfl, fun id o b c h1 h2 _ => show resU true U w w' b from .inr (tracked id o b c h1 h2)⟩
    · cases e
    · cases e
    · cases e
  | false =>
    refine ⟨fun _ => ⟨fun b hb => ?_, fun _ _ => rfl⟩, fun _ _ _ e => ?_, fun _ _ _ _ e => ?_, rfl, fun id o b c h1 h2 _ => show resU false U w w' b from .inr (tracked id o b c h1 h2)⟩
    · obtain ⟨h1, h2, _, h4⟩ := hb
      rcases h2 with h2 | h2 | h2
      · exact .inl ⟨rfl, h2⟩
      · exact h2.elim
      · exact .inr ⟨h2, h1, h4⟩
    · cases e
    · cases e

theorem MSpec.ok_of {f : Nat} {S : MSpec} {G joins hint : List Nat} {rg : List (Nat × Nat × SCode × Nat)} {sc : SCode} {res : List SRes} {n : Nat} (hc : cFunc P f G joins hint rg = some (sc, res, n)) (hrg : RgOk P rg)
    (tab : S.X → List (Nat × FSpec)) (htab : ∀ x, S.pre x → TabOk P (tab x))
    (h : ∀ x, S.pre x → argsOk (S.args x) n ∧ evFnK (upto S.nx0) (tab x) sc res (S.args x) (S.h0 x) S.nx0 fun sv st => ∃ y, S.post x y ∧ subRes (upto S.nx0) S.fresh sv st (S.res x y) (S.h1 x y) S.nx1) : S.Ok P f := by
  refine ⟨call_of hc, ?_⟩
  intro x w μ vs T U hU hh0 hpre hR
  obtain ⟨hok, hev⟩ := h x hpre
  let C : Ctx := ⟨n, w, T, U, μ, upto S.nx0, 0, H0, 0, fun _ _ _ h => h.elim, fun _ _ _ h => h.elim, envU (fun _ => False) w⟩
  have hC : HepAt C μ (S.h0 x) S.nx0 w := (hh0.to (C' := C) rfl rfl rfl (fun _ _ _ e => e) hh0.pin).1
  have hpin : PinOk C := by
    intro id p e
    have e' : μ id = some p := e
    by_cases hlt : id < FB
    · left; simp only [fbase, hlt, if_true]; exact mem_upto.2 (hC.nx id p e' hlt)
    · left
      simp only [fbase, hlt, if_false]
      obtain ⟨o, ho⟩ := hC.fam id p e' (Nat.not_lt.1 hlt)
      simp only [hget, hlt, if_false] at ho
      split at ho
      · rename_i f' hf'; exact mem_upto.2 (hC.keys _ _ hf')
      · cases ho
  have hR' : R (envOf C μ (S.h0 x) w) (S.args x) vs := hR
  refine calls_of hc hrg (C := C) rfl hpin rfl rfl rfl rfl (htab x hpre) hC hR' hok hev ?_
  intro sv st μ1 w' v hk hh hR1
  obtain ⟨y, hpost, hsub⟩ := hk
  unfold subRes at hsub
  simp only [forceHp_eq, pairResK_eq] at hsub
  generalize hprs : pairRes (upto S.nx0) sv (S.res x y) st.hp (S.h1 x y) = prs at hsub
  try simp only at hsub
  cases hk1 : okPairs S.nx1 prs with
  | false => simp [hk1] at hsub
  | true =>
    cases hfm : famOk st.hp (S.h1 x y) prs with
    | false => simp [hk1, hfm] at hsub
    | true =>
      cases hpi : pinsIn prs (upto S.nx0) with
      | false => simp [hk1, hfm, hpi] at hsub
      | true =>
        simp only [hk1, hfm, hpi, cond_true] at hsub
        obtain ⟨hs1, hs2⟩ := hsub
        obtain ⟨μ', k1, k2, k3, k4, k5, k6, k7, k8, k9⟩ := sub_hep 0 hh hk1 hfm hs2 (fun _ _ _ h => by omega) (Nat.zero_le _)
        let C' : Ctx := callCtx w T (Ufresh S.fresh U) μ S.nx0
        have hF : (envOf C μ1 st.hp w').Freed ⟨prs, false, match S.fresh with | true => false | false => true, false⟩ st.hp (envOf C' μ' (S.h1 x y) w') := by
          refine ⟨?_, k2, k3, rfl, ?_⟩
          · intro hlo
            have hfr : S.fresh = false := by
              cases e : S.fresh with
              | true => rw [e] at hlo; cases hlo
              | false => rfl
            refine ⟨?_, fun _ _ => rfl⟩
            intro b hb
            refine ⟨hb.1, ?_, ?_, hb.2.2.2⟩
            · rcases hb.2.1 with h1 | h1 | h1
              · exact .inl ⟨hfr, h1⟩
              · exact .inr (.inl h1)
              · exact .inr (.inr h1)
            · intro i o' c' hg hm
              obtain ⟨m, o, _, ho, e, _⟩ := k1 i o' hg
              rw [e] at hm
              exact hb.2.2.1 m o c' ho hm
          · intro id o b c hg hm hkp
            have hm' : μ1 id = some (b, c) := hm
            refine ⟨hh.lt hg hm', ?_, ?_, hh.obj.plain hg hm'⟩
            · rcases hh.mine id o b c hg hm' with h1 | h1
              · exact .inr (.inl h1)
              · exact .inr (.inr h1)
            · intro i o' c2 hg' hm2
              obtain ⟨m, oi, hp1, ho, e, _⟩ := k1 i o' hg'
              rw [e] at hm2
              have := hh.inj _ _ _ _ _ _ _ hg ho hm' hm2
              subst this
              exact k8 _ _ _ hg (by simpa [kept, Keep.keep] using hkp) hp1
        have hsb : ∀ s t vs, sub ⟨prs, false, match S.fresh with | true => false | false => true, false⟩ st.hp 200 s t → R (envOf C μ1 st.hp w') s vs → R (envOf C' μ' (S.h1 x y) w') t vs := fun s t vs => sub_sound hF hh.obj 200 s t vs
        refine ⟨y, μ', hpost, ?_, hsb _ _ _ hs1 hR1⟩
        refine ⟨⟨fun id o hg => (k6 id o hg).2, ?_⟩, ?_, ?_, fun id o hg => (k6 id o hg).1, k4, k5, pin_of (C := C) hpin hk1 (pinsIn_mem hpi) hh.pin k2 k3 k9, hh.frm⟩
        · intro i o' hg
          obtain ⟨m, o, _, ho, e, hso⟩ := k1 i o' hg
          obtain ⟨b, cp, z, e1, e2, e3⟩ := hh.obj.obj m o ho
          exact ⟨b, cp, z, e.trans e1, e2, subObj_HR hF.le hsb (fun e => by cases e) hso e3⟩
        · intro i i' o1 o2 b c1 c2 g1 g2 m1 m2
          obtain ⟨d1, p1, q1, ho1, e1, _⟩ := k1 i o1 g1
          obtain ⟨d2, p2, q2, ho2, e2, _⟩ := k1 i' o2 g2
          rw [e1] at m1
          rw [e2] at m2
          have := hh.inj _ _ _ _ _ _ _ ho1 ho2 m1 m2
          subst this
          exact k7 _ _ _ q1 q2
        · intro i o' b c hg hm
          obtain ⟨d, o, _, ho, e, _⟩ := k1 i o' hg
          rw [e] at hm
          exact hh.mine _ _ _ _ ho hm

theorem TabOk.nil : TabOk P [] := fun f S h => by cases h
theorem TabOk.p {f : Nat} {S : Spec} {r : List (Nat × FSpec)} (h : S.Ok P f) (hr : TabOk P r) : TabOk P ((f, .p S) :: r) := by
  intro g T e
  rw [get?_cons] at e
  split at e
  · rename_i hh; cases e; subst hh; exact h
  · exact hr g T e
theorem TabOk.o {f : Nat} {r : List (Nat × FSpec)} (hr : TabOk P r) : TabOk P ((f, .own) :: r) := by
  intro g T e
  rw [get?_cons] at e
  split at e
  · rename_i hh; cases e; trivial
  · exact hr g T e
theorem TabOk.m {f : Nat} {S : MSpec} {r : List (Nat × FSpec)} (h : S.Ok P f) (hr : TabOk P r) : TabOk P ((f, .m S) :: r) := by
  intro g T e
  rw [get?_cons] at e
  split at e
  · rename_i hh; cases e; subst hh; exact h
  · exact hr g T e
end
end Go.Eng
