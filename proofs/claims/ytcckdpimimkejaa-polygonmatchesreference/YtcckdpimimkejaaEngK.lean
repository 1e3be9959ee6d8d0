/- The engine, part 11: operations with their guards and slots; regions in the order of the text. -/
import Derived.Test.YtcckdpimimkejaaEngJ
namespace Go.Eng
open Go Go.RowKit

structure SOper where
  dst : Option Nat
  guard : Option (Nat × Bool)
  op : SOp
  hide : List Nat
  deriving Repr

def memOpt (l : List Nat) : Option Nat → Bool
  | none => false
  | some d => memN l d
def dstOk (n : Nat) : Option Nat → Bool
  | none => true
  | some d => Nat.blt d n

def cGuard (ops : List Oper) : Option (Nat × Bool) → Option (Option (Nat × Bool))
  | none => some none
  | some (j, w) => match ops[j]? with
    | some oj => match oj.dst with
      | some d => some (some (d, w))
      | none => none
    | none => none

def cOper (P : Program) (n : Nat) (ops : List Oper) (o : Oper) : Option SOper :=
  match cOp P o.op, cGuard ops o.guard with
  | some so, some g => bif dstOk n o.dst then some ⟨o.dst, g, so, []⟩ else none
  | _, _ => none

def cOpers (P : Program) (n : Nat) (ops : List Oper) : List Oper → Option (List SOper)
  | [] => some []
  | o :: r => match cOper P n ops o, cOpers P n ops r with
    | some x, some y => some (x :: y)
    | _, _ => none

def noWhen : SV → SV
  | .gd _ _ _ => .junk
  | v => v

/-- The condition under which a slot holds 'want', as far as it is known. -/
def guardP (fr : List (Nat × SV)) : Nat → Nat → Bool → Prop
  | 0, _, _ => True
  | f + 1, d, want => match look fr d with
    | .bool b => b = want
    | .gd d' w' (.bool b) => b = want ∧ guardP fr f d' w'
    | _ => True

/-- Is an operation one that makes or writes memory, or forks? -/
def isEff (T : Tb) (g : Option (Nat × Bool)) (st : St) : SOp → Bool
  | .call f _ => match gx g st.fr f with
    | .yield _ => true
    | .fn k _ => match get? T.fs (bif Nat.blt k FM then k else k - FM) with
      | some (.m _) => true
      | _ => false
    | _ => false
  | .buildSl _ _ _ _ _ => match get? T.fs OWN with
    | some .own => true
    | _ => false
  | o => effS o

def evO (T : Tb) (st : St) (o : SOp) (k : SV → St → Prop) : Prop :=
  bif isEff T none st o then evE T none st (fun s st' => stF st' fun st' => k s st') o else
    match evP T.fs none st o with
    | .fail => False
    | .ok v => k v st
    | .side p v => p ∧ k v st

/-- The two ways of a guard. -/
def guardK (fr : List (Nat × SV)) : Nat → Nat → Bool → Prop → Prop → Prop
  | 0, _, _, _, _ => False
  | f + 1, d, want, Y, N => match look fr d with
    | .bool b => (b = want → Y) ∧ (b = !want → N)
    | .gd d' w' (.bool b) => guardK fr f d' w' ((b = want → Y) ∧ (b = !want → N)) N
    | .gd d' w' .junk => guardK fr f d' w' False N
    | .tup _ => N
    | _ => False

def setD (d : Option Nat) (lab : List Nat) (s : SV) (st : St) (k : St → Prop) : Prop :=
  match d with
  | none => k st
  | some d => bif memN lab d then False else
    forceS s fun s => match s with
    | .gd _ _ _ => False
    | s => match st with
      | ⟨fr, hp, nx⟩ => forceN nx fun nx => k ⟨(d, s) :: fr, hp, nx⟩

/-- The operations of a region, one after the other. 'lab': the slots by which others are guarded. -/
def evOs (T : Tb) : List SOper → List Nat → St → (St → Prop) → Prop
  | [], _, st, k => k st
  | o :: r, lab, st, k =>
    match o.guard with
    | none => evO T st o.op fun s st' => setD o.dst lab s st' fun st'' => evOs T r lab st'' k
    | some (d0, w) =>
      bif isEff T (some (d0, w)) st o.op then
        bif memOpt (d0 :: lab) o.dst then False else
        guardK st.fr 10 d0 w (evE T (some (d0, w)) st (fun s st' => stF st' fun st' => setD o.dst (d0 :: lab) s st' fun st'' => evOs T r (d0 :: lab) st'' k) o.op)
          (setD o.dst (d0 :: lab) (.tup .nil) st fun st'' => evOs T r (d0 :: lab) st'' k)
      else
      match o.dst with
      | none => False
      | some d => bif memN (d0 :: lab) d then False else
        match evP T.fs (some (d0, w)) st o.op with
        | .fail => (guardP st.fr 10 d0 w → False) ∧ stP st fun fr hp nx => evOs T r (d0 :: lab) ⟨(d, .gd d0 w .junk) :: fr, hp, nx⟩ k
        | .ok v => forceS v fun v => stP st fun fr hp nx => evOs T r (d0 :: lab) ⟨(d, .gd d0 w v) :: fr, hp, nx⟩ k
        | .side p v => (guardP st.fr 10 d0 w → p) ∧ forceS v fun v => stP st fun fr hp nx => evOs T r (d0 :: lab) ⟨(d, .gd d0 w v) :: fr, hp, nx⟩ k

/-- The slots that are kept. -/
def trimK (fr : List (Nat × SV)) : List Nat → (List (Nat × SV) → Prop) → Prop
  | [], k => k []
  | n :: r, k => forceS (look fr n) fun s => match s with
    | .gd _ _ _ => trimK fr r k
    | .junk => trimK fr r k
    | s => trimK fr r fun l => k ((n, s) :: l)

section
variable {P : Program} {C : Ctx} {ro : Option Nat}

theorem guardK_sound {E : Env} {t : Array Value} {fr : List (Nat × SV)} (hf : ∀ s, SlotR E t (look fr s) (t.getD s undef)) : ∀ (n d : Nat) (want : Bool) (Y N : Prop), guardK fr n d want Y N →
    (t.getD d undef = .bool want ∧ Y) ∨ (t.getD d undef ≠ .bool want ∧ N) := by
  intro n
  induction n with
  | zero => intro d want Y N h; exact h.elim
  | succ n ih =>
    intro d want Y N h
    have hs := hf d
    simp only [guardK] at h
    have two : ∀ (b : Bool) {Y N : Prop}, t.getD d undef = .bool b → ((b = want → Y) ∧ (b = !want → N)) → (t.getD d undef = .bool want ∧ Y) ∨ (t.getD d undef ≠ .bool want ∧ N) := by
      intro b Y N hb hyn
      rw [hb]
      by_cases e : b = want
      · exact .inl ⟨by rw [e], hyn.1 e⟩
      · refine .inr ⟨fun e' => e (by injection e'), hyn.2 ?_⟩
        cases b <;> cases want <;> simp_all
    split at h
    · rename_i b hb
      rw [hb] at hs
      simp only [SlotR, R] at hs
      exact two b (List.singleton_inj.1 hs) h
    · rename_i d' w' b hb
      rw [hb] at hs
      obtain ⟨h1, h2⟩ := hs
      rcases ih _ _ _ _ h with ⟨e, hy⟩ | ⟨e, hn⟩
      · have := h1 e
        simp only [R] at this
        exact two b (List.singleton_inj.1 this) hy
      · refine .inr ⟨?_, hn⟩
        rw [h2 e]
        intro e'; cases e'
    · rename_i d' w' hb
      rw [hb] at hs
      obtain ⟨h1, h2⟩ := hs
      rcases ih _ _ _ _ h with ⟨e, hy⟩ | ⟨e, hn⟩
      · exact hy.elim
      · refine .inr ⟨?_, hn⟩
        rw [h2 e]
        intro e'; cases e'
    · rename_i l hl
      rw [hl] at hs
      simp only [SlotR, R] at hs
      obtain ⟨cs, hv, _⟩ := hs
      refine .inr ⟨?_, h⟩
      rw [List.singleton_inj.1 hv]
      intro e; cases e
    · exact h.elim

def LabOk (fr : List (Nat × SV)) (lab : List Nat) : Prop := ∀ s d w x, look fr s = .gd d w x → memN lab d = true

theorem evO_sound {T : Tb} (htab : TbOk P C T) {μ : Nat → Option (Nat × Nat)} {st : St} {a : Act} {w : World} (h : RepAt C μ st a w) {o : Oper} {so : SOp} (hc : cOp P o.op = some so) {K : SV → St → Prop}
    (he : evO T st so K) : Acts P C μ st.hp w st.fr K ((execOp a.eval o).run P w) := by
  have hg : GOk none a.tmps := fun _ _ e => by cases e
  unfold evO at he
  cases hb : isEff T none st so with
  | true =>
    simp only [hb, cond_true, stF_eq] at he
    exact evE_sound htab h hg hc he
  | false =>
    simp only [hb, cond_false] at he
    have he' : (evP T.fs none st so).holds (fun v => K v st) := by
      cases hp : evP T.fs none st so <;> rw [hp] at he <;> exact he
    obtain ⟨s, hq, hd⟩ := evP_sound htab.fs h hg hc he'
    refine hd.mono ?_
    rintro v w' ⟨hb, hr⟩
    exact ⟨s, st, μ, hq, rfl, le_of_below hb, h.hep.below hb, hr⟩

theorem RepAt.stepTo {μ μ' : Nat → Option (Nat × Nat)} {st st' : St} {a : Act} {w w' : World} (h : RepAt C μ st a w) (hfr : st'.fr = st.fr) (hE : (envOf C μ st.hp w).Le (envOf C μ' st'.hp w')) (hh : HepAt C μ' st'.hp st'.nx w') : RepAt C μ' st' a w' := by
  have := h.step hE hh
  cases st'
  simp only at hfr
  subst hfr
  exact this

theorem getD_set_same (t : Array Value) (d : Nat) (v : Value) (h : d < t.size) : (t.setIfInBounds d v).getD d undef = v := by
  simp [Array.getD_eq_getD_getElem?, h]
theorem getD_set_other (t : Array Value) (d s : Nat) (v : Value) (h : s ≠ d) : (t.setIfInBounds d v).getD s undef = t.getD s undef := by
  simp [Array.getD_eq_getD_getElem?, Array.getElem?_setIfInBounds_ne (Ne.symm h)]

theorem look_cons (d : Nat) (s : SV) (fr : List (Nat × SV)) (n : Nat) : look ((d, s) :: fr) n = if d = n then s else look fr n := by
  unfold look
  rw [get?_cons]
  split <;> rfl

theorem SlotR_put {E : Env} {t : Array Value} {d : Nat} {v : Value} {s : SV} {x : Value} {lab : List Nat} (hl : memN lab d = false) (hs : ∀ d' w y, s = .gd d' w y → memN lab d' = true) (h : SlotR E t s x) :
    SlotR E (t.setIfInBounds d v) s x := by
  cases s with
  | gd d' w y =>
    have : d' ≠ d := by
      rintro rfl
      have := hs _ _ _ rfl
      rw [hl] at this
      cases this
    simp only [SlotR] at *
    rw [getD_set_other _ _ _ _ this]
    exact h
  | _ => exact h

/-- A slot is set. -/
theorem RepAt.set {μ : Nat → Option (Nat × Nat)} {st : St} {a : Act} {w : World} (h : RepAt C μ st a w) {lab : List Nat} (hlab : LabOk st.fr lab) {d : Nat} (hd : d < C.n) (hm : memN lab d = false) {s : SV} {v : Value}
    (hs : SlotR (envOf C μ st.hp w) (a.tmps.setIfInBounds d v) s v) : RepAt C μ { st with fr := (d, s) :: st.fr } (a.put (some d) v) w where
  size := by simp [Act.put, h.size]
  defers := h.defers
  fr := by
    intro n
    simp only [Act.put]
    rw [look_cons]
    by_cases hn : d = n
    · subst hn
      rw [if_pos rfl, getD_set_same _ _ _ (by rw [h.size]; exact hd)]
      exact hs
    · rw [if_neg hn, getD_set_other _ _ _ _ (Ne.symm hn)]
      exact SlotR_put hm (fun d' w y e => hlab n d' w y e) (h.fr n)
  hep := h.hep
  le := h.le
  kd := h.kd

theorem R_slot {E : Env} {t : Array Value} {s : SV} {v : Value} (h : R E s [v]) (hn : ∀ d w x, s ≠ .gd d w x) : SlotR E t s v := by
  cases s <;> first
    | exact h
    | exact absurd rfl (hn _ _ _)

theorem LabOk.cons {fr : List (Nat × SV)} {lab : List Nat} (h : LabOk fr lab) {d : Nat} {s : SV} (hs : ∀ d' w x, s = .gd d' w x → memN lab d' = true) : LabOk ((d, s) :: fr) lab := by
  intro n d' w x e
  rw [look_cons] at e
  split at e
  · exact hs d' w x e
  · exact h n d' w x e

theorem wanted_iff {ops : Array Oper} {o : Oper} {t : Array Value} {g : Option (Nat × Bool)} (h : cGuard ops.toList o.guard = some g) :
    Region.wanted o (yielded ops t) = true ↔ GOk g t := by
  unfold cGuard at h
  split at h
  · rename_i hg
    cases h
    simp only [Region.wanted, hg]
    exact ⟨(fun _ _ _ e => by cases e), fun _ => trivial⟩
  · rename_i j w hg
    split at h
    · rename_i oj hj
      split at h
      · rename_i d hd
        cases h
        have hj' : ops[j]? = some oj := by simpa using hj
        simp only [Region.wanted, hg, yielded, hj', Option.bind_some, hd]
        constructor
        · intro hh d' w' e
          cases e
          rw [Array.getD_eq_getD_getElem?]
          cases ht : t[d]? with
          | none => simp [ht] at hh
          | some x => cases x <;> simp [ht] at hh ⊢; exact hh
        · intro hh
          have := hh d w rfl
          rw [Array.getD_eq_getD_getElem?] at this
          cases ht : t[d]? with
          | none => simp [ht, undef] at this
          | some x => simp [ht] at this; subst this; simp
      · cases h
    · cases h

theorem guardP_sound {E : Env} {a : Act} {fr : List (Nat × SV)} (hf : ∀ s, SlotR E a.tmps (look fr s) (a.tmps.getD s undef)) : ∀ (f d : Nat) (w : Bool), a.tmps.getD d undef = .bool w → guardP fr f d w := by
  intro f
  induction f with
  | zero => intro d w _; trivial
  | succ f ih =>
    intro d w hd
    have h := hf d
    simp only [guardP]
    split
    · rename_i b hb
      rw [hb, hd] at h
      have : R E (.bool b) [.bool w] := h
      simp only [R] at this
      have := List.singleton_inj.1 this
      cases this
      rfl
    · rename_i d' w' b hb
      rw [hb, hd] at h
      obtain ⟨h1, h2⟩ := h
      by_cases hc : a.tmps.getD d' undef = .bool w'
      · have := h1 hc
        simp only [R] at this
        have := List.singleton_inj.1 this
        cases this
        exact ⟨rfl, ih d' w' hc⟩
      · have := h2 hc
        cases this
    · trivial

theorem evOs_sound {T : Tb} (htab : TbOk P C T) {ops : Array Oper} {Q : Exit → Act → World → Prop} {K : St → Prop}
    (hK : ∀ st μ a w, K st → RepAt C μ st a w → Q .normal a w) :
    ∀ (l : List Oper) (sl : List SOper) (lab : List Nat) (μ : Nat → Option (Nat × Nat)) (st : St) (a : Act) (w : World), cOpers P C.n ops.toList l = some sl → LabOk st.fr lab → RepAt C μ st a w → evOs T sl lab st K →
      wpListIn (WF ro) 0 P ops Q l a w := by
  intro l
  induction l with
  | nil =>
    intro sl lab μ st a w hc hlab h he
    simp only [cOpers, Option.some.injEq] at hc
    subst hc
    exact wpListIn_nil (hK _ _ _ _ he h)
  | cons o r ih =>
    intro sl lab μ st a w hc hlab h he
    simp only [cOpers] at hc
    split at hc
    · rename_i so sr h1 h2
      cases hc
      unfold cOper at h1
      split at h1
      · rename_i sop g h3 h4
        cases hdst : dstOk C.n o.dst with
        | false => simp [hdst] at h1
        | true =>
          simp only [hdst, cond_true, Option.some.injEq] at h1
          subst h1
          have hnd : ∀ c, o.op ≠ .defer c := by
            rintro c e
            rw [e] at h3
            simp [cOp] at h3
          have hdn : ∀ d, o.dst = some d → d < C.n := by
            intro d e
            rw [e] at hdst
            have h1 : Nat.ble (d + 1) C.n = true := hdst
            exact Nat.le_of_ble_eq_true h1
          simp only [evOs] at he
          cases g with
          | none =>
            simp only at he
            have hw : Region.wanted o (yielded ops a.tmps) = true := (wanted_iff h4).2 (fun _ _ e => by cases e)
            simp only [wpListIn, hw, if_true]
            refine wpIn_of_does hnd ?_
            refine (evO_sound htab h h3 he).mono ?_
            rintro v w' ⟨s, st', μ', hk, hfr, hE, hh, hR⟩
            have hrep := h.stepTo hfr hE hh
            obtain ⟨fr1, hp1, nx1⟩ := st'
            unfold setD at hk
            split at hk
            · rename_i hdn'
              rw [hdn']
              exact ih sr lab μ' ⟨fr1, hp1, nx1⟩ a w' h2 (by rw [hfr]; exact hlab) hrep hk
            · rename_i d hd'
              cases hm : memN lab d with
              | true => simp [hm] at hk
              | false =>
                simp only [hm, cond_false, forceS_eq, forceN_eq] at hk
                split at hk
                · exact hk.elim
                · rename_i hnw
                  rw [hd']
                  have hlab' : LabOk fr1 lab := by rw [show fr1 = st.fr from hfr]; exact hlab
                  exact ih sr lab μ' ⟨(d, _) :: fr1, hp1, nx1⟩ _ w' h2 (hlab'.cons (fun d' w x e => absurd e (hnw d' w x))) (hrep.set hlab' (hdn d hd') hm (R_slot hR hnw)) hk
          | some gw =>
            obtain ⟨d0, gwant⟩ := gw
            simp only at he
            cases hie : isEff T (some (d0, gwant)) st sop with
            | true =>
              simp only [hie, cond_true, stF_eq] at he
              cases hmo : memOpt (d0 :: lab) o.dst with
              | true => simp [hmo] at he
              | false =>
              simp only [hmo, cond_false] at he
              have hlab0 : LabOk st.fr (d0 :: lab) := by
                intro s d' w x e
                have := hlab s d' w x e
                simp only [memN]
                cases Nat.beq d0 d' <;> simp [this]
              -- the slot is set
              have cont : ∀ (st' : St) (μ' : Nat → Option (Nat × Nat)) (v : Value) (w' : World) (s : SV), st'.fr = st.fr → RepAt C μ' st' a w' → R (envOf C μ' st'.hp w') s [v] → setD o.dst (d0 :: lab) s st' (fun st'' => evOs T sr (d0 :: lab) st'' K) → wpListIn (WF ro) 0 P ops Q r (a.put o.dst v) w' := by
                intro st' μ' v w' s hfr hrep hR hk
                obtain ⟨fr1, hp1, nx1⟩ := st'
                unfold setD at hk
                split at hk
                · rename_i hdn'
                  rw [hdn']
                  exact ih sr (d0 :: lab) μ' ⟨fr1, hp1, nx1⟩ a w' h2 (by rw [hfr]; exact hlab0) hrep hk
                · rename_i d hd'
                  cases hm : memN (d0 :: lab) d with
                  | true => simp [hm] at hk
                  | false =>
                    simp only [hm, cond_false, forceS_eq, forceN_eq] at hk
                    split at hk
                    · exact hk.elim
                    · rename_i hnw
                      rw [hd']
                      have hlab' : LabOk fr1 (d0 :: lab) := by rw [show fr1 = st.fr from hfr]; exact hlab0
                      exact ih sr (d0 :: lab) μ' ⟨(d, _) :: fr1, hp1, nx1⟩ _ w' h2 (hlab'.cons (fun d' w x e => absurd e (hnw d' w x))) (hrep.set hlab' (hdn d hd') hm (R_slot hR hnw)) hk
              rcases guardK_sound h.fr 10 d0 gwant _ _ he with ⟨hgd, hy⟩ | ⟨hgd, hn⟩
              · have hg : GOk (some (d0, gwant)) a.tmps := by intro d w e; cases e; exact hgd
                have hw : Region.wanted o (yielded ops a.tmps) = true := (wanted_iff h4).2 hg
                simp only [wpListIn, hw, if_true]
                refine wpIn_of_does hnd ?_
                refine (evE_sound htab h hg h3 hy).mono ?_
                rintro v w' ⟨s, st', μ', hk, hfr, hE, hh, hR⟩
                exact cont st' μ' v w' s hfr (h.stepTo hfr hE hh) hR hk
              · have hw : ¬ Region.wanted o (yielded ops a.tmps) = true := by
                  intro e
                  exact hgd ((wanted_iff h4).1 e d0 gwant rfl)
                simp only [wpListIn, hw]
                exact ⟨fun f _ => WF_fn ro f, cont st μ undef w (.tup .nil) rfl h ⟨[], rfl, rfl⟩ hn⟩
            | false =>
            simp only [hie, cond_false, forceS_eq, stP_eq] at he
            split at he
            · exact he.elim
            · rename_i d hd'
              cases hm : memN (d0 :: lab) d with
              | true => simp [hm] at he
              | false =>
                simp only [hm, cond_false] at he
                have hlab0 : LabOk st.fr (d0 :: lab) := by
                  intro s d' w x e
                  have := hlab s d' w x e
                  simp only [memN]
                  cases Nat.beq d0 d' <;> simp [this]
                have hd0 : memN (d0 :: lab) d0 = true := by simp [memN, Nat.beq_refl]
                have hne : d0 ≠ d := by rintro rfl; rw [hd0] at hm; cases hm
                -- both ways
                have key : ∀ v, evOs T sr (d0 :: lab) { fr := (d, .gd d0 gwant v) :: st.fr, hp := st.hp, nx := st.nx } K → (evP T.fs (some (d0, gwant)) st sop = .ok v ∨ ∃ p, (guardP st.fr 10 d0 gwant → p) ∧ evP T.fs (some (d0, gwant)) st sop = .side p v) →
                    wpListIn (WF ro) 0 P ops Q (o :: r) a w := by
                  intro v hrest hev
                  have hlab1 : LabOk ((d, .gd d0 gwant v) :: st.fr) (d0 :: lab) := hlab0.cons (fun d' w x e => by cases e; exact hd0)
                  by_cases hw : Region.wanted o (yielded ops a.tmps) = true
                  · have hg := (wanted_iff h4).1 hw
                    have hgd : a.tmps.getD d0 undef = .bool gwant := hg d0 gwant rfl
                    have he' : (evP T.fs (some (d0, gwant)) st sop).holds (fun x => x = v) := by
                      rcases hev with e | ⟨p, hp, e⟩
                      · rw [e]; rfl
                      · rw [e]; exact ⟨hp (guardP_sound h.fr 10 d0 gwant hgd), rfl⟩
                    simp only [wpListIn, hw, if_true]
                    refine wpIn_of_does hnd ?_
                    obtain ⟨s, rfl, hdo⟩ := evP_sound htab.fs h hg h3 he'
                    refine hdo.mono ?_
                    rintro u w' ⟨hb, hr⟩
                    rw [hd']
                    refine ih sr (d0 :: lab) μ _ _ w' h2 hlab1 ((h.below hb).set hlab0 (hdn d hd') hm ?_) hrest
                    simp only [SlotR]
                    rw [getD_set_other _ _ _ _ hne, hgd]
                    exact ⟨fun _ => hr, fun e => absurd rfl e⟩
                  · have hg : ¬ a.tmps.getD d0 undef = .bool gwant := by
                      intro e
                      exact hw ((wanted_iff h4).2 (fun d' w' e' => by cases e'; exact e))
                    simp only [wpListIn, hw]
                    refine ⟨fun f _ => WF_fn ro f, ?_⟩
                    rw [hd']
                    refine ih sr (d0 :: lab) μ _ _ w h2 hlab1 (h.set hlab0 (hdn d hd') hm ?_) hrest
                    simp only [SlotR]
                    rw [getD_set_other _ _ _ _ hne]
                    exact ⟨fun e => absurd e hg, fun _ => trivial⟩
                split at he
                · obtain ⟨hnp, hrest⟩ := he
                  have hlab1 : LabOk ((d, .gd d0 gwant .junk) :: st.fr) (d0 :: lab) := hlab0.cons (fun d' w x e => by cases e; exact hd0)
                  by_cases hw : Region.wanted o (yielded ops a.tmps) = true
                  · exact (hnp (guardP_sound h.fr 10 d0 gwant ((wanted_iff h4).1 hw d0 gwant rfl))).elim
                  · have hg : ¬ a.tmps.getD d0 undef = .bool gwant := by
                      intro e
                      exact hw ((wanted_iff h4).2 (fun d' w' e' => by cases e'; exact e))
                    simp only [wpListIn, hw]
                    refine ⟨fun f _ => WF_fn ro f, ?_⟩
                    rw [hd']
                    refine ih sr (d0 :: lab) μ _ _ w h2 hlab1 (h.set hlab0 (hdn d hd') hm ?_) hrest
                    simp only [SlotR]
                    rw [getD_set_other _ _ _ _ hne]
                    exact ⟨fun e => absurd e hg, fun _ => trivial⟩
                · rename_i v hv
                  exact key v he (.inl hv)
                · rename_i p v hv
                  exact key v he.2 (.inr ⟨p, he.1, hv⟩)
      · cases h1
    · cases hc

theorem trimK_sound {μ : Nat → Option (Nat × Nat)} {a : Act} {w : World} {hp : List (Nat × HObj)} {nx : Nat} {fr : List (Nat × SV)} (h : RepAt C μ ⟨fr, hp, nx⟩ a w) :
    ∀ (l : List Nat) (K : List (Nat × SV) → Prop), trimK fr l K → ∃ fr', K fr' ∧ LabOk fr' [] ∧ RepAt C μ ⟨fr', hp, nx⟩ a w := by
  intro l
  induction l with
  | nil =>
    intro K hk
    exact ⟨[], hk, fun s d w x e => by simp [look, get?] at e, h.frame (st := ⟨fr, hp, nx⟩) (fun s => SlotR_junk _ _ _)⟩
  | cons n r ih =>
    intro K hk
    simp only [trimK, forceS_eq] at hk
    split at hk
    · exact ih K hk
    · exact ih K hk
    · rename_i s hnw hnj
      obtain ⟨fr', h1, h2, h3⟩ := ih _ hk
      refine ⟨_, h1, h2.cons (fun d' w x e => absurd e (hnw d' w x)), ?_⟩
      refine h3.frame (st := ⟨fr', hp, nx⟩) (fun m => ?_)
      rw [look_cons]
      split
      · rename_i e; subst e; exact h.fr n
      · exact h3.fr m
end
end Go.Eng
