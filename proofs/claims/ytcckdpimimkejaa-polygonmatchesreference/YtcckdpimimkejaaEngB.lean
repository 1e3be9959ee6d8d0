/- The engine, part 2: the abstract store, and how it stands for an activation and a world. -/
import Derived.Test.YtcckdpimimkejaaEngA
namespace Go.Eng
open Go Go.RowKit

/-- A map's key. -/
inductive MKey where
  | s (b : List UInt8)
  | i (k : IntKind) (n : Int)
  | a (x y : Int)
  deriving DecidableEq

/-- The kinds of keys: texts, numbers, pairs of numbers. -/
inductive KK where
  | s
  | i (k : IntKind)
  | a
  deriving DecidableEq, Repr
def MKey.kind : MKey → KK
  | .s _ => .s
  | .i k _ => .i k
  | .a _ _ => .a

def MKey.val : MKey → Value
  | .s b => .string ⟨b.toArray⟩
  | .i k n => .int k n
  | .a x y => .agg #[.int .i64 x, .int .i64 y]
def MKey.sv : MKey → SV
  | .s b => .str b
  | .i k n => .int k n
  | .a x y => .agg (.cons (.int .i64 x) (.cons (.int .i64 y) .nil))

/-- A tracked object. fam: a family of them; gone: none (yet); hid: the record of a range over a function (its label; how far it has come: 0 ready, 1 in a round, 2 left by return, n + 3 left by exit n). -/
inductive HObj where
  | cells (T : TypeId) (l : SV)
  | arr (T : TypeId) (sz len : Nat) (enc : Nat → SV)
  | obj (o : Obj)
  | map (V : Type) (kk : KK) (l : List (MKey × V × Nat)) (clock : Nat) (ev : V → SV) (iv : SV → Option V)
  | iter (src : SV) (since : Nat) (seen : List Nat) (last : Nat)
  | fam (f : Nat → HObj)
  | hid (lab pd : Nat)
  | gone

/-- The entries of a map. -/
def EntR (E : Env) {V : Type} (ev : V → SV) : List (MKey × V × Nat) → List MapEntry → Prop
  | [], es => es = []
  | x :: r, es => ∃ e t, es = e :: t ∧ e.key = x.1.val ∧ R E (ev x.2.1) [e.val] ∧ e.born = x.2.2 ∧ EntR E ev r t

def HR (E : Env) : HObj → Nat → Obj → Prop
  | .cells T l, _, o => ∃ cs, o = .cells cs.toArray T (0, 0) ∧ R E l cs
  | .arr T sz len enc, c, o => ∃ cs : List Value, o = .cells cs.toArray T (0, 0) ∧ cs.length = c * sz ∧ len ≤ c ∧
      ∀ i, i < len → ∃ xs, R E (enc i) xs ∧ xs.length = sz ∧ ∀ j v, xs[j]? = some v → cs[i * sz + j]? = some v
  | .obj o', _, o => o = o' ∧ (∀ r, o' ≠ .loop r) ∧ ∀ ds, o' ≠ .deferred ds
  | .map _ kk l clock ev _, _, o => (∀ x ∈ l, x.1.kind = kk) ∧ ∃ es, o = .map es.toArray clock ∧ EntR E ev l es
  | .iter src since seen last, _, o => ∃ r, R E src [.map r] ∧ o = .mapIter r since seen.toArray last
  | .hid lab pd, _, o => E.H lab pd o
  | .fam _, _, _ => False
  | .gone, _, _ => False

theorem EntR.mono {E E' : Env} (hE : E.Le E') {V : Type} {ev : V → SV} : ∀ {l : List (MKey × V × Nat)} {es : List MapEntry}, EntR E ev l es → EntR E' ev l es := by
  intro l
  induction l with
  | nil => intro es h; exact h
  | cons x r ih =>
    intro es h
    obtain ⟨e, t, h1, h2, h3, h4, h5⟩ := h
    exact ⟨e, t, h1, h2, R_mono hE h3, h4, ih h5⟩

theorem HR.mono {E E' : Env} (hE : E.Le E') {h : HObj} {c : Nat} {o : Obj} (k : HR E h c o) : HR E' h c o := by
  cases h with
  | cells T l => obtain ⟨cs, h1, h2⟩ := k; exact ⟨cs, h1, R_mono hE h2⟩
  | arr T sz len enc =>
    obtain ⟨cs, h1, h2, h3, h4⟩ := k
    refine ⟨cs, h1, h2, h3, fun i hi => ?_⟩
    obtain ⟨xs, a, b, c⟩ := h4 i hi
    exact ⟨xs, R_mono hE a, b, c⟩
  | obj o' => exact k
  | hid lab pd => exact hE.H _ _ _ k
  | map V kk l clock ev iv => obtain ⟨h0, es, h1, h2⟩ := k; exact ⟨h0, es, h1, h2.mono hE⟩
  | iter src since seen last => obtain ⟨r, h1, h2⟩ := k; exact ⟨r, R_mono hE h1, h2⟩
  | fam f => exact k
  | gone => exact k

universe u
/-- The first pair with a number. -/
def get? {α : Type u} : List (Nat × α) → Nat → Option α
  | [], _ => none
  | (k, v) :: r, n => bif Nat.beq k n then some v else get? r n

def look (f : List (Nat × SV)) (n : Nat) : SV := (get? f n).getD .junk

def drop? {α : Type u} : List (Nat × α) → Nat → List (Nat × α)
  | [], _ => []
  | (k, v) :: r, n => bif Nat.beq k n then drop? r n else (k, v) :: drop? r n

theorem get?_nil {α : Type u} (n : Nat) : get? ([] : List (Nat × α)) n = none := rfl
theorem get?_cons {α : Type u} (k : Nat) (v : α) (r : List (Nat × α)) (n : Nat) : get? ((k, v) :: r) n = if k = n then some v else get? r n := by
  simp only [get?]
  by_cases h : k = n
  · subst h; simp [Nat.beq_refl]
  · have : Nat.beq k n = false := by
      cases hb : Nat.beq k n with
      | false => rfl
      | true => exact absurd (Nat.eq_of_beq_eq_true hb) h
    simp [this, h]
theorem get?_drop {α : Type u} (l : List (Nat × α)) (k n : Nat) : get? (drop? l k) n = if k = n then none else get? l n := by
  induction l with
  | nil => simp [drop?, get?]
  | cons p r ih =>
    obtain ⟨j, v⟩ := p
    simp only [drop?]
    by_cases hj : j = k
    · subst hj
      simp only [Nat.beq_refl, cond_true, ih, get?_cons]
      by_cases h : j = n <;> simp [h]
    · have hb : Nat.beq j k = false := by
        cases hb : Nat.beq j k with
        | false => rfl
        | true => exact absurd (Nat.eq_of_beq_eq_true hb) hj
      simp only [hb, cond_false, get?_cons, ih]
      by_cases h : j = n
      · subst h
        have : ¬ k = j := fun e => hj e.symm
        simp [this]
      · by_cases h' : k = n <;> simp [h, h']

/-- The abstract store: slots, tracked objects, the next free number. -/
structure St where
  fr : List (Nat × SV)
  hp : List (Nat × HObj)
  nx : Nat

/-- What is fixed while a function runs (or the rounds of a range over a function): H: what the records of loops are like; R0: how all was when it began, as far as it does not change; its number of slots; the world in which it was entered; the blocks (of old ones) that it may change; the old ones that it is told of. -/
structure Ctx where
  n : Nat
  w0 : World
  T : Nat → Prop
  U0 : Nat → Prop
  pin : Nat → Option (Nat × Nat)
  np : List Nat
  bnd : Nat
  H : Nat → Nat → Obj → Prop
  dep : Nat
  Hd : ∀ l p o, H l p o → l < dep
  Hl : ∀ l p o, H l p o → ∃ r, o = .loop r
  R0 : Env

/-- The blocks of which anything can be said. -/
def Ctx.B (C : Ctx) (b : Nat) : Prop := C.U0 b ∨ C.T b ∨ C.w0.heap.size ≤ b

/-- What an activation leaves as it was. -/
structure Frm (T : Nat → Prop) (w w' : World) : Prop where
  os : w'.os = w.os
  tape : w'.tape = w.tape
  output : w'.output = w.output
  size : w.heap.size ≤ w'.heap.size
  block : ∀ b, b < w.heap.size → ¬ T b → w'.heap[b]? = w.heap[b]?
  drawn : w.drawn ≤ w'.drawn

theorem Frm.refl (T : Nat → Prop) (w : World) : Frm T w w := ⟨rfl, rfl, rfl, Nat.le_refl _, fun _ _ _ => rfl, Nat.le_refl _⟩
theorem Frm.trans {T : Nat → Prop} {a b c : World} (h : Frm T a b) (k : Frm T b c) : Frm T a c :=
  ⟨k.os.trans h.os, k.tape.trans h.tape, k.output.trans h.output, Nat.le_trans h.size k.size,
    fun i hi ht => (k.block i (Nat.lt_of_lt_of_le hi h.size) ht).trans (h.block i hi ht), Nat.le_trans h.drawn k.drawn⟩
/-- Two steps, the second of which may change blocks that are new, too. -/
theorem Frm.trans' {T T' : Nat → Prop} {a b c : World} (h : Frm T a b) (k : Frm T' b c) (hT : ∀ i, T' i → T i ∨ a.heap.size ≤ i) : Frm T a c :=
  ⟨k.os.trans h.os, k.tape.trans h.tape, k.output.trans h.output, Nat.le_trans h.size k.size,
    fun i hi ht => (k.block i (Nat.lt_of_lt_of_le hi h.size) (fun e => by rcases hT i e with h' | h'; exact ht h'; omega)).trans (h.block i hi ht), Nat.le_trans h.drawn k.drawn⟩
theorem Frm.of_below {T : Nat → Prop} {w w' : World} (h : Below w.heap.size w w') : Frm T w w' :=
  ⟨h.os, h.tape, h.output, h.size, fun b hb _ => h.block b hb, h.drawn⟩
theorem Frm.below {w w' : World} (h : Frm (fun _ => False) w w') : Below w.heap.size w w' :=
  ⟨h.os, h.tape, h.output, h.size, fun b hb => h.block b hb id, h.drawn⟩

/-! ### The tracked objects, the members of families among them -/
def solid? : HObj → Option HObj
  | .fam _ => none
  | .gone => none
  | .arr T sz len enc => if len = 0 then none else some (.arr T sz len enc)
  | o => some o
theorem solid_arr {T sz len : Nat} {enc : Nat → SV} (h : 0 < len) : solid? (.arr T sz len enc) = some (.arr T sz len enc) := by simp [solid?]; omega
theorem solid_arr0 {T sz : Nat} {enc : Nat → SV} : solid? (.arr T sz 0 enc) = none := by simp [solid?]

/-- A member of a family that is a solid object, and no record of a loop. -/
def solidF? : HObj → Option HObj
  | .hid _ _ => none
  | o => solid? o

theorem solidF?_solid {o o' : HObj} (h : solidF? o = some o') : solid? o = some o' := by
  cases o <;> simp [solidF?] at h <;> exact h
theorem solid?_self {o o' : HObj} (h : solid? o = some o') : o' = o := by
  cases o <;> simp [solid?] at h <;> first | exact h.symm | exact h.2.symm
theorem solid?_idem {o o' : HObj} (h : solid? o = some o') : solid? o' = some o' := by
  have := solid?_self h
  subst this
  exact h

def hget (hp : List (Nat × HObj)) (n : Nat) : Option HObj :=
  if n < FB then (get? hp n).bind solid?
  else match get? hp (n % FB) with
    | some (.fam f) => solidF? (f (n / FB - 1))
    | _ => none

theorem FB_pos : 0 < FB := by decide
theorem fid_ge (h i : Nat) : FB ≤ fid h i := by unfold fid; have : FB * 1 ≤ FB * (i + 1) := Nat.mul_le_mul_left _ (by omega); omega
theorem fid_mod {h : Nat} (i : Nat) (hh : h < FB) : fid h i % FB = h := by unfold fid; rw [Nat.add_mul_mod_self_left, Nat.mod_eq_of_lt hh]
theorem fid_div {h : Nat} (i : Nat) (hh : h < FB) : fid h i / FB - 1 = i := by
  unfold fid
  rw [Nat.add_mul_div_left _ _ FB_pos, Nat.div_eq_of_lt hh]
  omega
theorem fid_of {n : Nat} (h : FB ≤ n) : fid (n % FB) (n / FB - 1) = n := by
  unfold fid
  have h1 : 1 ≤ n / FB := (Nat.one_le_div_iff FB_pos).2 h
  have : n / FB - 1 + 1 = n / FB := by omega
  rw [this]
  exact Nat.mod_add_div n FB
theorem fid_inj {h h' i i' : Nat} (hh : h < FB) (hh' : h' < FB) (e : fid h i = fid h' i') : h = h' ∧ i = i' := by
  constructor
  · rw [← fid_mod i hh, e, fid_mod i' hh']
  · rw [← fid_div i hh, e, fid_div i' hh']

theorem hget_low {hp : List (Nat × HObj)} {n : Nat} (h : n < FB) : hget hp n = (get? hp n).bind solid? := by simp [hget, h]
theorem hget_of_get {hp : List (Nat × HObj)} {n : Nat} {o : HObj} (h : n < FB) (hg : get? hp n = some o) (hs : solid? o = some o) : hget hp n = some o := by
  rw [hget_low h, hg]; exact hs
theorem hget_fam {hp : List (Nat × HObj)} {h i : Nat} {f : Nat → HObj} (hh : h < FB) (hg : get? hp h = some (.fam f)) : hget hp (fid h i) = solidF? (f i) := by
  have h1 : ¬ fid h i < FB := Nat.not_lt.2 (fid_ge h i)
  simp only [hget, h1, if_false, fid_mod i hh, fid_div i hh, hg]
theorem hget_solid {hp : List (Nat × HObj)} {n : Nat} {o : HObj} (h : hget hp n = some o) : solid? o = some o := by
  unfold hget at h
  split at h
  · simp only [Option.bind_eq_some_iff] at h
    obtain ⟨o', _, h2⟩ := h
    exact solid?_idem h2
  · split at h
    · exact solid?_idem (solidF?_solid h)
    · cases h

/-- A solid object, put where a solid one or nothing was. -/
theorem hget_cons {hp : List (Nat × HObj)} {id : Nat} {x : HObj} (hid : id < FB) (hx : solid? x = some x) (hold : ∀ f, get? hp id ≠ some (.fam f)) (n : Nat) :
    hget ((id, x) :: hp) n = if id = n then some x else hget hp n := by
  by_cases hn : n < FB
  · rw [hget_low hn, hget_low hn, get?_cons]
    by_cases e : id = n
    · simp [e, hx]
    · simp [e]
  · have hne : ¬ id = n := by omega
    simp only [hget, hn, if_false, hne, get?_cons]
    by_cases e : id = n % FB
    · simp only [e, if_true]
      have := hold
      rw [e] at this
      cases x <;> simp [solid?] at hx <;> (cases hg : get? hp (n % FB) with
        | none => rfl
        | some o => cases o <;> first | rfl | exact absurd hg (this _))
    · simp [e]

/-- A member of a family, put in place. -/
theorem hget_famPut {hp : List (Nat × HObj)} {h i : Nat} {f : Nat → HObj} {x : HObj} (hh : h < FB) (hg : get? hp h = some (.fam f)) (hx : solidF? x = some x) (n : Nat) :
    hget ((h, .fam fun j => bif Nat.beq j i then x else f j) :: hp) n = if fid h i = n then some x else hget hp n := by
  by_cases hn : n < FB
  · have hne : ¬ fid h i = n := by have := fid_ge h i; omega
    rw [hget_low hn, hget_low hn, get?_cons, if_neg hne]
    by_cases e : h = n
    · subst e; simp [hg, solid?]
    · simp [e]
  · simp only [hget, hn, if_false, get?_cons]
    by_cases e : h = n % FB
    · simp only [e, if_true]
      rw [e] at hg
      simp only [hg]
      by_cases e2 : n / FB - 1 = i
      · have : fid h i = n := by rw [e, ← e2]; exact fid_of (by omega)
        rw [e] at this
        simp [this, e2, Nat.beq_refl, hx]
      · have hb : Nat.beq (n / FB - 1) i = false := by
          cases hb : Nat.beq (n / FB - 1) i with
          | false => rfl
          | true => exact absurd (Nat.eq_of_beq_eq_true hb) e2
        have : ¬ fid (n % FB) i = n := by
          intro e3
          apply e2
          have := fid_div i (h := n % FB) (by rw [← e]; exact hh)
          rw [e3] at this
          exact this
        simp [this, hb]
    · have : ¬ fid h i = n := by rintro rfl; exact e (fid_mod i hh).symm
      simp [e, this]

/-- The blocks that no tracked object is in. -/
def Ufor (C : Ctx) (μ : Nat → Option (Nat × Nat)) (hp : List (Nat × HObj)) (w : World) : Nat → Prop :=
  fun b => b < w.heap.size ∧ C.B b ∧ (∀ id o c, hget hp id = some o → μ id ≠ some (b, c)) ∧ Plain w b

def envOf (C : Ctx) (μ : Nat → Option (Nat × Nat)) (hp : List (Nat × HObj)) (w : World) : Env := ⟨μ, Ufor C μ hp w, w, C.H⟩

/-- A slot: 'gd d want x' is x if slot d holds 'want', and else nothing. -/
def SlotR (E : Env) (t : Array Value) : SV → Value → Prop
  | .gd d want x, v => (t.getD d undef = .bool want → R E x [v]) ∧ (t.getD d undef ≠ .bool want → v = undef)
  | s, v => R E s [v]

structure HpR (E : Env) (hp : List (Nat × HObj)) : Prop where
  keys : ∀ id o, get? hp id = some o → id < FB
  obj : ∀ id o, hget hp id = some o → ∃ b c x, E.μ id = some (b, c) ∧ E.w.heap[b]? = some x ∧ HR E o c x

def InjR (μ : Nat → Option (Nat × Nat)) (hp : List (Nat × HObj)) : Prop :=
  ∀ id id' o o' b c c', hget hp id = some o → hget hp id' = some o' → μ id = some (b, c) → μ id' = some (b, c') → id = id'

/-- The heap's part of what is said of a store. -/
structure HepAt (C : Ctx) (μ : Nat → Option (Nat × Nat)) (hp : List (Nat × HObj)) (nx : Nat) (w : World) : Prop where
  obj : HpR (envOf C μ hp w) hp
  inj : InjR μ hp
  mine : ∀ id o b c, hget hp id = some o → μ id = some (b, c) → C.T b ∨ C.w0.heap.size ≤ b
  keys : ∀ id o, get? hp id = some o → id < nx
  nx : ∀ id p, μ id = some p → id < FB → id < nx
  fam : ∀ id p, μ id = some p → FB ≤ id → ∃ o, hget hp id = some o
  pin : ∀ id p, C.pin id = some p → μ id = some p
  frm : Frm C.T C.w0 w

/-- The marks of the ranges over functions among an activation's deferred calls. -/
def DfOk (w0 w : World) (l : List Deferred) : Prop :=
  l.Pairwise (fun d d' => d.target ≠ d'.target) ∧ ∀ d ∈ l, ∃ D, d = { target := .collected D, args := #[] } ∧ w0.heap.size ≤ D ∧ w.heap[D]? = some (.deferred (some []))
theorem DfOk.nil (w0 w : World) : DfOk w0 w [] := ⟨.nil, (fun _ h => by cases h)⟩
structure RepAt (C : Ctx) (μ : Nat → Option (Nat × Nat)) (st : St) (a : Act) (w : World) : Prop where
  size : a.tmps.size = C.n
  defers : DfOk C.R0.w w a.defers
  fr : ∀ s, SlotR (envOf C μ st.hp w) a.tmps (look st.fr s) (a.tmps.getD s undef)
  hep : HepAt C μ st.hp st.nx w
  le : C.R0.LeU (envOf C μ st.hp w)
  kd : Kd C.R0.w w

theorem SlotR.mono {E E' : Env} (hE : E.Le E') {t : Array Value} {s : SV} {v : Value} (h : SlotR E t s v) : SlotR E' t s v := by
  cases s <;> first
    | exact R_mono hE h
    | exact ⟨fun e => R_mono hE (h.1 e), h.2⟩

theorem defersOk {w0 w w' : World} (hk : Kd w w') {l : List Deferred} (h : DfOk w0 w l) : DfOk w0 w' l := by
  refine ⟨h.1, fun d hd => ?_⟩
  obtain ⟨D, h1, h2, h3⟩ := h.2 d hd
  exact ⟨D, h1, h2, hk.dfr _ _ h3⟩

/-- The world and the heap take a step; the slots stay. -/
theorem RepAt.step {C : Ctx} {μ μ' : Nat → Option (Nat × Nat)} {st : St} {a : Act} {w w' : World} {hp' : List (Nat × HObj)} {nx' : Nat}
    (h : RepAt C μ st a w) (hE : (envOf C μ st.hp w).Le (envOf C μ' hp' w')) (hh : HepAt C μ' hp' nx' w') : RepAt C μ' { st with hp := hp', nx := nx' } a w' :=
  ⟨h.size, defersOk hE.kd h.defers, fun s => (h.fr s).mono hE, hh, h.le.trans hE.toLeU, h.kd.trans hE.kd⟩

/-- Nothing that was there is changed. -/
theorem le_of_below {C : Ctx} {μ : Nat → Option (Nat × Nat)} {hp : List (Nat × HObj)} {w w' : World} (h : Below w.heap.size w w') : (envOf C μ hp w).Le (envOf C μ hp w') :=
  ⟨⟨⟨fun b hb => ⟨Nat.lt_of_lt_of_le hb.1 h.size, hb.2.1, hb.2.2.1, fun ds e => hb.2.2.2 ds ((h.block b hb.1).symm.trans e)⟩, fun b hb => h.block b hb.1⟩, fun _ _ e => e⟩, Kd.of_below h, fun _ _ _ e => e⟩

theorem HepAt.below {C : Ctx} {μ : Nat → Option (Nat × Nat)} {hp : List (Nat × HObj)} {nx : Nat} {w w' : World} (h : HepAt C μ hp nx w) (hb : Below w.heap.size w w') : HepAt C μ hp nx w' where
  obj := by
    refine ⟨h.obj.keys, ?_⟩
    intro id o ho
    obtain ⟨b, c, x, h1, h2, h3⟩ := h.obj.obj id o ho
    have hlt : b < w.heap.size := (Array.getElem?_eq_some_iff.1 h2).1
    exact ⟨b, c, x, h1, (hb.block b hlt).trans h2, h3.mono (le_of_below hb)⟩
  inj := h.inj
  mine := h.mine
  keys := h.keys
  nx := h.nx
  fam := h.fam
  pin := h.pin
  frm := h.frm.trans (Frm.of_below hb)

theorem RepAt.below {C : Ctx} {μ : Nat → Option (Nat × Nat)} {st : St} {a : Act} {w w' : World} (h : RepAt C μ st a w) (hb : Below w.heap.size w w') : RepAt C μ st a w' :=
  h.step (le_of_below hb) (h.hep.below hb)

/-- Where a tracked object lies. -/
theorem HepAt.lt {C : Ctx} {μ : Nat → Option (Nat × Nat)} {hp : List (Nat × HObj)} {nx : Nat} {w : World} (h : HepAt C μ hp nx w) {id b c : Nat} {o : HObj} (hg : hget hp id = some o) (hm : μ id = some (b, c)) : b < w.heap.size := by
  obtain ⟨b', c', y, e1, e2, _⟩ := h.obj.obj id o hg
  have e3 : μ id = some (b', c') := e1
  rw [hm] at e3
  cases e3
  exact (Array.getElem?_eq_some_iff.1 e2).1

theorem HepAt.get {C : Ctx} {μ : Nat → Option (Nat × Nat)} {hp : List (Nat × HObj)} {nx : Nat} {w : World} (h : HepAt C μ hp nx w) {id : Nat} {o : HObj} (hg : get? hp id = some o) (hs : solid? o = some o) : hget hp id = some o :=
  hget_of_get (h.obj.keys _ _ hg) hg hs

/-- μ with one number more. -/
def upd (μ : Nat → Option (Nat × Nat)) (id : Nat) (p : Nat × Nat) : Nat → Option (Nat × Nat) := fun i => if i = id then some p else μ i

theorem upd_le {μ : Nat → Option (Nat × Nat)} {nx : Nat} (h : μ nx = none) (q : Nat × Nat) : ∀ id p, μ id = some p → upd μ nx q id = some p := by
  intro id p e
  have : id ≠ nx := by rintro rfl; rw [h] at e; cases e
  simp [upd, this, e]

/-- A new tracked object in a new block. -/
theorem le_alloc {C : Ctx} {μ : Nat → Option (Nat × Nat)} {hp hp' : List (Nat × HObj)} {nx : Nat} {w : World} (o : Obj) (x : HObj) (c : Nat) (hnx : μ nx = none)
    (hh : ∀ n, hget hp' n = if nx = n then some x else hget hp n) :
    (envOf C μ hp w).Le (envOf C (upd μ nx (w.heap.size, c)) hp' (w.alloc o)) where
  μ := upd_le hnx _
  U := by
    intro b hb
    refine ⟨by simp; have := hb.1; omega, hb.2.1, ?_, fun ds e => hb.2.2.2 ds ((Below.heap_alloc w o b hb.1).symm.trans e)⟩
    intro id o' c' ho' he
    rw [hh] at ho'
    by_cases hid : nx = id
    · subst hid
      simp [upd] at he
      have := hb.1
      omega
    · simp [hid] at ho'
      have : id ≠ nx := fun e => hid e.symm
      simp [upd, this] at he
      exact hb.2.2.1 id o' c' ho' he
  heap := fun b hb => Below.heap_alloc w o b hb.1
  H := fun _ _ _ e => e
  kd := Kd.of_below ((Below.refl _ _).alloc (Nat.le_refl _) _)

theorem HepAt.alloc {C : Ctx} {μ : Nat → Option (Nat × Nat)} {hp : List (Nat × HObj)} {nx : Nat} {w : World} (h : HepAt C μ hp nx w) (hnx : nx < FB) (o : Obj) (x : HObj) (hs : solid? x = some x) (c : Nat)
    (hx : HR (envOf C μ hp w) x c o) : (envOf C μ hp w).Le (envOf C (upd μ nx (w.heap.size, c)) ((nx, x) :: hp) (w.alloc o)) ∧ HepAt C (upd μ nx (w.heap.size, c)) ((nx, x) :: hp) (nx + 1) (w.alloc o) := by
  have hm : μ nx = none := by
    cases e : μ nx with
    | none => rfl
    | some p => have := h.nx nx p e hnx; omega
  have hgn : get? hp nx = none := by
    cases e : get? hp nx with
    | none => rfl
    | some p => have := h.keys nx p e; omega
  have hh := hget_cons (hp := hp) (id := nx) (x := x) hnx hs (fun f e => by rw [hgn] at e; cases e)
  have hE := le_alloc (C := C) (μ := μ) (hp := hp) (w := w) o x c hm hh
  refine ⟨hE, ⟨?_, ?_, ?_, ?_, ?_, ?_, fun id p e => hE.μ _ _ (h.pin id p e), ?_⟩⟩
  · refine ⟨?_, ?_⟩
    · intro id o' e
      rw [get?_cons] at e
      by_cases hid : nx = id
      · omega
      · simp [hid] at e; exact h.obj.keys _ _ e
    · intro id o' ho'
      rw [hh] at ho'
      by_cases hid : nx = id
      · subst hid
        simp at ho'
        subst ho'
        exact ⟨w.heap.size, c, o, by simp [envOf, upd], heap_alloc_new w o, hx.mono hE⟩
      · simp [hid] at ho'
        obtain ⟨b, c', y, h1, h2, h3⟩ := h.obj.obj id o' ho'
        have hlt : b < w.heap.size := (Array.getElem?_eq_some_iff.1 h2).1
        exact ⟨b, c', y, hE.μ _ _ h1, (Below.heap_alloc w o b hlt).trans h2, h3.mono hE⟩
  · intro id id' o1 o2 b c1 c2 g1 g2 e1 e2
    rw [hh] at g1 g2
    by_cases h1 : nx = id <;> by_cases h2 : nx = id'
    · exact h1.symm.trans h2
    · subst h1
      simp [h2] at g2
      have n2 : id' ≠ nx := fun e => h2 e.symm
      simp [upd] at e1
      simp [upd, n2] at e2
      have := h.lt g2 e2
      omega
    · subst h2
      simp [h1] at g1
      have n1 : id ≠ nx := fun e => h1 e.symm
      simp [upd] at e2
      simp [upd, n1] at e1
      have := h.lt g1 e1
      omega
    · have n1 : id ≠ nx := fun e => h1 e.symm
      have n2 : id' ≠ nx := fun e => h2 e.symm
      simp [h1] at g1
      simp [h2] at g2
      simp [upd, n1] at e1
      simp [upd, n2] at e2
      exact h.inj _ _ _ _ _ _ _ g1 g2 e1 e2
  · intro id o' b c' g e
    rw [hh] at g
    by_cases h1 : nx = id
    · subst h1
      simp [upd] at e
      exact .inr (e.1 ▸ h.frm.size)
    · simp [h1] at g
      have n1 : id ≠ nx := fun e => h1 e.symm
      simp [upd, n1] at e
      exact h.mine _ _ _ _ g e
  · intro id o' e
    rw [get?_cons] at e
    by_cases hid : nx = id
    · omega
    · simp [hid] at e; have := h.keys _ _ e; omega
  · intro id p e hlt
    by_cases h1 : id = nx
    · omega
    · simp [upd, h1] at e
      have := h.nx id p e hlt
      omega
  · intro id p e hge
    have n1 : id ≠ nx := by omega
    simp [upd, n1] at e
    obtain ⟨o', ho'⟩ := h.fam id p e hge
    exact ⟨o', by rw [hh, if_neg (Ne.symm n1)]; exact ho'⟩
  · exact h.frm.trans (Frm.of_below ((Below.refl _ _).alloc (Nat.le_refl _) _))

/-- The same objects, under whatever further numbers that stand for none. -/
theorem HepAt.same {C : Ctx} {μ : Nat → Option (Nat × Nat)} {hp hp' : List (Nat × HObj)} {nx nx' : Nat} {w : World} (h : HepAt C μ hp nx w) (hh : ∀ n, hget hp' n = hget hp n) (hk : ∀ id o, get? hp' id = some o → id < nx' ∧ id < FB) (hn : nx ≤ nx') :
    (envOf C μ hp w).Le (envOf C μ hp' w) ∧ HepAt C μ hp' nx' w := by
  have hE : (envOf C μ hp w).Le (envOf C μ hp' w) := by
    refine ⟨⟨⟨?_, fun _ _ => rfl⟩, fun _ _ e => e⟩, Kd.refl _, fun _ _ _ e => e⟩
    rintro b ⟨a1, a2, a3, a4⟩
    exact ⟨a1, a2, fun id o c ho => a3 id o c (by rw [← hh]; exact ho), a4⟩
  refine ⟨hE, ⟨⟨fun id o e => (hk id o e).2, fun id o e => ?_⟩, ?_, ?_, fun id o e => (hk id o e).1, fun id p e hlt => Nat.lt_of_lt_of_le (h.nx id p e hlt) hn, ?_, h.pin, h.frm⟩⟩
  · rw [hh] at e
    obtain ⟨b, c, x, e1, e2, e3⟩ := h.obj.obj id o e
    exact ⟨b, c, x, e1, e2, e3.mono hE⟩
  · intro id id' o o' b c c' g g' e e'
    rw [hh] at g g'
    exact h.inj _ _ _ _ _ _ _ g g' e e'
  · intro id o b c g e
    rw [hh] at g
    exact h.mine _ _ _ _ g e
  · intro id p e hge
    obtain ⟨o, ho⟩ := h.fam id p e hge
    exact ⟨o, by rw [hh]; exact ho⟩

/-- What stands for no object. -/
theorem hget_ghost {hp : List (Nat × HObj)} {id : Nat} {x : HObj} (hx : solid? x = none) (hf : ∀ f, x ≠ .fam f) (hold : get? hp id = none) (n : Nat) : hget ((id, x) :: hp) n = hget hp n := by
  by_cases hn : n < FB
  · rw [hget_low hn, hget_low hn, get?_cons]
    by_cases e : id = n
    · subst e; simp [hold, hx]
    · simp [e]
  · simp only [hget, hn, if_false, get?_cons]
    by_cases e : id = n % FB
    · simp only [e, if_true]
      rw [e] at hold
      rw [hold]
      cases x <;> first | rfl | exact absurd rfl (hf _)
    · simp [e]

/-- What a tracked object that is no record of a loop lies in. -/
theorem HR_plain {E : Env} {o : HObj} {c : Nat} {y : Obj} (hn : ∀ l p, o ≠ .hid l p) (h : HR E o c y) : (∀ r, y ≠ .loop r) ∧ ∀ ds, y ≠ .deferred ds := by
  cases o with
  | cells T l => obtain ⟨cs, rfl, _⟩ := h; exact ⟨(fun _ e => by cases e), (fun _ e => by cases e)⟩
  | arr T sz len enc => obtain ⟨cs, rfl, _⟩ := h; exact ⟨(fun _ e => by cases e), (fun _ e => by cases e)⟩
  | obj o' => obtain ⟨rfl, h1, h2⟩ := h; exact ⟨h1, h2⟩
  | map V kk l clock ev iv => obtain ⟨_, es, rfl, _⟩ := h; exact ⟨(fun _ e => by cases e), (fun _ e => by cases e)⟩
  | iter src since seen last => obtain ⟨r, _, rfl⟩ := h; exact ⟨(fun _ e => by cases e), (fun _ e => by cases e)⟩
  | hid l p => exact absurd rfl (hn l p)
  | fam f => exact h.elim
  | gone => exact h.elim

theorem HpR.plain {C : Ctx} {μ : Nat → Option (Nat × Nat)} {hp : List (Nat × HObj)} {w : World} (h : HpR (envOf C μ hp w) hp) {id b c : Nat} {o : HObj} (hg : hget hp id = some o) (hm : μ id = some (b, c)) : Plain w b := by
  obtain ⟨b', c', z, h1, h2, h3⟩ := h.obj id o hg
  have h1' : μ id = some (b', c') := h1
  rw [hm] at h1'
  cases h1'
  have h2' : w.heap[b]? = some z := h2
  intro ds e
  rw [h2'] at e
  cases e
  by_cases hn : ∀ l p, o ≠ .hid l p
  · exact (HR_plain hn h3).2 ds rfl
  · cases o with
    | hid l p => obtain ⟨r, hr⟩ := C.Hl _ _ _ h3; cases hr
    | _ => exact hn (fun _ _ e => by cases e)

/-- A tracked object is changed in its block. -/
theorem le_write {C : Ctx} {μ : Nat → Option (Nat × Nat)} {hp hp' : List (Nat × HObj)} {w w' : World} {id b c : Nat} {o : HObj} (x : HObj) (hh : ∀ n, hget hp' n = if id = n then some x else hget hp n) (hg : hget hp id = some o) (hm : μ id = some (b, c))
    (hs : w'.heap.size = w.heap.size) (hw : ∀ k, k ≠ b → w'.heap[k]? = w.heap[k]?) (hkd : Kd w w') : (envOf C μ hp w).Le (envOf C μ hp' w') where
  μ := fun _ _ e => e
  H := fun _ _ _ e => e
  kd := hkd
  U := by
    intro k hk
    have hkb : k ≠ b := fun e => hk.2.2.1 id o c hg (e ▸ hm)
    refine ⟨by rw [hs]; exact hk.1, hk.2.1, ?_, fun ds e => hk.2.2.2 ds ((hw k hkb).symm.trans e)⟩
    intro i o' c' ho' he
    rw [hh] at ho'
    by_cases hi : id = i
    · subst hi; exact hk.2.2.1 _ _ _ hg he
    · simp [hi] at ho'; exact hk.2.2.1 _ _ _ ho' he
  heap := fun k hk => hw k (fun e => hk.2.2.1 id o c hg (e ▸ hm))

theorem HepAt.writeK {C : Ctx} {μ : Nat → Option (Nat × Nat)} {hp hp' : List (Nat × HObj)} {nx : Nat} {w w' : World} {id b c : Nat} {o x : HObj} {y : Obj} (h : HepAt C μ hp nx w)
    (hh : ∀ n, hget hp' n = if id = n then some x else hget hp n) (hk : ∀ n o', get? hp' n = some o' → ∃ o'', get? hp n = some o'')
    (hg : hget hp id = some o) (hm : μ id = some (b, c)) (hs : w'.heap.size = w.heap.size) (hw : ∀ k, k ≠ b → w'.heap[k]? = w.heap[k]?) (hy : w'.heap[b]? = some y)
    (ho : w'.os = w.os) (ht : w'.tape = w.tape) (hu : w'.output = w.output)
    (hx : HR (envOf C μ hp w) x c y) (hkd : Kd w w') (hdr : w.drawn ≤ w'.drawn := by exact Nat.le_refl _) : (envOf C μ hp w).Le (envOf C μ hp' w') ∧ HepAt C μ hp' nx w' := by
  have hE := le_write (C := C) (μ := μ) (hp := hp) (w := w) (w' := w') x hh hg hm hs hw hkd
  have key : ∀ i o', hget hp' i = some o' → ∃ o'', hget hp i = some o'' := by
    intro i o' g
    rw [hh] at g
    by_cases hi : id = i
    · exact ⟨o, hi ▸ hg⟩
    · simp [hi] at g; exact ⟨o', g⟩
  refine ⟨hE, ⟨?_, ?_, ?_, ?_, h.nx, ?_, h.pin, ?_⟩⟩
  · refine ⟨fun i o' e => ?_, ?_⟩
    · obtain ⟨_, e'⟩ := hk _ _ e; exact h.obj.keys _ _ e'
    · intro i o' ho'
      rw [hh] at ho'
      by_cases hi : id = i
      · subst hi
        simp at ho'
        subst ho'
        exact ⟨b, c, y, hm, hy, hx.mono hE⟩
      · simp [hi] at ho'
        obtain ⟨b', c', z, h1, h2, h3⟩ := h.obj.obj i o' ho'
        have hne : b' ≠ b := fun e => hi (h.inj _ _ _ _ _ _ _ hg ho' hm (e ▸ h1))
        exact ⟨b', c', z, h1, (hw b' hne).trans h2, h3.mono hE⟩
  · intro i i' o1 o2 b1 c1 c2 g1 g2 e1 e2
    obtain ⟨_, g1'⟩ := key _ _ g1
    obtain ⟨_, g2'⟩ := key _ _ g2
    exact h.inj _ _ _ _ _ _ _ g1' g2' e1 e2
  · intro i o' b' c' g e
    obtain ⟨_, g'⟩ := key _ _ g
    exact h.mine _ _ _ _ g' e
  · intro i o' e
    obtain ⟨_, e'⟩ := hk _ _ e
    exact h.keys _ _ e'
  · intro i p e hge
    obtain ⟨o', ho'⟩ := h.fam i p e hge
    by_cases hi : id = i
    · exact ⟨x, by rw [hh, if_pos hi]⟩
    · exact ⟨o', by rw [hh, if_neg hi]; exact ho'⟩
  · refine h.frm.trans' (T' := fun k => k = b) ⟨ho, ht, hu, by omega, fun k _ hk => hw k hk, hdr⟩ ?_
    rintro k rfl
    exact h.mine _ _ _ _ hg hm

theorem HepAt.write {C : Ctx} {μ : Nat → Option (Nat × Nat)} {hp hp' : List (Nat × HObj)} {nx : Nat} {w w' : World} {id b c : Nat} {o x : HObj} {y : Obj} (h : HepAt C μ hp nx w)
    (hh : ∀ n, hget hp' n = if id = n then some x else hget hp n) (hk : ∀ n o', get? hp' n = some o' → ∃ o'', get? hp n = some o'')
    (hg : hget hp id = some o) (hm : μ id = some (b, c)) (hs : w'.heap.size = w.heap.size) (hw : ∀ k, k ≠ b → w'.heap[k]? = w.heap[k]?) (hy : w'.heap[b]? = some y)
    (ho : w'.os = w.os) (ht : w'.tape = w.tape) (hu : w'.output = w.output)
    (hx : HR (envOf C μ hp w) x c y) (hn : ∀ l p, o ≠ .hid l p := by intro _ _ e; cases e) (hdr : w.drawn ≤ w'.drawn := by exact Nat.le_refl _) : (envOf C μ hp w).Le (envOf C μ hp' w') ∧ HepAt C μ hp' nx w' := by
  refine h.writeK hh hk hg hm hs hw hy ho ht hu hx ?_ hdr
  obtain ⟨b', c', z, h1, h2, h3⟩ := h.obj.obj id o hg
  have h1' : μ id = some (b', c') := h1
  rw [hm] at h1'
  cases h1'
  have hp := HR_plain hn h3
  have h2' : w.heap[b]? = some z := h2
  refine ⟨by omega, fun k r e => ?_, fun k ds e => ?_⟩
  · by_cases hk : k = b
    · subst hk; rw [h2'] at e; cases e; exact absurd rfl (hp.1 r)
    · exact ⟨r, (hw k hk).trans e⟩
  · by_cases hk : k = b
    · subst hk; rw [h2'] at e; cases e; exact absurd rfl (hp.2 ds)
    · exact (hw k hk).trans e

/-- Slots: what is not named in the new frame is forgotten. -/
theorem RepAt.frame {C : Ctx} {μ : Nat → Option (Nat × Nat)} {st : St} {a : Act} {w : World} (h : RepAt C μ st a w) {fr' : List (Nat × SV)}
    (hf : ∀ s, SlotR (envOf C μ st.hp w) a.tmps (look fr' s) (a.tmps.getD s undef)) : RepAt C μ { st with fr := fr' } a w :=
  ⟨h.size, h.defers, hf, h.hep, h.le, h.kd⟩

theorem SlotR_junk (E : Env) (t : Array Value) (v : Value) : SlotR E t .junk v := ⟨v, rfl⟩
end Go.Eng
