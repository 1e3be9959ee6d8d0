/- The engine, part 5: contracts; the operations that compute or read, and what they do. -/
import Derived.Test.YtcckdpimimkejaaEngD
namespace Go.Eng
open Go Go.RowKit

/-- The contract of a function that changes nothing that was there. -/
structure Spec where
  X : Type
  args : X → SV
  pre : X → Prop
  res : X → SV
  inst : SV → Option X
  fresh : Bool := true

/-- The blocks of which a result may speak. -/
def resU (fresh : Bool) (U : Nat → Prop) (w w' : World) : Nat → Prop := fun b => (fresh = false ∧ U b) ∨ (w.heap.size ≤ b ∧ b < w'.heap.size ∧ Plain w' b)

structure Spec.Ok (P : Program) (f : Nat) (S : Spec) : Prop where
  call : ∀ args w, (callFunc f args).run P w = .ok (.enter f args) w
  does : ∀ (x : S.X) (w : World) (vs : List Value) (U : Nat → Prop), (∀ b, U b → b < w.heap.size ∧ Plain w b) → S.pre x → R (envU U w) (S.args x) vs →
    Calls P f vs.toArray w fun
      | .returned v, w' => R (envU (resU S.fresh U w w') w') (S.res x) [v] ∧ Below w.heap.size w w'
      | _, _ => False

/-- The contract of a function that may change what it is handed: h0, h1: the tracked objects before and behind it (numbers 0 to nx0 are the caller's; the function may add others, up to nx1); what it returns may hang on more than x. -/
structure MSpec where
  X : Type
  Y : Type
  args : X → SV
  pre : X → Prop
  h0 : X → List (Nat × HObj)
  nx0 : Nat
  post : X → Y → Prop
  res : X → Y → SV
  h1 : X → Y → List (Nat × HObj)
  nx1 : Nat
  fresh : Bool := true

/-- The numbers below n. -/
def upto : Nat → List Nat
  | 0 => []
  | n + 1 => n :: upto n
theorem mem_upto {i : Nat} : ∀ {n : Nat}, i ∈ upto n ↔ i < n := by
  intro n
  induction n with
  | zero => simp [upto]
  | succ n ih => simp only [upto, List.mem_cons, ih]; omega
/-- What is fixed in a call. -/
def callCtx (w : World) (T U : Nat → Prop) (μ : Nat → Option (Nat × Nat)) (np : Nat) : Ctx := ⟨0, w, T, U, μ, upto np, 0, H0, 0, fun _ _ _ h => h.elim, fun _ _ _ h => h.elim, envU (fun _ => False) w⟩
def Ufresh (fresh : Bool) (U : Nat → Prop) : Nat → Prop := fun b => fresh = false ∧ U b

structure MSpec.Ok (P : Program) (f : Nat) (S : MSpec) : Prop where
  call : ∀ args w, (callFunc f args).run P w = .ok (.enter f args) w
  does : ∀ (x : S.X) (w : World) (μ : Nat → Option (Nat × Nat)) (vs : List Value) (T U : Nat → Prop), (∀ b, U b → b < w.heap.size ∧ Plain w b) → HepAt (callCtx w T U μ S.nx0) μ (S.h0 x) S.nx0 w → S.pre x →
    R (envOf (callCtx w T U μ S.nx0) μ (S.h0 x) w) (S.args x) vs → Calls P f vs.toArray w fun
      | .returned v, w' => ∃ y μ', S.post x y ∧ HepAt (callCtx w T (Ufresh S.fresh U) μ S.nx0) μ' (S.h1 x y) S.nx1 w' ∧ R (envOf (callCtx w T (Ufresh S.fresh U) μ S.nx0) μ' (S.h1 x y) w') (S.res x y) [v]
      | _, _ => False

inductive FSpec where
  | p (S : Spec)
  | m (S : MSpec)
  | own

def FSpec.Ok (P : Program) (f : Nat) : FSpec → Prop
  | .p S => S.Ok P f
  | .m S => S.Ok P f
  | .own => True
/-- Under this number '.own' in a table says that slices that are written out are owned. -/
def OWN : Nat := 2097152

def TabOk (P : Program) (tab : List (Nat × FSpec)) : Prop := ∀ f S, get? tab f = some S → S.Ok P f

/-- What a round of a range over a function comes to: the record's number, the numbers that keep their places, the depth, what is yielded, the store, and what is asked of whether it goes on. -/
abbrev Handler := Nat → List Nat → Nat → Nat → SV → List (Nat × HObj) → Nat → (Bool → List (Nat × HObj) → Nat → Prop) → Prop

/-- What is fixed while a piece of code runs: contracts; rounds; the numbers that keep their places; how many ranges over functions it stands in. -/
structure Tb where
  fs : List (Nat × FSpec)
  ys : List (Nat × Handler)
  np : List Nat
  bnd : Nat
  dep : Nat

/-- What a step of an operation comes to. -/
def Does (P : Program) (K : Value → World → Prop) : Result Next → Prop
  | .ok (.value v) w => K v w
  | .ok .skip w => K undef w
  | .ok (.enter f args) w => Calls P f args w fun
      | .returned v, w' => K v w'
      | _, _ => False
  | .ok (.round l f tmps assign body) w => RoundIn Fence.wide 0 P l f tmps assign body w fun
      | .returned v, w' => K v w'
      | _, _ => False
  | _ => False

theorem Does.mono {P : Program} {K K' : Value → World → Prop} {r : Result Next} (h : Does P K r) (hk : ∀ v w, K v w → K' v w) : Does P K' r := by
  unfold Does at *
  split at h
  · exact hk _ _ h
  · exact hk _ _ h
  · refine Calls.mono h ?_
    intro e w' he
    cases e <;> first | exact hk _ _ he | exact he
  · refine RoundIn.mono h ?_
    intro e w' he
    cases e <;> first | exact hk _ _ he | exact he
  · exact h.elim

/-- The fence of the engine: none; in a round of a range over a function, or not. -/
def WF : Option Nat → Fence
  | none => Fence.wide
  | some l => Fence.wide.inRound l

theorem WF_fn (r : Option Nat) (f : FuncId) : (WF r).fn f := by cases r <;> trivial
theorem WF_room (r : Option Nat) (n : Nat) : (WF r).room n := by cases r <;> exact room_wide n
theorem WF_depth (r : Option Nat) : (WF r).depth = none := by cases r <;> rfl
theorem WF_round (r : Option Nat) : (WF r).round = r := by cases r <;> rfl
theorem callsIn_WF {r : Option Nat} {n : Nat} {P : Program} {f : FuncId} {args : Array Value} {w : World} {Q : Ending → World → Prop} : CallsIn (WF r) n P f args w Q ↔ Calls P f args w Q := by
  cases r with
  | none => exact callsIn_wide
  | some l => exact callsIn_wide

theorem roundIn_WF {r : Option Nat} {P : Program} {l : Nat} {f : FuncId} {tmps : Array Value} {assign body : Code} {w : World} {Q : Ending → World → Prop} :
    RoundIn (WF r) 0 P l f tmps assign body w Q ↔ RoundIn Fence.wide 0 P l f tmps assign body w Q := by
  cases r <;> exact Iff.rfl

/-- An operation, by what its step comes to. -/
theorem wpIn_of_does {P : Program} {r : Option Nat} {o : Oper} {a : Act} {w : World} {K : Act → World → Prop} {Q : Exit → Act → World → Prop} (hd : ∀ c, o.op ≠ .defer c)
    (h : Does P (fun v w' => K (a.put o.dst v) w') ((execOp a.eval o).run P w)) : o.wpIn (WF r) 0 P a w K Q := by
  refine ⟨fun f _ => WF_fn r f, ?_⟩
  rw [Oper.semAt_eq _ _ _ hd]
  generalize (execOp a.eval o).run P w = x at h
  cases x with
  | ok n w' =>
    cases n <;> simp only [Does] at h <;> first
      | exact h
      | exact h.elim
      | (refine ⟨(fun hh => by (rw [WF_depth] at hh; cases hh)), callsIn_WF.2 (Calls.mono h ?_)⟩
         intro e w'' he
         cases e with
         | returned v => exact he
         | panicked c => exact he.elim
         | outgrown => exact he.elim)
      | (refine ⟨(fun hh => by (rw [WF_depth] at hh; cases hh)), roundIn_WF.2 (RoundIn.mono h ?_)⟩
         intro e w'' he
         cases e with
         | returned v => exact he
         | panicked c => exact he.elim
         | outgrown => exact he.elim)
  | halt x w' => cases x <;> simp [Does] at h

/-! ### The operations -/
inductive SOp where
  | move (x : SX)
  | pick (c a b : SX)
  | load (n : Nat) (agg : Bool) (x : SX)
  | fldA (off : Nat) (x : SX)
  | idxArr (len sz : Nat) (x i : SX)
  | idxSl (sz : Nat) (x i : SX)
  | idxStr (x i : SX)
  | field (off n : Nat) (agg : Bool) (x : SX)
  | nilCheck (x : SX)
  | lenStr (x : SX)
  | lenSl (x : SX)
  | bin (op : BinOp) (x y : SX)
  | ptrEq (neg : Bool) (x y : SX)
  | eqB (neg : Bool) (x y : SX)
  | not (x : SX)
  | neg (x : SX)
  | cnv (k : IntKind) (x : SX)
  | convS (x : SX)
  | mm (mx : Bool) (x y : SX)
  | extract (i : Nat) (x : SX)
  | mkfn (f : Nat) (caps : List SX)
  | build (zero : CV) (parts : List (Nat × Nat × SX))
  | buildSl (T sz n : Nat) (zero : CV) (parts : List (Nat × Nat × SX))
  | sliceSl (sz : Nat) (x : SX) (lo hi : Option SX)
  | sliceStr (x : SX) (lo hi : Option SX)
  | call (f : SX) (args : List SX)
  | alloc (T : Nat) (zero : CV)
  | box (T : Nat) (x : SX)
  | store (n : Nat) (x v : SX)
  | mapEq (neg : Bool) (x y : SX)
  | eqS (neg : Bool) (offs : List (Nat × Nat)) (x y : SX)
  | app (T sz bytes : Nat) (x y : SX)
  | clr (sz : Nat) (x : SX)
  | mkmap (kk : KK)
  | mlook (z : CV) (ok : Bool) (kk : KK) (m k : SX)
  | mupd (kk : KK) (m k v : SX)
  | ment (z : CV) (kk : KK) (m k : SX)
  | mesto (m t v : SX)
  | mdele (kk : KK) (m k : SX)
  | mlen (m : SX)
  | mrange (m : SX)
  | mnext (it : SX)
  | mentry (it : SX)
  deriving Repr

/-- The kind of a type of keys. -/
def kkOf (P : Program) (kt : TypeId) : Option KK :=
  match P.underlying kt with
  | some .string => some .s
  | some (.int k) => some (.i k)
  | some (.array 2 e) => match P.underlying e, P.info? e with
    | some (.int .i64), some i => if i.size = 1 then some .a else none
    | _, _ => none
  | _ => none

/-- The zero value of a type, as a constant. -/
def zeroV (P : Program) (t : TypeId) : Option CV := do
  let i ← P.info? t
  match i.zero with
  | some v => cvOf v
  | none => none

/-- The constant cells of a type's zero value. -/
def zeroCV (i : TypeInfo) : Option CV :=
  match i.zero with
  | some (.agg cs) => cvL cs.toList
  | some v => do let c ← cv1 v; some (.cons c .nil)
  | none => none

def CV.len : CV → Nat
  | .cons _ t => t.len + 1
  | _ => 0

def cParts (P : Program) (place : Nat → Option (Nat × Nat)) : List (Nat × Operand) → Option (List (Nat × Nat × SX))
  | [] => some []
  | (i, x) :: r => do
    let (off, size) ← place i
    let x ← cX x
    let t ← cParts P place r
    some ((off, size, x) :: t)

def optX : Option Operand → Option (Option SX)
  | none => some none
  | some x => (cX x).map some

/-- The fields of a struct whose values are compared as they are: places and kinds (0: bool, 1: number, 2: text). -/
def cFields (P : Program) : List Field → Option (List (Nat × Nat))
  | [] => some []
  | f :: r => match f.name != "_" with
    | true => match P.underlying f.type with
      | some .bool => (cFields P r).map ((f.offset, 0) :: ·)
      | some (.int _) => (cFields P r).map ((f.offset, 1) :: ·)
      | some .string => (cFields P r).map ((f.offset, 2) :: ·)
      | _ => none
    | false => none
/-- Translation of a builtin function. -/
def cBuiltin (P : Program) (b : Builtin) (args : List Operand) (ts : List TypeId) : Option SOp :=
  match b with
  | .len =>
    match args, ts with
    | [x], [t] =>
      match P.underlying t with
      | some .string => (cX x).map .lenStr
      | some (.slice _) => (cX x).map .lenSl
      | some (.map _ _) => (cX x).map .mlen
      | _ => none
    | _, _ => none
  | .delete =>
    match args, ts with
    | [m, k], t :: _ =>
      match P.underlying t with
      | some (.map kt _) => do some (.mdele (← kkOf P kt) (← cX m) (← cX k))
      | _ => none
    | _, _ => none
  | .min =>
    match args with
    | [x, y] => do some (.mm false (← cX x) (← cX y))
    | _ => none
  | .max =>
    match args with
    | [x, y] => do some (.mm true (← cX x) (← cX y))
    | _ => none
  | .append =>
    match args, ts with
    | [x, y], [t, t'] =>
      match t == t' with
      | true => match P.underlying t with
        | some (.slice e) => match P.info? e with
          | some i => match zeroCV i with
            | some z => match Nat.beq z.len i.size && Nat.blt 0 i.size with
              | true => do some (.app e i.size i.bytes (← cX x) (← cX y))
              | false => none
            | none => none
          | none => none
        | _ => none
      | false => none
    | _, _ => none
  | .clear =>
    match args, ts with
    | [x], [t] =>
      match P.underlying t with
      | some (.slice e) => match P.info? e with
        | some i => match zeroCV i with
          | some z => match Nat.beq z.len i.size && Nat.blt 0 i.size with
            | true => (cX x).map (.clr i.size)
            | false => none
          | none => none
        | none => none
      | _ => none
    | _, _ => none
  | _ => none

/-- Translation of an operation that computes or reads. -/
def cOp (P : Program) (op : Op) : Option SOp :=
  match op with
  | .move x | .assign x => (cX x).map .move
  | .pick c a b => do some (.pick (← cX c) (← cX a) (← cX b))
  | .load t x => do
    let i ← P.info? t
    let d ← P.underlying t
    if aggB d || i.size == 1 then some (.load i.size (aggB d) (← cX x)) else none
  | .fieldAddr s x f =>
    match P.underlying s with
    | some (.struct fs) => do
      let fd ← fs[f]?
      let i ← P.info? fd.type
      if i.size ≠ 0 then some (.fldA fd.offset (← cX x)) else none
    | _ => none
  | .indexAddr t x ix =>
    match P.underlying t with
    | some (.array n e) => do
      let i ← P.info? e
      if 1 < n then some (.idxArr n i.size (← cX x) (← cX ix)) else none
    | some (.slice e) => do
      let i ← P.info? e
      some (.idxSl i.size (← cX x) (← cX ix))
    | _ => none
  | .index t x ix =>
    match P.underlying t with
    | some .string => do some (.idxStr (← cX x) (← cX ix))
    | _ => none
  | .field t x f =>
    match P.underlying t with
    | some (.struct fs) => do
      let fd ← fs[f]?
      let i ← P.info? fd.type
      let d ← P.underlying fd.type
      if aggB d || i.size == 1 then some (.field fd.offset i.size (aggB d) (← cX x)) else none
    | _ => none
  | .nilCheck x => (cX x).map .nilCheck
  | .binOp op t x y _ =>
    match P.underlying t with
    | some (.int _) | some .string => do some (.bin op (← cX x) (← cX y))
    | some .bool =>
      match op with
      | .eql => do some (.eqB false (← cX x) (← cX y))
      | .neq => do some (.eqB true (← cX x) (← cX y))
      | _ => none
    | some (.pointer _) =>
      match op with
      | .eql => do some (.ptrEq false (← cX x) (← cX y))
      | .neq => do some (.ptrEq true (← cX x) (← cX y))
      | _ => none
    | some (.map _ _) =>
      match op with
      | .eql => do some (.mapEq false (← cX x) (← cX y))
      | .neq => do some (.mapEq true (← cX x) (← cX y))
      | _ => none
    | some (.struct fs) =>
      match P.stoodInHeld t, cFields P fs.toList with
      | false, some offs => match op with
        | .eql => do some (.eqS false offs (← cX x) (← cX y))
        | .neq => do some (.eqS true offs (← cX x) (← cX y))
        | _ => none
      | _, _ => none
    | _ => none
  | .unOp .not _ x => (cX x).map .not
  | .unOp .neg _ x => (cX x).map .neg
  | .convert s d x =>
    match P.underlying s, P.underlying d with
    | some (.int _), some (.int k) => (cX x).map (.cnv k)
    | some .string, some .string => (cX x).map .convS
    | _, _ => none
  | .extract x i => (cX x).map (.extract i)
  | .makeFunc (.func f) first caps => match Nat.blt f FM with
    | true => if first.size = 0 then (cXs caps.toList).map (.mkfn f) else if caps.size = 0 then (cXs first.toList).map (.mkfn (f + FM)) else none
    | false => none
  | .build t parts => do
    let i ← P.info? t
    let z ← zeroCV i
    match P.underlying t with
    | some (.struct fs) => do
      let places ← fs.toList.mapM fun f => (P.info? f.type).map fun i => (f.offset, i.size)
      let ps ← cParts P (places.toArray[·]?) parts.toList
      some (.build z ps)
    | some (.array _ e) => do
      let j ← P.info? e
      let ps ← cParts P (fun k => some (k * j.size, j.size)) parts.toList
      some (.build z ps)
    | _ => none
  | .buildSlice t n parts =>
    match P.underlying t with
    | some (.slice e) => do
      let j ← P.info? e
      let z ← zeroCV j
      let ps ← cParts P (fun k => some (k * j.size, j.size)) parts.toList
      if n * j.size ≤ 1000 ∧ j.size ≠ 0 ∧ z.len = j.size then some (.buildSl e j.size n z ps) else none
    | _ => none
  | .slice t x lo hi none =>
    match P.underlying t with
    | some (.slice e) => do
      let j ← P.info? e
      some (.sliceSl j.size (← cX x) (← optX lo) (← optX hi))
    | some .string => do some (.sliceStr (← cX x) (← optX lo) (← optX hi))
    | _ => none
  | .call ⟨.value f, args, _⟩ => do some (.call (← cX f) (← cXs args.toList))
  | .call ⟨.builtin b, args, ts⟩ => cBuiltin P b args.toList ts.toList
  | .alloc t => do
    let i ← P.info? t
    let z ← zeroCV i
    some (.alloc t z)
  | .box t x => (cX x).map (.box t)
  | .store t x v => do
    let i ← P.info? t
    some (.store i.size (← cX x) (← cX v))
  | .makeMap t none =>
    match P.underlying t with
    | some (.map kt _) => (kkOf P kt).map .mkmap
    | _ => none
  | .lookup t m k ok =>
    match P.underlying t with
    | some (.map kt et) => do some (.mlook (← zeroV P et) ok (← kkOf P kt) (← cX m) (← cX k))
    | _ => none
  | .mapUpdate t m k v =>
    match P.underlying t with
    | some (.map kt _) => do some (.mupd (← kkOf P kt) (← cX m) (← cX k) (← cX v))
    | _ => none
  | .mapEntry t m k =>
    match P.underlying t with
    | some (.map kt et) => do some (.ment (← zeroV P et) (← kkOf P kt) (← cX m) (← cX k))
    | _ => none
  | .entryStore _ m t v => do some (.mesto (← cX m) (← cX t) (← cX v))
  | .range t m =>
    match P.underlying t with
    | some (.map _ _) => (cX m).map .mrange
    | _ => none
  | .next it false => (cX it).map .mnext
  | .entry it => (cX it).map .mentry
  | _ => none
end Go.Eng
