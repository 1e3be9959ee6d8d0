/- The engine, part 13: code; functions. -/
import Derived.Test.YtcckdpimimkejaaEngDr
import Derived.Sort.LoopGhostIn
import Derived.RangeFuncRecord
namespace Go.Eng
open Go Go.RowKit

inductive SCode where
  | skip
  | region (keep : List Nat) (ops : List SOper)
  | drawn (keep : List Nat) (t : DTree)
  | seq (a b : SCode)
  | cond (c : SX) (a b : SCode)
  | block (id : Nat) (a : SCode)
  | loop (i : Nat) (asg : List Nat) (a : SCode)
  | exit (id : Nat)
  | ret
  | join (i : Nat) (asg : List Nat) (a : SCode)
  | range (i : Nat) (f : SX) (gid : Nat) (g : SCode) (gn : Nat) (ps : List Nat) (asgn body : SCode)
  deriving Repr

inductive SExit where
  | normal
  | exit (id : Nat)
  | ret

/-- What the prover says of a loop (or of the place where ways meet again): the slots and objects that have changed, as functions of x; what is known of x; what a round lowers. -/
structure Inv where
  X : Type
  I : X → Prop
  fr : X → List (Nat × SV)
  hp : X → List (Nat × HObj) := fun _ => []
  meas : X → Nat := fun _ => 0

/-! ### The store at a loop's head -/
def forceFr : List (Nat × SV) → (List (Nat × SV) → Prop) → Prop
  | [], k => k []
  | (n, s) :: r, k => forceSV s fun s => forceFr r fun l => k ((n, s) :: l)

def hasKey {α : Type} : List (Nat × α) → Nat → Bool
  | [], _ => false
  | (k, _) :: r, n => bif Nat.beq k n then true else hasKey r n

/-- The slots of fr that are neither written (asg) nor named anew. -/
def keepFr (asg : List Nat) (new : List (Nat × SV)) : List (Nat × SV) → (List (Nat × SV) → Prop) → Prop
  | [], k => k new
  | (n, s) :: r, k => bif memN asg n then keepFr asg new r k else bif hasKey new n then keepFr asg new r k else keepFr asg new r fun l => k ((n, s) :: l)

def idsSV : SV → List Nat → List Nat
  | .own h _, l => h :: l
  | .osl h _ _ _, l => h :: l
  | .lsl h _ _, l => h :: l
  | .oel h _ _ _, l => h :: l
  | .mref h, l => h :: l
  | .fown h _ _, l => h :: l
  | .fmref h _, l => h :: l
  | .yield h, l => h :: l
  | .cons a b, l => idsSV b (idsSV a l)
  | .agg a, l => idsSV a l
  | .tup a, l => idsSV a l
  | .fn _ a, l => idsSV a l
  | _, l => l
def idsFr : List (Nat × SV) → List Nat → List Nat
  | [], l => l
  | (_, s) :: r, l => idsFr r (idsSV s l)
def idsHp (hp : List (Nat × HObj)) : List Nat → List Nat → List Nat
  | [], l => l
  | i :: r, l => match get? hp i with
    | some (.cells _ a) => idsHp hp r (idsSV a l)
    | some (.iter a _ _ _) => idsHp hp r (idsSV a l)
    | _ => idsHp hp r l

/-- What is kept, whether or not it can be seen to be reached. -/
def keepO : HObj → Bool
  | .map _ _ _ _ _ _ => true
  | .fam _ => true
  | .hid _ _ => true
  | _ => false

/-- The objects that can be reached. -/
def keepHp (ids : List Nat) (bnd : Nat) (new : List (Nat × HObj)) : List (Nat × HObj) → (List (Nat × HObj) → Prop) → Prop
  | [], k => k []
  | (n, o) :: r, k => bif memN ids n || keepO o || Nat.blt n bnd then
      match get? new n with
      | some .gone => keepHp ids bnd new r k
      | some o' => keepHp ids bnd new r fun l => k ((n, o') :: l)
      | none => keepHp ids bnd new r fun l => k ((n, o) :: l)
    else keepHp ids bnd new r k

/-- Objects that are named anew. -/
def newHp (hp0 : List (Nat × HObj)) : List (Nat × HObj) → List (Nat × HObj) → Nat → (List (Nat × HObj) → Nat → Prop) → Prop
  | [], l, nx, k => k l nx
  | (n, o) :: r, l, nx, k => match get? hp0 n with
    | some _ => newHp hp0 r l nx k
    | none => match o with
      | .gone => newHp hp0 r l nx k
      | o => bif Nat.blt n nx then newHp hp0 r ((n, o) :: l) nx k else newHp hp0 r ((n, o) :: l) (n + 1) k

/-- The numbers below bnd. -/
def lowIds (bnd : Nat) : List (Nat × HObj) → List Nat
  | [] => []
  | (n, _) :: r => bif Nat.blt n bnd then n :: lowIds bnd r else lowIds bnd r
/-- The different numbers of a list. -/
def dedupN : List Nat → List Nat → List Nat
  | [], acc => acc
  | a :: r, acc => bif memN acc a then dedupN r acc else dedupN r (a :: acc)
def forceD : List Nat → List Nat → (List Nat → Prop) → Prop
  | [], acc, k => k acc
  | a :: r, acc, k => forceN a fun a => bif memN acc a then forceD r acc k else forceD r (a :: acc) k
theorem forceD_eq : ∀ (l acc : List Nat) (k : List Nat → Prop), forceD l acc k = k (dedupN l acc) := by
  intro l
  induction l with
  | nil => intro acc k; rfl
  | cons a r ih =>
    intro acc k
    simp only [forceD, dedupN, forceN_eq, ih]
    cases memN acc a <;> rfl
/-- The store at the head of a loop. -/
def headK (bnd : Nat) (asg : List Nat) (st : St) (fr : List (Nat × SV)) (hp : List (Nat × HObj)) (k : St → Prop) : Prop :=
  match st with
  | ⟨fr0, hp0, nx⟩ => forceFr fr fun fr => forceHp hp fun hp => keepFr asg fr fr0 fun fr' =>
    forceD (idsFr fr' (lowIds bnd hp0)) [] fun i0 => forceD (idsHp hp0 i0 (idsHp hp i0 i0)) [] fun i1 => forceD (idsHp hp0 i1 (idsHp hp i1 i1)) [] fun i2 =>
    keepHp i2 bnd hp hp0 fun hp' =>
      newHp hp0 hp hp' nx fun hp'' nx' => k ⟨fr', hp'', nx'⟩

/-! ### Arguments -/
def argFr : SV → Nat → List (Nat × SV)
  | .cons h t, n => (n, unlab none h) :: argFr t (n + 1)
  | _, _ => []
def argsOk : SV → Nat → Prop
  | .nil, _ => True
  | .cons _ t, n + 1 => argsOk t n
  | _, _ => False

/-- What is yielded goes into the slots of the loop. -/
def setPs : List Nat → SV → List (Nat × SV) → (List (Nat × SV) → Prop) → Prop
  | [], .nil, fr, k => k fr
  | p :: r, .cons h t, fr, k => forceSV h fun s => setPs r t ((p, s) :: fr) k
  | _, _, _, _ => False

def noHid (d : Nat) : List (Nat × HObj) → Bool
  | [] => true
  | (_, .hid l _) :: r => bif Nat.blt l d then noHid d r else false
  | _ :: r => noHid d r

def pdOf : SExit → Nat
  | .normal => 0
  | .ret => 2
  | .exit id => id + 3
def goesOn : SExit → Bool
  | .normal => true
  | _ => false

def evC : SCode → Tb → St → (SExit → St → Prop) → Prop
  | .skip, _, st, k => k .normal st
  | .region keep ops, T, st, k => evOs T ops [] st fun st' => match st' with
    | ⟨fr0, hp, nx⟩ => trimK fr0 keep fun fr => k .normal ⟨fr, hp, nx⟩
  | .drawn keep t, T, st, k => match st with
    | ⟨fr, hp, nx⟩ => evD T t fr hp nx fun st' => match st' with
      | ⟨fr0, hp, nx⟩ => trimK fr0 keep fun fr => k .normal ⟨fr, hp, nx⟩
  | .seq a b, T, st, k => evC a T st fun e st' =>
    match e with
    | .normal => evC b T st' k
    | .exit id => k (.exit id) st'
    | .ret => k .ret st'
  | .cond c a b, T, st, k =>
    match c with
    | .c (.bool true) => evC a T st k
    | .c (.bool false) => evC b T st k
    | .c _ => False
    | .s n => match look st.fr n with
      | .bool p => (p = true → evC a T st k) ∧ (p = false → evC b T st k)
      | _ => False
  | .block id a, T, st, k => evC a T st fun e st' =>
    match e with
    | .normal => k .normal st'
    | .exit j => bif Nat.beq j id then k .normal st' else k (.exit j) st'
    | .ret => k .ret st'
  | .loop _i asg a, T, st, k =>
    ∃ V : Inv, ∃ x : V.X, V.I x ∧ headK T.bnd asg st (V.fr x) (V.hp x) (fun h => subSt T.np T.bnd st h) ∧
      ∀ x, V.I x → headK T.bnd asg st (V.fr x) (V.hp x) fun h => stF h fun h => evC a T h fun e st' =>
        match e with
        | .normal => ∃ x', V.I x' ∧ headK T.bnd asg st (V.fr x') (V.hp x') (fun h' => subSt T.np T.bnd st' h') ∧ V.meas x' < V.meas x
        | .exit id => k (.exit id) st'
        | .ret => k .ret st'
  | .exit id, _, st, k => k (.exit id) st
  | .ret, _, st, k => k .ret st
  | .join _i asg a, T, st, k =>
    ∃ V : Inv, (evC a T st fun e st' =>
      match e with
      | .normal => ∃ x, V.I x ∧ headK T.bnd asg st (V.fr x) (V.hp x) (fun h => subSt T.np T.bnd st' h)
      | .exit id => k (.exit id) st'
      | .ret => k .ret st') ∧
    ∀ x, V.I x → headK T.bnd asg st (V.fr x) (V.hp x) fun h => stF h fun h => k .normal h
  | .range _i f gid g gn ps asgn body, T, st, k =>
    match gx none st.fr f with
    | .fn kf caps => bif Nat.beq kf gid && Nat.blt kf FM then bif Nat.blt st.nx FB then
        match st with
        | ⟨fr, hp, nx⟩ => argsOk (.cons (.yield nx) caps) gn ∧
          evC g
            ⟨T.fs, (T.dep, fun id np bnd dep args hp' nx' K =>
              match get? hp' id with
              | some (.hid l 0) => bif Nat.beq l T.dep then
                  setPs ps args fr fun fr1 => evC asgn ⟨T.fs, T.ys, np, bnd, dep⟩ ⟨fr1, hp', nx'⟩ fun e st1 =>
                    match e with
                    | .normal => match st1 with
                      | ⟨fr2, hp2, nx2⟩ => match get? hp2 id with
                        | some (.hid l 0) => bif Nat.beq l T.dep then
                            putK hp2 id (.hid T.dep 1) fun hp3 => evC body ⟨T.fs, T.ys, np, bnd, dep⟩ ⟨fr2, hp3, nx2⟩ fun e st2 =>
                              match st2 with
                              | ⟨_, hp4, nx4⟩ => match get? hp4 id with
                                | some (.hid l 1) => bif Nat.beq l T.dep then putK hp4 id (.hid T.dep (pdOf e)) fun hp5 => K (goesOn e) hp5 nx4 else False
                                | _ => False
                          else False
                        | _ => False
                    | _ => False
                else False
              | _ => False) :: T.ys, famIds hp, nx + 1, T.dep + 1⟩
            ⟨argFr (.cons (.yield nx) caps) 0, (nx, .hid T.dep 0) :: hp, nx + 1⟩ fun e st' =>
              match e with
              | .exit _ => False
              | _ => match st' with
                | ⟨_, hp', nx'⟩ => bif noHid T.dep (drop? hp' nx) then
                  match get? hp' nx with
                  | some (.hid l pd) => bif Nat.beq l T.dep then
                      match pd with
                      | 0 => k .normal ⟨fr, drop? hp' nx, nx'⟩
                      | 1 => False
                      | 2 => k .ret ⟨fr, drop? hp' nx, nx'⟩
                      | n + 3 => k (.exit n) ⟨fr, drop? hp' nx, nx'⟩
                    else False
                  | _ => False
                else False
      else False else False
    | _ => False

/-! ### Translation -/
def dsts : List Oper → List Nat
  | [] => []
  | o :: r => match o.dst with
    | some d => d :: dsts r
    | none => dsts r

/-- The slots that a piece of code writes. -/
def asgs : Code → List Nat
  | .region _ ops _ => dsts ops.toList
  | .seq a b => asgs a ++ asgs b
  | .cond _ a b => asgs a ++ asgs b
  | .block _ a => asgs a
  | .loop a => asgs a
  | .scope a => asgs a
  | _ => []

def opSlot : Operand → List Nat
  | .tmp t => [t]
  | _ => []
def opsSlots : List Oper → List Nat
  | [] => []
  | o :: r => o.op.operands.toList.flatMap opSlot ++ opsSlots r

/-- Which slot is used in which region (0: in a test). -/
def uses : Code → List (Nat × Nat)
  | .region id ops _ => (opsSlots ops.toList ++ dsts ops.toList).map fun s => (id + 1, s)
  | .seq a b => uses a ++ uses b
  | .cond c a b => (opSlot c).map (fun s => (0, s)) ++ uses a ++ uses b
  | .block _ a => uses a
  | .loop a => uses a
  | .scope a => uses a
  | .rangeFunc f ps a b => (opSlot f ++ ps.toList).map (fun s => (0, s)) ++ uses a ++ uses b
  | _ => []

def dedup : List Nat → List Nat
  | [] => []
  | x :: r => let l := dedup r; bif memN l x then l else x :: l

/-- The slots that more than one place uses. -/
def globals (us : List (Nat × Nat)) (res : List Nat) : List Nat :=
  (dedup (us.map (·.2) ++ res)).filter fun s => memN res s || us.any fun p => p.2 == s && us.any fun q => q.2 == s && q.1 != p.1

/-- How many loops a piece of code has. -/
def nLoops : SCode → Nat
  | .seq a b => nLoops a + nLoops b
  | .cond _ a b => nLoops a + nLoops b
  | .block _ a => nLoops a
  | .loop _ _ a => nLoops a + 1
  | .join _ _ a => nLoops a + 1
  | .range _ _ _ g _ _ a b => nLoops g + nLoops a + nLoops b + 1
  | _ => 0

def allLt (n : Nat) : List Nat → Bool
  | [] => true
  | p :: r => bif Nat.blt p n then allLt n r else false

/-- Translation. rg: the functions that are ranged over, by the numbers of the ranges. -/
def cCode (P : Program) (n : Nat) (G : List Nat) (joins : List Nat) (hint : List Nat) (rg : List (Nat × Nat × SCode × Nat)) : Code → Nat × Nat → Option (SCode × Nat × Nat)
  | .skip, c => some (.skip, c)
  | .region _ ops false, c => match cOpers P n ops.toList ops.toList with
    | some l => some (.region G l, c)
    | none => none
  | .region _ ops true, c => match cDraw P n hint ops.toList with
    | some t => some (.drawn G t, c)
    | none => match cDrawL P n hint ops.toList with
      | some (t, so) => some (.seq (.drawn (dedup (G ++ readS so)) t) (.region G [so]), c)
      | none => none
  | .seq a b, c => match cCode P n G joins hint rg a c with
    | some (a', c) => match cCode P n G joins hint rg b c with
      | some (b', c) => some (.seq a' b', c)
      | none => none
    | none => none
  | .cond x a b, (i, j) => match cX x with
    | some x' => match cCode P n G joins hint rg a (bif memN joins j then i + 1 else i, j + 1) with
      | some (a', c) => match cCode P n G joins hint rg b c with
        | some (b', c) => some (bif memN joins j then .join i (dedup (asgs a ++ asgs b)) (.cond x' a' b') else .cond x' a' b', c)
        | none => none
      | none => none
    | none => none
  | .block id a, c => match cCode P n G joins hint rg a c with
    | some (a', c) => some (.block id a', c)
    | none => none
  | .loop a, (i, j) => match cCode P n G joins hint rg a (i + 1, j) with
    | some (a', c) => some (.loop i (dedup (asgs a)) a', c)
    | none => none
  | .exit id, c => some (.exit id, c)
  | .ret, c => some (.ret, c)
  | .rangeFunc f ps a b, (i, j) => match cX f with
    | some f' => match get? rg i with
      | some (gid, g, gn) => match cCode P n G joins hint rg a (i + 1 + nLoops g, j) with
        | some (a', c) => match cCode P n G joins hint rg b c with
          | some (b', c) => bif allLt n ps.toList then some (.range i f' gid g gn ps.toList a' b', c) else none
          | none => none
        | none => none
      | none => none
    | none => none
  | _, _ => none

/-- What is translated into what. -/
inductive Tr (P : Program) : Nat → Code → SCode → Prop where
  | skip {n} : Tr P n .skip .skip
  | region {n G id ops l} : cOpers P n ops.toList ops.toList = some l → Tr P n (.region id ops false) (.region G l)
  | drawn {n G id hint ops t} : cDraw P n hint ops.toList = some t → Tr P n (.region id ops true) (.drawn G t)
  | drawnL {n G G' id hint ops t so} : cDrawL P n hint ops.toList = some (t, so) → Tr P n (.region id ops true) (.seq (.drawn G' t) (.region G [so]))
  | seq {n a b a' b'} : Tr P n a a' → Tr P n b b' → Tr P n (.seq a b) (.seq a' b')
  | cond {n x a b x' a' b'} : cX x = some x' → Tr P n a a' → Tr P n b b' → Tr P n (.cond x a b) (.cond x' a' b')
  | join {n c i asg a} : Tr P n c a → Tr P n c (.join i asg a)
  | block {n id a a'} : Tr P n a a' → Tr P n (.block id a) (.block id a')
  | loop {n i asg a a'} : Tr P n a a' → Tr P n (.loop a) (.loop i asg a')
  | exit {n id} : Tr P n (.exit id) (.exit id)
  | ret {n} : Tr P n .ret .ret
  | range {n i f f' gid g gn ps a b a' b' fn cg} : cX f = some f' → P.funcs[gid]? = some fn → (fn.name == "runtime.NumGoroutine") = false → fn.body = some cg → fn.ntmps = gn → fn.results.toList = [] → Tr P gn cg g →
      allLt n ps.toList = true → Tr P n a a' → Tr P n b b' → Tr P n (.rangeFunc f ps a b) (.range i f' gid g gn ps.toList a' b')

def RgOk (P : Program) (rg : List (Nat × Nat × SCode × Nat)) : Prop :=
  ∀ i gid g gn, get? rg i = some (gid, g, gn) → ∃ fn cg, P.funcs[gid]? = some fn ∧ (fn.name == "runtime.NumGoroutine") = false ∧ fn.body = some cg ∧ fn.ntmps = gn ∧ fn.results.toList = [] ∧ Tr P gn cg g

theorem cCode_tr {P : Program} {n : Nat} {G joins hint : List Nat} {rg : List (Nat × Nat × SCode × Nat)} (hrg : RgOk P rg) : ∀ (c : Code) (sc : SCode) (p q : Nat × Nat), cCode P n G joins hint rg c p = some (sc, q) → Tr P n c sc := by
  intro c
  induction c with
  | skip => intro sc p q h; simp only [cCode, Option.some.injEq, Prod.mk.injEq] at h; rw [← h.1]; exact .skip
  | exit id => intro sc p q h; simp only [cCode, Option.some.injEq, Prod.mk.injEq] at h; rw [← h.1]; exact .exit
  | ret => intro sc p q h; simp only [cCode, Option.some.injEq, Prod.mk.injEq] at h; rw [← h.1]; exact .ret
  | region id ops draws =>
    intro sc p q h
    cases draws with
    | true =>
      simp only [cCode] at h
      split at h
      · rename_i t ht
        simp only [Option.some.injEq, Prod.mk.injEq] at h
        rw [← h.1]
        exact .drawn ht
      · split at h
        · rename_i t so ht
          simp only [Option.some.injEq, Prod.mk.injEq] at h
          rw [← h.1]
          exact .drawnL ht
        · cases h
    | false =>
      simp only [cCode] at h
      split at h
      · rename_i l hl
        simp only [Option.some.injEq, Prod.mk.injEq] at h
        rw [← h.1]
        exact .region hl
      · cases h
  | seq x y ihx ihy =>
    intro sc p q h
    simp only [cCode] at h
    split at h
    · rename_i x' c1 hx
      split at h
      · rename_i y' c2 hy
        simp only [Option.some.injEq, Prod.mk.injEq] at h
        rw [← h.1]
        exact .seq (ihx _ _ _ hx) (ihy _ _ _ hy)
      · cases h
    · cases h
  | cond x y z ihy ihz =>
    intro sc p q h
    obtain ⟨i, j⟩ := p
    simp only [cCode] at h
    split at h
    · rename_i x' hx
      split at h
      · rename_i y' c1 hy
        split at h
        · rename_i z' c2 hz
          simp only [Option.some.injEq, Prod.mk.injEq] at h
          obtain ⟨h, _⟩ := h
          have ht := Tr.cond hx (ihy _ _ _ hy) (ihz _ _ _ hz)
          cases hj : memN joins j with
          | false => simp only [hj, cond_false] at h; rw [← h]; exact ht
          | true => simp only [hj, cond_true] at h; rw [← h]; exact .join ht
        · cases h
      · cases h
    · cases h
  | block id x ih =>
    intro sc p q h
    simp only [cCode] at h
    split at h
    · rename_i x' c1 hx
      simp only [Option.some.injEq, Prod.mk.injEq] at h
      rw [← h.1]
      exact .block (ih _ _ _ hx)
    · cases h
  | loop x ih =>
    intro sc p q h
    obtain ⟨i, j⟩ := p
    simp only [cCode] at h
    split at h
    · rename_i x' c1 hx
      simp only [Option.some.injEq, Prod.mk.injEq] at h
      rw [← h.1]
      exact .loop (ih _ _ _ hx)
    · cases h
  | rangeFunc f ps a b iha ihb =>
    intro sc p q h
    obtain ⟨i, j⟩ := p
    simp only [cCode] at h
    split at h
    · rename_i f' hf
      split at h
      · rename_i gid g gn hg
        split at h
        · rename_i a' c1 ha
          split at h
          · rename_i b' c2 hb
            cases hl : allLt n ps.toList with
            | false => simp [hl] at h
            | true =>
              simp only [hl, cond_true, Option.some.injEq, Prod.mk.injEq] at h
              rw [← h.1]
              obtain ⟨fn, cg, h1, h2, h3, h4, h5, h6⟩ := hrg _ _ _ _ hg
              exact .range hf h1 h2 h3 h4 h5 h6 hl (iha _ _ _ ha) (ihb _ _ _ hb)
          · cases h
        · cases h
      · cases h
    · cases h
  | _ => intro sc p q h; simp [cCode] at h

/-! ### Soundness -/
section
variable {P : Program} {C : Ctx} {ro : Option Nat}

/-- A store stands, and no slot of it hangs on another. -/
def Stands (C : Ctx) (st : St) (a : Act) (w : World) : Prop := (∃ μ, RepAt C μ st a w) ∧ LabOk st.fr []

def exitOf : SExit → Exit
  | .normal => .normal
  | .exit id => .exit id
  | .ret => .ret

universe u v
/-- A continuation is asked at one place, or never. -/
def Det {α : Type u} (F : (α → Prop) → Prop) : Prop := (∃ x, ∀ k, F k ↔ k x) ∨ ∀ k, ¬ F k

theorem Det.comp {α : Type u} {β : Type v} {F : (α → Prop) → Prop} {G : α → (β → Prop) → Prop} (hF : Det F) (hG : ∀ x, Det (G x)) : Det fun k => F fun x => G x k := by
  rcases hF with ⟨x, hx⟩ | hx
  · rcases hG x with ⟨y, hy⟩ | hy
    · exact .inl ⟨y, fun k => (hx _).trans (hy k)⟩
    · exact .inr fun k h => hy k ((hx _).1 h)
  · exact .inr fun k h => hx _ h
theorem Det.map {α : Type u} {β : Type v} {F : (α → Prop) → Prop} (hF : Det F) (g : α → β) : Det fun k => F fun x => k (g x) :=
  hF.comp (G := fun x k => k (g x)) fun x => .inl ⟨g x, fun _ => Iff.rfl⟩
theorem Det.pure {α : Type u} (x : α) : Det fun k => k x := .inl ⟨x, fun _ => Iff.rfl⟩

theorem det_forceSV (s : SV) : Det (forceSV s) := by
  unfold forceSV
  simp only [forceS_eq]
  cases s <;> first
    | exact .inl ⟨_, fun _ => Iff.rfl⟩
    | exact .inr fun _ h => h

theorem det_forceFr : ∀ l, Det (forceFr l) := by
  intro l
  induction l with
  | nil => exact .pure _
  | cons p r ih =>
    obtain ⟨n, s⟩ := p
    exact Det.comp (F := forceSV s) (det_forceSV s) fun s => Det.map ih fun l => (n, s) :: l

theorem det_keepFr (asg : List Nat) (new : List (Nat × SV)) : ∀ l, Det (keepFr asg new l) := by
  intro l
  induction l with
  | nil => exact .pure _
  | cons p r ih =>
    obtain ⟨n, s⟩ := p
    cases h1 : memN asg n with
    | true => simp only [funext (fun k => keepFr.eq_2 asg new k n s r), h1, cond_true]; exact ih
    | false =>
      cases h2 : hasKey new n with
      | true => simp only [funext (fun k => keepFr.eq_2 asg new k n s r), h1, h2, cond_true, cond_false]; exact ih
      | false => simp only [funext (fun k => keepFr.eq_2 asg new k n s r), h1, h2, cond_false]; exact Det.map ih fun l => (n, s) :: l

theorem det_keepHp (ids : List Nat) (bnd : Nat) (new : List (Nat × HObj)) : ∀ l, Det (keepHp ids bnd new l) := by
  intro l
  induction l with
  | nil => exact .pure _
  | cons p r ih =>
    obtain ⟨n, s⟩ := p
    have e := funext (fun k => keepHp.eq_2 ids bnd new k n s r)
    cases h1 : memN ids n || keepO s || Nat.blt n bnd with
    | false => rw [e]; simp only [h1, cond_false]; exact ih
    | true =>
      rw [e]; simp only [h1, cond_true]
      split
      · exact ih
      · rename_i o' _ _; exact Det.map ih fun l => (n, o') :: l
      · exact Det.map ih fun l => (n, s) :: l

theorem det_newHp (hp0 : List (Nat × HObj)) : ∀ (new l : List (Nat × HObj)) (nx : Nat), Det (α := List (Nat × HObj) × Nat) fun k => newHp hp0 new l nx fun a b => k (a, b) := by
  intro new
  induction new with
  | nil => intro l nx; exact .inl ⟨(l, nx), fun _ => Iff.rfl⟩
  | cons p r ih =>
    intro l nx
    obtain ⟨n, o⟩ := p
    simp only [newHp]
    split
    · exact ih _ _
    · split
      · exact ih _ _
      · cases Nat.blt n nx with
        | true => simp only [cond_true]; exact ih _ _
        | false => simp only [cond_false]; exact ih _ _

theorem det_headK (bnd : Nat) (asg : List Nat) (st : St) (fr : List (Nat × SV)) (hp : List (Nat × HObj)) : Det (headK bnd asg st fr hp) := by
  obtain ⟨fr0, hp0, nx0⟩ := st
  have e : headK bnd asg ⟨fr0, hp0, nx0⟩ fr hp = fun k => forceFr fr fun fr => keepFr asg fr fr0 fun fr' =>
      keepHp (dedupN (idsHp hp0 (dedupN (idsHp hp0 (dedupN (idsFr fr' (lowIds bnd hp0)) []) (idsHp hp (dedupN (idsFr fr' (lowIds bnd hp0)) []) (dedupN (idsFr fr' (lowIds bnd hp0)) []))) []) (idsHp hp (dedupN (idsHp hp0 (dedupN (idsFr fr' (lowIds bnd hp0)) []) (idsHp hp (dedupN (idsFr fr' (lowIds bnd hp0)) []) (dedupN (idsFr fr' (lowIds bnd hp0)) []))) []) (dedupN (idsHp hp0 (dedupN (idsFr fr' (lowIds bnd hp0)) []) (idsHp hp (dedupN (idsFr fr' (lowIds bnd hp0)) []) (dedupN (idsFr fr' (lowIds bnd hp0)) []))) []))) []) bnd hp hp0 fun hp' => newHp hp0 hp hp' nx0 fun hp'' nx' => k ⟨fr', hp'', nx'⟩ := by
    funext k
    simp only [headK, forceHp_eq, forceD_eq]
  rw [e]
  refine Det.comp (F := forceFr fr) (det_forceFr fr) fun fr => ?_
  refine Det.comp (F := keepFr asg fr fr0) (det_keepFr _ _ _) fun fr' => ?_
  refine Det.comp (F := keepHp _ bnd hp hp0) (det_keepHp _ _ _ _) fun hp' => ?_
  exact Det.map (det_newHp hp0 hp hp' nx0) fun x => (⟨fr', x.1, x.2⟩ : St)

/-- What is asked of the store at a head, and what is given there. -/
theorem headK_same {bnd : Nat} {asg : List Nat} {st : St} {fr : List (Nat × SV)} {hp : List (Nat × HObj)} {k1 k2 : St → Prop} (h1 : headK bnd asg st fr hp k1) (h2 : headK bnd asg st fr hp k2) : ∃ st', k1 st' ∧ k2 st' := by
  rcases det_headK bnd asg st fr hp with ⟨x, hx⟩ | hx
  · exact ⟨x, (hx _).1 h1, (hx _).1 h2⟩
  · exact (hx _ h1).elim

end
end Go.Eng
