/- The engine, part 6: the evaluation of operations that compute or read. -/
import Derived.Test.YtcckdpimimkejaaEngE
namespace Go.Eng
open Go Go.RowKit

/-- What an evaluation comes to: nothing; a value; a value where something holds. -/
inductive PR where
  | fail
  | ok (v : SV)
  | side (p : Prop) (v : SV)

def PR.of : Option SV → PR
  | some v => .ok v
  | none => .fail

def rd (n : Nat) (agg : Bool) (l : SV) : Option SV :=
  match agg with
  | true => match takeL n l with
    | some r => some (.agg r)
    | none => none
  | false => headL l

def nthE : SV → Nat → SV
  | .cons h _, 0 => h
  | .cons _ t, n + 1 => nthE t n
  | _, _ => .junk

def kEq : IntKind → IntKind → Bool
  | .i8, .i8 | .i16, .i16 | .i32, .i32 | .i64, .i64 | .u8, .u8 | .u16, .u16 | .u32, .u32 | .u64, .u64 => true
  | _, _ => false
theorem kEq_ok {k k' : IntKind} (h : kEq k k' = true) : k = k' := by cases k <;> cases k' <;> first | rfl | (simp [kEq] at h)

def evLoad (hp : List (Nat × HObj)) (n : Nat) (agg : Bool) : SV → PR
  | .own id off => match get? hp id with
    | some (.cells _ l) => PR.of (rd n agg (dropL off l))
    | _ => .fail
  | .oel id sz i off => match get? hp id with
    | some (.arr _ sz' len enc) => bif Nat.beq sz sz' then
        match rd n agg (dropL off (enc i)) with
        | some v => .side (i < len) v
        | none => .fail
      else .fail
    | _ => .fail
  | .cptr cells => PR.of (rd n agg cells)
  | _ => .fail

def natX : SX → Option Nat
  | .c (.int _ (.ofNat m)) => some m
  | _ => none

def asSlice : SV → Option (Nat × Nat × (Nat → SV))
  | .slice sz n enc => some (sz, n, enc)
  | .slit sz els => some (sz, els.len, nthE els)
  | _ => none

def evIdx (sz : Nat) (x i : SV) : PR :=
  match i with
  | .int _ m => match asOsl x with
    | .osl id sz' lo n => bif Nat.beq sz sz' then .side (0 ≤ m ∧ m < n) (.oel id sz (lo + m.toNat) 0) else .fail
    | x => match asSlice x with
      | some (sz', n, enc) => bif Nat.beq sz sz' then .side (0 ≤ m ∧ m < n) (.cptr (enc m.toNat)) else .fail
      | none => .fail
  | _ => .fail

/-- A shift; an operation on bits. -/
def shI (op : BinOp) (k : IntKind) (a b : Int) : Int :=
  match op with
  | .shl => k.wrap (a * 2 ^ (min b.toNat k.bits))
  | _ => a.fdiv (2 ^ (min b.toNat k.bits))
def bitI (op : BinOp) (k : IntKind) (a b : Int) : Int :=
  match op with
  | .and => k.wrap (BitVec.ofInt k.bits a &&& BitVec.ofInt k.bits b).toNat
  | .or => k.wrap (BitVec.ofInt k.bits a ||| BitVec.ofInt k.bits b).toNat
  | .xor => k.wrap (BitVec.ofInt k.bits a ^^^ BitVec.ofInt k.bits b).toNat
  | _ => k.wrap (BitVec.ofInt k.bits a &&& ~~~BitVec.ofInt k.bits b).toNat
/-- Is a number one that wraps? -/
def isU64 : IntKind → Bool
  | .u64 => true
  | _ => false
def evInt (op : BinOp) (k : IntKind) (a b : Int) : PR :=
  match op with
  | .add => match isU64 k with
    | true => .ok (.int k (k.wrap (a + b)))
    | false => .side (InR k (a + b)) (.int k (a + b))
  | .sub => match isU64 k with
    | true => .ok (.int k (k.wrap (a - b)))
    | false => .side (InR k (a - b)) (.int k (a - b))
  | .mul => match isU64 k with
    | true => .ok (.int k (k.wrap (a * b)))
    | false => .side (InR k (a * b)) (.int k (a * b))
  | .quo => .side (b ≠ 0 ∧ InR k (a.tdiv b)) (.int k (a.tdiv b))
  | .rem => .side (b ≠ 0) (.int k (a.tmod b))
  | .eql => .ok (.bool (decide (a = b)))
  | .neq => .ok (.bool (!decide (a = b)))
  | .lss => .ok (.bool (decide (a < b)))
  | .leq => .ok (.bool (decide (a ≤ b)))
  | .gtr => .ok (.bool (decide (b < a)))
  | .geq => .ok (.bool (decide (b ≤ a)))
  | .and => .ok (.int k (bitI .and k a b))
  | .or => .ok (.int k (bitI .or k a b))
  | .xor => .ok (.int k (bitI .xor k a b))
  | .andNot => .ok (.int k (bitI .andNot k a b))
  | _ => .fail
def evShift (op : BinOp) (k : IntKind) (a b : Int) : PR :=
  match op with
  | .shl => .side (0 ≤ b) (.int k (shI .shl k a b))
  | .shr => .side (0 ≤ b) (.int k (shI .shr k a b))
  | _ => .fail
def isShift : BinOp → Bool
  | .shl => true
  | .shr => true
  | _ => false
def evBin (op : BinOp) : SV → SV → PR
  | .int k a, .int k' b => bif isShift op then evShift op k a b else bif kEq k k' then evInt op k a b else .fail
  | .str a, .str b =>
      match op with
      | .add => .side (a.length + b.length ≤ 9223372036854775807) (.str (a ++ b))
      | .eql => .ok (.bool (decide (a = b)))
      | .neq => .ok (.bool (!decide (a = b)))
      | .lss => .ok (.bool (Op.bytesLess a b))
      | .leq => .ok (.bool (Op.bytesLess a b || decide (a = b)))
      | .gtr => .ok (.bool (!(Op.bytesLess a b || decide (a = b))))
      | .geq => .ok (.bool (!Op.bytesLess a b))
      | _ => .fail
  | _, _ => .fail

/-- Under this number '.own' in a table says that sums, differences and products wrap. -/
def WRP : Nat := 2097153
def wrapB (tab : List (Nat × FSpec)) (op : BinOp) : Bool :=
  match get? tab WRP with
  | some .own => match op with
    | .add => true
    | .sub => true
    | .mul => true
    | _ => false
  | _ => false
def wrI (op : BinOp) (k : IntKind) (a b : Int) : Int :=
  match op with
  | .add => k.wrap (a + b)
  | .sub => k.wrap (a - b)
  | _ => k.wrap (a * b)
def evWrap (op : BinOp) : SV → SV → PR
  | .int k a, .int k' b => bif kEq k k' then .ok (.int k (wrI op k a b)) else .fail
  | _, _ => .fail

def evPtrEq (neg : Bool) : SV → SV → PR
  | .val (.pointer none), .val (.pointer none) => .ok (.bool (!neg))
  | .own _ _, .val (.pointer none) => .ok (.bool neg)
  | .fown _ _ _, .val (.pointer none) => .ok (.bool neg)
  | .cptr _, .val (.pointer none) => .ok (.bool neg)
  | .oel _ _ _ _, .val (.pointer none) => .ok (.bool neg)
  | .val (.pointer (some _)), .val (.pointer none) => .ok (.bool neg)
  | _, _ => .fail

/-- Are two aggregates equal, at some places of one cell each? -/
def eqFs : List (Nat × Nat) → SV → SV → Option Bool
  | [], _, _ => some true
  | (off, k) :: r, a, b => match headL (dropL off a), headL (dropL off b) with
    | some (.int q m), some (.int q' n) => bif Nat.beq k 1 then bif kEq q q' then match eqFs r a b with
          | some z => some (decide (m = n) && z)
          | none => none
        else none else none
    | some (.bool p), some (.bool p') => bif Nat.beq k 0 then match eqFs r a b with
        | some z => some ((p == p') && z)
        | none => none
      else none
    | some (.str s), some (.str s') => bif Nat.beq k 2 then match eqFs r a b with
        | some z => some (decide (s = s') && z)
        | none => none
      else none
    | _, _ => none

def evMapEq (neg : Bool) : SV → SV → PR
  | .val (.map none), .val (.map none) => .ok (.bool (!neg))
  | .mref _, .val (.map none) => .ok (.bool neg)
  | .fmref _ _, .val (.map none) => .ok (.bool neg)
  | _, _ => .fail

/-- One arm of a pick by slot d: the arm's value where d holds 'want'. -/
def pickArm (g : Option (Nat × Bool)) (fr : List (Nat × SV)) (c : SX) (want : Bool) : SX → SV
  | .c v => v.sv
  | .s n => match look fr n with
    | .gd d w v => bif labEq g d w then v else
      match c with
      | .s d' => bif labEq (some (d', want)) d w then v else .junk
      | .c _ => .junk
    | v => v

def pickB (p : Bool) (a b : SX) (x y : Bool) : Bool :=
  match a with
  | .c (.bool true) => p || y
  | _ => match b with
    | .c (.bool false) => p && x
    | _ => if p then x else y

def evPick (g : Option (Nat × Bool)) (fr : List (Nat × SV)) (c a b : SX) : PR :=
  match gx g fr c with
  | .bool p => match pickArm g fr c true a with
    | .bool x => match pickArm g fr c false b with
      | .bool y => .ok (.bool (pickB p a b x y))
      | _ => .side (p = true) (.bool x)
    | _ => match pickArm g fr c false b with
      | .bool y => .side (p = false) (.bool y)
      | _ => .fail
  | _ => .fail

def appL : SV → SV → SV
  | .cons h t, m => .cons h (appL t m)
  | _, m => m

/-- A slice that is owned, as one that does not change. -/
def asFixed (hp : List (Nat × HObj)) : SV → SV
  | .lsl id sz n => match get? hp id with
    | some (.arr _ _ _ enc) => .slice sz n enc
    | _ => .lsl id sz n
  | .osl id sz lo n => match get? hp id with
    | some (.arr _ _ _ enc) => .slice sz n fun i => enc (lo + i)
    | _ => .osl id sz lo n
  | s => s
def fixArgs (hp : List (Nat × HObj)) : SV → SV
  | .cons h t => .cons (asFixed hp h) (fixArgs hp t)
  | s => s

def evCall (tab : List (Nat × FSpec)) (hp : List (Nat × HObj)) (f : Nat) (args : SV) : PR :=
  match get? tab f with
  | some (.p S) => match S.inst (fixArgs hp args) with
    | some x => match S.fresh with
      | true => .side (S.pre x ∧ sub .free hp 200 args (S.args x)) (S.res x)
      | false => .side (S.pre x ∧ sub .hold' hp 200 args (S.args x)) (S.res x)
    | none => .fail
  | _ => .fail

def isL : SV → Bool
  | .nil => true
  | .cons _ t => isL t
  | _ => false

/-- A call of a function value: the function's number, and what it is handed. -/
def callOf (k : Nat) (args caps : SV) : Option (Nat × SV) :=
  bif Nat.blt k FM then some (k, appL args caps) else bif isL caps then some (k - FM, appL caps args) else none
theorem callOf_eq {k : Nat} {args caps l : SV} {k' : Nat} (h : callOf k args caps = some (k', l)) : (Nat.blt k FM = true ∧ k' = k ∧ l = appL args caps) ∨ (Nat.blt k FM = false ∧ isL caps = true ∧ k' = k - FM ∧ l = appL caps args) := by
  unfold callOf at h
  cases h1 : Nat.blt k FM with
  | true =>
    simp only [h1, cond_true, Option.some.injEq, Prod.mk.injEq] at h
    exact .inl ⟨rfl, h.1.symm, h.2.symm⟩
  | false =>
    cases h2 : isL caps with
    | true =>
      simp only [h1, h2, cond_true, cond_false, Option.some.injEq, Prod.mk.injEq] at h
      exact .inr ⟨rfl, rfl, h.1.symm, h.2.symm⟩
    | false => simp [h1, h2] at h

/-- The cells of a part of an aggregate. -/
def cellsOf : SV → Option SV
  | .agg l => some l
  | v => bif isOne v then some (.cons v .nil) else none

/-- A list of cells, with others from place off on. -/
def putL : SV → Nat → SV → Option SV
  | .cons _ t, 0, .cons x r => match putL t 0 r with
    | some t' => some (.cons x t')
    | none => none
  | l, 0, .nil => some l
  | .cons h t, n + 1, r => match putL t n r with
    | some t' => some (.cons h t')
    | none => none
  | _, _, _ => none

def fillL (g : Option (Nat × Bool)) (fr : List (Nat × SV)) : List (Nat × Nat × SX) → SV → Option SV
  | [], l => some l
  | (off, size, x) :: r, l => match cellsOf (gx g fr x) with
    | some cs => bif Nat.beq cs.len size then
        match putL l off cs with
        | some l' => fillL g fr r l'
        | none => none
      else none
    | none => none

def repL (z : SV) : Nat → SV
  | 0 => .nil
  | n + 1 => appL z (repL z n)

/-- A list of cells, in elements of sz cells. -/
def chunkL (sz : Nat) : Nat → SV → Option SV
  | 0, .nil => some .nil
  | 0, _ => none
  | n + 1, l => match takeL sz l with
    | some e => match chunkL sz n (dropL sz l) with
      | some r => some (.cons e r)
      | none => none
    | none => none

def ox (g : Option (Nat × Bool)) (fr : List (Nat × SV)) : Option SX → Option SV
  | none => none
  | some x => some (gx g fr x)

def evSliceSl (sz : Nat) (x : SV) (lo hi : Option SV) : PR :=
  match lo with
  | none => match hi with
    | none => .fail
    | some (.int _ h) => match asOsl x with
      | .osl id sz' l0 n => bif Nat.beq sz sz' then .side (0 ≤ h ∧ h ≤ n) (.osl id sz l0 h.toNat) else .fail
      | .nilsl => .side (0 ≤ h ∧ h ≤ 0) .nilsl
      | x => match asSlice x with
        | some (sz', n, enc) => bif Nat.beq sz sz' then .side (0 ≤ h ∧ h ≤ n) (.slice sz h.toNat enc) else .fail
        | none => .fail
    | some _ => .fail
  | some (.int _ l) => match hi with
    | none => match asOsl x with
      | .osl id sz' l0 n => bif Nat.beq sz sz' then .side (0 ≤ l ∧ l ≤ n) (.osl id sz (l0 + l.toNat) (n - l.toNat)) else .fail
      | x => match asSlice x with
        | some (sz', n, enc) => bif Nat.beq sz sz' then .side (0 ≤ l ∧ l ≤ n) (.slice sz (n - l.toNat) (fun i => enc (l.toNat + i))) else .fail
        | none => .fail
    | some (.int _ h) => match asOsl x with
      | .osl id sz' l0 n => bif Nat.beq sz sz' then .side (0 ≤ l ∧ l ≤ h ∧ h ≤ n) (.osl id sz (l0 + l.toNat) (h.toNat - l.toNat)) else .fail
      | x => match asSlice x with
        | some (sz', n, enc) => bif Nat.beq sz sz' then .side (0 ≤ l ∧ l ≤ h ∧ h ≤ n) (.slice sz (h.toNat - l.toNat) (fun i => enc (l.toNat + i))) else .fail
        | none => .fail
    | some _ => .fail
  | some _ => .fail

def evSliceStr (s : List UInt8) (lo hi : Option SV) : PR :=
  match lo with
  | none => match hi with
    | none => .ok (.str s)
    | some (.int _ h) => .side (0 ≤ h ∧ h ≤ s.length) (.str (s.take h.toNat))
    | some _ => .fail
  | some (.int _ l) => match hi with
    | none => .side (0 ≤ l ∧ l ≤ s.length) (.str (s.drop l.toNat))
    | some (.int _ h) => .side (0 ≤ l ∧ l ≤ h ∧ h ≤ s.length) (.str ((s.drop l.toNat).take (h.toNat - l.toNat)))
    | some _ => .fail
  | some _ => .fail

def evP (tab : List (Nat × FSpec)) (g : Option (Nat × Bool)) (st : St) : SOp → PR
  | .move x => .ok (gx g st.fr x)
  | .pick c a b => evPick g st.fr c a b
  | .load n agg x => evLoad st.hp n agg (gx g st.fr x)
  | .fldA off x => match gx g st.fr x with
    | .own id o => .ok (.own id (o + off))
    | .fown h i o => .ok (.fown h i (o + off))
    | .oel id sz i o => .ok (.oel id sz i (o + off))
    | .cptr cells => .ok (.cptr (dropL off cells))
    | _ => .fail
  | .idxArr len sz x i => match natX i with
    | some m => bif Nat.blt m len then
        match gx g st.fr x with
        | .own id o => .ok (.own id (o + m * sz))
        | .oel id sz' j o => .ok (.oel id sz' j (o + m * sz))
        | .cptr cells => .ok (.cptr (dropL (m * sz) cells))
        | _ => .fail
      else .fail
    | none => .fail
  | .idxSl sz x i => evIdx sz (gx g st.fr x) (gx g st.fr i)
  | .idxStr x i => match gx g st.fr x with
    | .str s => match gx g st.fr i with
      | .int _ m => .side (0 ≤ m ∧ m < s.length) (.int .u8 ((s.getD m.toNat 0).toNat : Int))
      | _ => .fail
    | _ => .fail
  | .field off n agg x => match gx g st.fr x with
    | .agg l => PR.of (rd n agg (dropL off l))
    | _ => .fail
  | .nilCheck x => match gx g st.fr x with
    | .own id o => .ok (.own id o)
    | .fown h i o => .ok (.fown h i o)
    | .oel id sz i o => .ok (.oel id sz i o)
    | .cptr c => .ok (.cptr c)
    | .fn f l => .ok (.fn f l)
    | _ => .fail
  | .lenStr x => match gx g st.fr x with
    | .str s => .ok (.int .i64 (s.length : Int))
    | _ => .fail
  | .lenSl x => match gx g st.fr x with
    | .slice _ n _ => .ok (.int .i64 (n : Int))
    | .slit _ els => .ok (.int .i64 (els.len : Int))
    | .osl _ _ _ n => .ok (.int .i64 (n : Int))
    | .lsl _ _ n => .ok (.int .i64 (n : Int))
    | .nilsl => .ok (.int .i64 0)
    | _ => .fail
  | .bin op x y => bif wrapB tab op then evWrap op (gx g st.fr x) (gx g st.fr y) else evBin op (gx g st.fr x) (gx g st.fr y)
  | .ptrEq neg x y => evPtrEq neg (gx g st.fr x) (gx g st.fr y)
  | .eqB neg x y => match gx g st.fr x with
    | .bool a => match gx g st.fr y with
      | .bool b => match neg with
        | true => .ok (.bool (!(a == b)))
        | false => .ok (.bool (a == b))
      | _ => .fail
    | _ => .fail
  | .not x => match gx g st.fr x with
    | .bool b => .ok (.bool (!b))
    | _ => .fail
  | .neg x => match gx g st.fr x with
    | .int k n => .side (InR k (0 - n)) (.int k (0 - n))
    | _ => .fail
  | .cnv k x => match gx g st.fr x with
    | .int _ n => .side (InR k n) (.int k n)
    | _ => .fail
  | .convS x => match gx g st.fr x with
    | .str s => .ok (.str s)
    | _ => .fail
  | .mm mx x y => match gx g st.fr x with
    | .int k a => match gx g st.fr y with
      | .int _ b => match mx with
        | true => .ok (.int k (max a b))
        | false => .ok (.int k (min a b))
      | _ => .fail
    | _ => .fail
  | .extract i x => match gx g st.fr x with
    | .tup l => PR.of (headL (dropL i l))
    | _ => .fail
  | .mkfn f caps => .ok (.fn f (gxs g st.fr caps))
  | .build z parts => match fillL g st.fr parts z.sv with
    | some l => .ok (.agg l)
    | none => .fail
  | .buildSl _ sz n z parts => match fillL g st.fr parts (repL z.sv n) with
    | some l => match chunkL sz n l with
      | some els => .ok (.slit sz els)
      | none => .fail
    | none => .fail
  | .sliceSl sz x lo hi => evSliceSl sz (gx g st.fr x) (ox g st.fr lo) (ox g st.fr hi)
  | .sliceStr x lo hi => match gx g st.fr x with
    | .str s => evSliceStr s (ox g st.fr lo) (ox g st.fr hi)
    | _ => .fail
  | .call f args => match gx g st.fr f with
    | .fn k caps => match callOf k (gxs g st.fr args) caps with
      | some (k', l) => evCall tab st.hp k' l
      | none => .fail
    | _ => .fail
  | .mapEq neg x y => evMapEq neg (gx g st.fr x) (gx g st.fr y)
  | .eqS neg offs x y => match gx g st.fr x with
    | .agg a => match gx g st.fr y with
      | .agg b => match eqFs offs a b with
        | some q => match neg with
          | true => .ok (.bool (!q))
          | false => .ok (.bool q)
        | none => .fail
      | _ => .fail
    | _ => .fail
  | _ => .fail

/-- What an evaluation says: where its side condition holds, its value. -/
def PR.holds (r : PR) (Q : SV → Prop) : Prop :=
  match r with
  | .fail => False
  | .ok v => Q v
  | .side p v => p ∧ Q v
end Go.Eng
