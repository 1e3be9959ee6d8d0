/- The engine, part 3: constants, operands, and the operations that only compute or read. -/
import Derived.Test.YtcckdpimimkejaaEngB
namespace Go.Eng
open Go Go.RowKit

/-! ### Constants -/
inductive CV where
  | int (k : IntKind) (n : Int)
  | bool (b : Bool)
  | str (s : List UInt8)
  | nilptr
  | nilmap
  | nilfn
  | nilsl
  | fn (f : Nat)
  | unit
  | nil
  | cons (h t : CV)
  | agg (l : CV)
  deriving Repr

def CV.sv : CV → SV
  | .int k n => .int k n
  | .bool b => .bool b
  | .str s => .str s
  | .nilptr => .val (.pointer none)
  | .nilmap => .val (.map none)
  | .nilfn => .val .nilFunc
  | .nilsl => .nilsl
  | .fn f => .fn f .nil
  | .unit => .val (.tuple #[])
  | .nil => .nil
  | .cons h t => .cons h.sv t.sv
  | .agg l => .agg l.sv

/-- A value of one cell, as a constant. -/
def cv1 : Value → Option CV
  | .int k n => some (.int k n)
  | .bool b => some (.bool b)
  | .string s => some (.str s.data.toList)
  | .pointer none => some .nilptr
  | .map none => some .nilmap
  | .nilFunc => some .nilfn
  | .slice none n c => if n = 0 ∧ c = 0 then some .nilsl else none
  | _ => none
def cvL : List Value → Option CV
  | [] => some .nil
  | v :: r => do let h ← cv1 v; let t ← cvL r; some (.cons h t)
def cvOf : Value → Option CV
  | .agg cs => do let l ← cvL cs.toList; some (.agg l)
  | v => cv1 v

theorem R_cv1 {E : Env} {v : Value} {c : CV} (h : cv1 v = some c) : R E c.sv [v] := by
  unfold cv1 at h
  split at h
  all_goals first
    | (cases h; simp [CV.sv, R]; done)
    | (split at h
       · rename_i hh; obtain ⟨rfl, rfl⟩ := hh; cases h; simp [CV.sv, R]
       · cases h)
    | (cases h; done)
theorem R_cvL {E : Env} : ∀ {vs : List Value} {c : CV}, cvL vs = some c → R E c.sv vs := by
  intro vs
  induction vs with
  | nil => intro c h; simp [cvL] at h; subst h; simp [CV.sv, R]
  | cons v r ih =>
    intro c h
    simp only [cvL, Option.bind_eq_bind, Option.bind_eq_some_iff] at h
    obtain ⟨x, h1, y, h2, h3⟩ := h
    cases h3
    simp only [CV.sv, R]
    exact ⟨v, r, rfl, R_cv1 h1, ih h2⟩
theorem R_cvOf {E : Env} {v : Value} {c : CV} (h : cvOf v = some c) : R E c.sv [v] := by
  unfold cvOf at h
  split at h
  · rename_i cs
    simp only [Option.bind_eq_bind, Option.bind_eq_some_iff] at h
    obtain ⟨x, h1, h2⟩ := h
    cases h2
    simp only [CV.sv, R]
    exact ⟨cs.toList, by simp, R_cvL h1⟩
  · exact R_cv1 h

/-! ### Operands -/
inductive SX where
  | s (n : Nat)
  | c (v : CV)
  deriving Repr

def cX : Operand → Option SX
  | .tmp t => some (.s t)
  | .const v => (cvOf v).map .c
  | .func f => bif Nat.blt f FM then some (.c (.fn f)) else none
  | .global _ => none
def cXs : List Operand → Option (List SX)
  | [] => some []
  | x :: r => do let h ← cX x; let t ← cXs r; some (h :: t)

/-- Is the label of a slot that of the operation's own guard? -/
def labEq : Option (Nat × Bool) → Nat → Bool → Bool
  | none, _, _ => false
  | some (d, true), d', true => Nat.beq d d'
  | some (d, false), d', false => Nat.beq d d'
  | some _, _, _ => false

def unlab (g : Option (Nat × Bool)) : SV → SV
  | .gd d w v => bif labEq g d w then v else .junk
  | v => v

def gx (g : Option (Nat × Bool)) (fr : List (Nat × SV)) : SX → SV
  | .s n => unlab g (look fr n)
  | .c v => v.sv
def gxs (g : Option (Nat × Bool)) (fr : List (Nat × SV)) : List SX → SV
  | [] => .nil
  | x :: r => .cons (gx g fr x) (gxs g fr r)

/-- The guard holds. -/
def GOk (g : Option (Nat × Bool)) (t : Array Value) : Prop := ∀ d w, g = some (d, w) → t.getD d undef = .bool w

theorem nbeq {a b : Nat} (h : Nat.beq a b = true) : a = b := Nat.eq_of_beq_eq_true h

theorem labEq_ok {g : Option (Nat × Bool)} {d : Nat} {w : Bool} (h : labEq g d w = true) : g = some (d, w) := by
  unfold labEq at h
  split at h
  · cases h
  · rw [nbeq h]
  · rw [nbeq h]
  · cases h

theorem R_unlab {E : Env} {t : Array Value} {g : Option (Nat × Bool)} {s : SV} {v : Value} (hg : GOk g t) (h : SlotR E t s v) : R E (unlab g s) [v] := by
  cases s with
  | gd d w x =>
    simp only [unlab]
    cases hb : labEq g d w with
    | false => exact ⟨v, rfl⟩
    | true => exact h.1 (hg d w (labEq_ok hb))
  | _ => exact h

theorem R_gx {E : Env} {a : Act} {fr : List (Nat × SV)} {g : Option (Nat × Bool)} (hg : GOk g a.tmps) (hf : ∀ s, SlotR E a.tmps (look fr s) (a.tmps.getD s undef))
    {o : Operand} {x : SX} (hx : cX o = some x) : R E (gx g fr x) [a.eval o] := by
  cases o with
  | tmp t => simp only [cX] at hx; cases hx; exact R_unlab hg (hf t)
  | const v =>
    simp only [cX, Option.map_eq_some_iff] at hx
    obtain ⟨c, h1, rfl⟩ := hx
    exact R_cvOf h1
  | func f =>
    simp only [cX] at hx
    cases hf : Nat.blt f FM with
    | false => simp [hf] at hx
    | true =>
      simp only [hf, cond_true, Option.some.injEq] at hx
      subst hx
      simp [gx, CV.sv, R, Act.eval, fnV, hf]
  | global n => cases hx

theorem R_gxs {E : Env} {a : Act} {fr : List (Nat × SV)} {g : Option (Nat × Bool)} (hg : GOk g a.tmps) (hf : ∀ s, SlotR E a.tmps (look fr s) (a.tmps.getD s undef)) :
    ∀ {os : List Operand} {xs : List SX}, cXs os = some xs → R E (gxs g fr xs) (os.map a.eval) := by
  intro os
  induction os with
  | nil => intro xs h; simp [cXs] at h; subst h; simp [gxs, R]
  | cons o r ih =>
    intro xs h
    simp only [cXs, Option.bind_eq_bind, Option.bind_eq_some_iff] at h
    obtain ⟨x, h1, y, h2, h3⟩ := h
    cases h3
    simp only [gxs, R, List.map_cons]
    exact ⟨_, _, rfl, R_gx hg hf h1, ih h2⟩

/-! ### Lists of cells -/
def takeL : Nat → SV → Option SV
  | 0, _ => some .nil
  | n + 1, .cons h t => match takeL n t with
    | some r => some (.cons h r)
    | none => none
  | _ + 1, _ => none
def dropL : Nat → SV → SV
  | 0, l => l
  | n + 1, .cons _ t => dropL n t
  | _ + 1, _ => .nil
def headL : SV → Option SV
  | .cons h _ => some h
  | _ => none

theorem R_single {E : Env} {s : SV} {vs : List Value} (h : R E s vs) (h1 : s ≠ .nil) (h2 : ∀ x t, s ≠ .cons x t) : ∃ v, vs = [v] := by
  cases s with
  | nil => exact absurd rfl h1
  | cons x t => exact absurd rfl (h2 x t)
  | junk => exact h
  | gd => exact h
  | own => simp only [R] at h; obtain ⟨_, _, _, rfl⟩ := h; exact ⟨_, rfl⟩
  | osl => simp only [R] at h; rcases h with ⟨_, _, _, rfl⟩ | ⟨_, _, _, _, rfl, _⟩ <;> exact ⟨_, rfl⟩
  | lsl => simp only [R] at h; rcases h with ⟨_, _, rfl⟩ | ⟨_, _, _, _, rfl, _⟩ <;> exact ⟨_, rfl⟩
  | oel => simp only [R] at h; obtain ⟨_, _, _, rfl⟩ := h; exact ⟨_, rfl⟩
  | mref => simp only [R] at h; obtain ⟨_, _, _, rfl⟩ := h; exact ⟨_, rfl⟩
  | fown => simp only [R] at h; obtain ⟨_, _, _, rfl⟩ := h; exact ⟨_, rfl⟩
  | fmref => simp only [R] at h; obtain ⟨_, _, _, rfl⟩ := h; exact ⟨_, rfl⟩
  | yield => simp only [R] at h; obtain ⟨_, _, _, rfl⟩ := h; exact ⟨_, rfl⟩
  | slice => simp only [R] at h; obtain ⟨_, _, rfl, _⟩ := h; exact ⟨_, rfl⟩
  | slit => simp only [R] at h; obtain ⟨_, rfl, _⟩ := h; exact ⟨_, rfl⟩
  | cptr => simp only [R] at h; obtain ⟨_, _, _, rfl, _⟩ := h; exact ⟨_, rfl⟩
  | agg => simp only [R] at h; obtain ⟨_, rfl, _⟩ := h; exact ⟨_, rfl⟩
  | tup => simp only [R] at h; obtain ⟨_, rfl, _⟩ := h; exact ⟨_, rfl⟩
  | fn => simp only [R] at h; obtain ⟨_, rfl, _⟩ := h; exact ⟨_, rfl⟩
  | _ => simp only [R] at h; exact ⟨_, h⟩

theorem R_dropL {E : Env} : ∀ {n : Nat} {l : SV} {cs : List Value}, R E l cs → R E (dropL n l) (cs.drop n) := by
  intro n
  induction n with
  | zero => intro l cs h; simpa [dropL] using h
  | succ n ih =>
    intro l cs h
    cases l with
    | cons x t =>
      simp only [R] at h
      obtain ⟨y, ys, rfl, _, h2⟩ := h
      simp only [dropL, List.drop_succ_cons]
      exact ih h2
    | nil => simp only [R] at h; subst h; simp [dropL, R]
    | _ =>
      obtain ⟨v, rfl⟩ := R_single h (by simp) (by simp)
      simp [dropL, R]

theorem R_takeL {E : Env} : ∀ {n : Nat} {l l' : SV} {cs : List Value}, takeL n l = some l' → R E l cs → R E l' (cs.take n) ∧ n ≤ cs.length := by
  intro n
  induction n with
  | zero => intro l l' cs h hr; simp [takeL] at h; subst h; simp [R]
  | succ n ih =>
    intro l l' cs h hr
    cases l with
    | cons x t =>
      simp only [takeL] at h
      split at h
      · rename_i r hr'
        cases h
        simp only [R] at hr
        obtain ⟨y, ys, rfl, h1, h2⟩ := hr
        obtain ⟨k1, k2⟩ := ih hr' h2
        simp only [R, List.take_succ_cons, List.length_cons]
        exact ⟨⟨y, _, rfl, h1, k1⟩, by omega⟩
      · cases h
    | _ => simp [takeL] at h

theorem R_headL {E : Env} {l x : SV} {cs : List Value} (h : headL l = some x) (hr : R E l cs) : ∃ v r, cs = v :: r ∧ R E x [v] := by
  cases l with
  | cons y t =>
    simp only [headL] at h; cases h
    simp only [R] at hr
    obtain ⟨v, r, rfl, h1, _⟩ := hr
    exact ⟨v, r, rfl, h1⟩
  | _ => simp [headL] at h

/-! ### Numbers -/
def InR : IntKind → Int → Prop
  | .i64, n => -9223372036854775808 ≤ n ∧ n ≤ 9223372036854775807
  | .i32, n => -2147483648 ≤ n ∧ n ≤ 2147483647
  | .i16, n => -32768 ≤ n ∧ n ≤ 32767
  | .i8, n => -128 ≤ n ∧ n ≤ 127
  | .u64, n => 0 ≤ n ∧ n ≤ 18446744073709551615
  | .u32, n => 0 ≤ n ∧ n ≤ 4294967295
  | .u16, n => 0 ≤ n ∧ n ≤ 65535
  | .u8, n => 0 ≤ n ∧ n ≤ 255

theorem InR.wrap {k : IntKind} {n : Int} (h : InR k n) : k.wrap n = n := by
  cases k <;> simp only [InR] at h <;> simp [IntKind.wrap, IntKind.bits, IntKind.signed] <;> omega

/-! ### The program's types -/
def aggB : TypeDesc → Bool
  | .struct _ | .array _ _ => true
  | _ => false

section
variable {P : Program} (w : World)
theorem run_typeInfo_e {t : TypeId} {i : TypeInfo} (h : P.info? t = some i) : (typeInfo t).run P w = .ok i w := by simp [typeInfo, h]
theorem run_sizeOf_e {t : TypeId} {i : TypeInfo} (h : P.info? t = some i) : (sizeOf t).run P w = .ok i.size w := by simp [sizeOf, run_typeInfo_e w h]
theorem run_underlying_e {t : TypeId} {d : TypeDesc} (h : P.underlying t = some d) : (underlying t).run P w = .ok d w := by simp [underlying, h]
theorem run_isAgg_e {t : TypeId} {d : TypeDesc} (h : P.underlying t = some d) : (isAgg t).run P w = .ok (aggB d) w := by
  unfold isAgg
  simp only [Sem.run_bind, run_underlying_e w h, Result.andThen_ok]
  cases d <;> simp [aggB]
theorem run_zeroValue_e {t : TypeId} {i : TypeInfo} {z : Value} (h : P.info? t = some i) (hz : i.zero = some z) : (zeroValue t).run P w = .ok z w := by
  unfold zeroValue
  simp [run_typeInfo_e w h, hz]
end

theorem Addr.add_none (b off n : Nat) : (⟨b, off, none⟩ : Addr).add n = ⟨b, off + n, none⟩ := by
  unfold Addr.add
  split
  · rename_i h; subst h; rfl
  · rfl

/-- A variable of n cells is read. -/
theorem run_loadVar_cells {P : Program} {w : World} {t : TypeId} {i : TypeInfo} {d : TypeDesc} {b off : Nat} {cs : List Value} (hi : P.info? t = some i) (hd : P.underlying t = some d)
    (hc : Holds w b off cs) (hl : cs.length = i.size) (hs : aggB d = false → i.size = 1) :
    (loadVar t ⟨b, off, none⟩).run P w = .ok (if aggB d then .agg cs.toArray else (cs[0]?).getD undef) w := by
  unfold loadVar
  simp only [Sem.run_bind, run_isAgg_e w hd, Result.andThen_ok]
  cases ha : aggB d with
  | true =>
    simp only [if_true, Sem.run_bind, run_sizeOf_e w hi, Result.andThen_ok]
    have := run_loadCells_list (P := P) (w := w) (⟨b, off, none⟩ : Addr) cs (fun j v hj => by rw [Addr.add_none]; exact hc j v hj)
    rw [hl] at this
    simp [this]
  | false =>
    have h1 := hs ha
    match cs, hl with
    | [v], _ =>
      have := hc 0 v rfl
      simp only [Nat.add_zero] at this
      simp only [Bool.false_eq_true, if_false]
      unfold Go.load
      simp [Sem.run, this]
    | [], hl => simp at hl; omega
    | _ :: _ :: _, hl => simp at hl; omega
end Go.Eng
