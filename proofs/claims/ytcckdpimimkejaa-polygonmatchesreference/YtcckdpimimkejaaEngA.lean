/- The engine, part 1: symbolic values, what they stand for in a world, and what a step of the world keeps. -/
import Derived.TacticsIn
import Derived.OrdersIn
import Derived.Below
import Derived.Laws.Cells
import Derived.Laws.Slices
import Derived.Laws.Strings
import Derived.Laws.Append
import Derived.Laws.Rows
import Derived.Laws.Small
import Derived.Laws.Concat
import Derived.Laws.Tables
import Derived.Laws.Pointers
import Derived.Lib.Strings
namespace Go.Eng
open Go Go.RowKit

/-- A symbolic value. 'nil', 'cons': a list of cells. -/
inductive SV where
  | junk
  | val (v : Value)
  | int (k : IntKind) (n : Int)
  | bool (b : Bool)
  | str (s : List UInt8)
  | own (id off : Nat)
  | osl (id sz lo len : Nat)
  | lsl (id sz len : Nat)
  | oel (id sz i off : Nat)
  | mref (id : Nat)
  | fown (h i off : Nat)
  | fmref (h i : Nat)
  | nilsl
  | slice (sz len : Nat) (enc : Nat → SV)
  | slit (sz : Nat) (els : SV)
  | cptr (cells : SV)
  | nil
  | cons (h t : SV)
  | agg (l : SV)
  | tup (l : SV)
  | fn (f : Nat) (l : SV)
  | yield (id : Nat)
  | gd (d : Nat) (want : Bool) (v : SV)

/-- What a symbolic value is read against: the blocks (and capacities) of the tracked objects; the blocks that do not change; the world. -/
structure Env where
  μ : Nat → Option (Nat × Nat)
  U : Nat → Prop
  w : World
  H : Nat → Nat → Obj → Prop

/-- No record of a loop. -/
def H0 : Nat → Nat → Obj → Prop := fun _ _ _ => False
/-- No block of deferred calls. -/
def Plain (w : World) (b : Nat) : Prop := ∀ ds, w.heap[b]? ≠ some (Obj.deferred ds)
/-- Where nothing is tracked. -/
abbrev envU (U : Nat → Prop) (w : World) : Env := ⟨fun _ => none, U, w, H0⟩

/-- The numbers of the members of families of tracked objects are those from FB on. -/
def FB : Nat := 1048576
def fid (h i : Nat) : Nat := h + FB * (i + 1)

def Holds (w : World) (b off : Nat) (cs : List Value) : Prop := ∀ j v, cs[j]? = some v → w.cell? ⟨b, off + j, none⟩ = some v

/-- One element of an unchanging slice at place i. -/
def ElemAt (E : Env) (a : Option Addr) (sz i : Nat) (Rx : List Value → Prop) : Prop :=
  ∃ b off cs, a = some ⟨b, off, none⟩ ∧ E.U b ∧ Rx cs ∧ cs.length = sz ∧ Holds E.w b (off + i * sz) cs

/-- The numbers of functions are below FM; FM + f stands for the function f with its first arguments given (a method value). -/
def FM : Nat := 1048576
def fnV (f : Nat) (cs : Array Value) : Value := bif Nat.blt f FM then .func (.func f) #[] cs else .func (.func (f - FM)) cs #[]
theorem fnV_one (f : Nat) (cs : Array Value) : (fnV f cs).oneCell' = true := by
  unfold fnV
  cases Nat.blt f FM <;> rfl

/-- The length of a list of cells. -/
def SV.len : SV → Nat
  | .cons _ t => t.len + 1
  | _ => 0

mutual
/-- R E s vs: the symbolic value s stands for the values vs (one, but for a list of cells). -/
def R (E : Env) : SV → List Value → Prop
  | .junk, vs => ∃ v, vs = [v]
  | .val v, vs => vs = [v]
  | .int k n, vs => vs = [.int k n]
  | .bool b, vs => vs = [.bool b]
  | .str s, vs => vs = [.string ⟨s.toArray⟩]
  | .own id off, vs => ∃ b c, E.μ id = some (b, c) ∧ vs = [.pointer (some ⟨b, off, none⟩)]
  | .osl id sz lo n, vs => (n = 0 ∧ ∃ a cap, vs = [.slice a 0 cap]) ∨ (0 < n ∧ ∃ b c, E.μ id = some (b, c) ∧ vs = [.slice (some ⟨b, lo * sz, none⟩) n (c - lo)] ∧ lo + n ≤ c)
  | .lsl id _ n, vs => (n = 0 ∧ ∃ a, vs = [.slice a 0 0]) ∨ (0 < n ∧ ∃ b c, E.μ id = some (b, c) ∧ vs = [.slice (some ⟨b, 0, none⟩) n c] ∧ n ≤ c)
  | .oel id sz i off, vs => ∃ b c, E.μ id = some (b, c) ∧ vs = [.pointer (some ⟨b, i * sz + off, none⟩)]
  | .mref id, vs => ∃ b c, E.μ id = some (b, c) ∧ vs = [.map (some b)]
  | .fown h i off, vs => ∃ b c, E.μ (fid h i) = some (b, c) ∧ vs = [.pointer (some ⟨b, off, none⟩)]
  | .fmref h i, vs => ∃ b c, E.μ (fid h i) = some (b, c) ∧ vs = [.map (some b)]
  | .nilsl, vs => vs = [.slice none 0 0]
  | .slice sz n enc, vs => ∃ a cap, vs = [.slice a n cap] ∧ n ≤ cap ∧ ∀ i, i < n → ElemAt E a sz i (R E (enc i))
  | .slit sz els, vs => ∃ a, vs = [.slice a els.len els.len] ∧ RE E els a sz 0
  | .cptr cells, vs => ∃ b off cs, vs = [.pointer (some ⟨b, off, none⟩)] ∧ E.U b ∧ R E cells cs ∧ Holds E.w b off cs
  | .nil, vs => vs = []
  | .cons h t, vs => ∃ x xs, vs = x :: xs ∧ R E h [x] ∧ R E t xs
  | .agg l, vs => ∃ cs, vs = [.agg cs.toArray] ∧ R E l cs
  | .tup l, vs => ∃ cs, vs = [.tuple cs.toArray] ∧ R E l cs
  | .fn f l, vs => ∃ cs, vs = [fnV f cs.toArray] ∧ R E l cs
  | .yield id, vs => ∃ b c, E.μ id = some (b, c) ∧ vs = [.func (.yield b) #[] #[]]
  | .gd _ _ _, vs => ∃ v, vs = [v]
/-- The elements of a written-out slice from place i on. -/
def RE (E : Env) : SV → Option Addr → Nat → Nat → Prop
  | .cons h t, a, sz, i => ElemAt E a sz i (R E h) ∧ RE E t a sz (i + 1)
  | _, _, _, _ => True
end

/-- E' keeps what E says of memory that does not change. -/
structure Env.LeU (E E' : Env) : Prop where
  U : ∀ b, E.U b → E'.U b
  heap : ∀ b, E.U b → E'.w.heap[b]? = E.w.heap[b]?

/-- Records of loops stay records of loops; the blocks of deferred calls stay as they are. -/
structure Kd (w w' : World) : Prop where
  size : w.heap.size ≤ w'.heap.size
  loop : ∀ (b : Nat) (r : Loop), w.heap[b]? = some (Obj.loop r) → ∃ r', w'.heap[b]? = some (Obj.loop r')
  dfr : ∀ (b : Nat) (ds : Option (List Deferred)), w.heap[b]? = some (Obj.deferred ds) → w'.heap[b]? = some (Obj.deferred ds)
theorem Kd.refl (w : World) : Kd w w := ⟨Nat.le_refl _, fun _ r h => ⟨r, h⟩, fun _ _ h => h⟩
theorem Kd.trans {a b c : World} (h : Kd a b) (k : Kd b c) : Kd a c :=
  ⟨Nat.le_trans h.size k.size, fun i r e => let ⟨r', e'⟩ := h.loop i r e; k.loop i r' e', fun i ds e => k.dfr i ds (h.dfr i ds e)⟩
theorem Kd.of_heap {w w' : World} (hs : w.heap.size ≤ w'.heap.size) (h : ∀ (b : Nat) (o : Obj), w.heap[b]? = some o → w'.heap[b]? = some o) : Kd w w' := ⟨hs, fun b r e => ⟨r, h b _ e⟩, fun b _ e => h b _ e⟩
/-- Below block B the world w' is as w was; no fewer answers are drawn. -/
structure Below (B : Nat) (w w' : World) : Prop where
  os : w'.os = w.os
  tape : w'.tape = w.tape
  output : w'.output = w.output
  size : w.heap.size ≤ w'.heap.size
  block : ∀ k, k < B → w'.heap[k]? = w.heap[k]?
  drawn : w.drawn ≤ w'.drawn
theorem Below.refl (B : Nat) (w : World) : Below B w w := ⟨rfl, rfl, rfl, Nat.le_refl _, fun _ _ => rfl, Nat.le_refl _⟩
theorem Below.row {B : Nat} {w w' : World} (h : Below B w w') : RowKit.Below B w w' := ⟨h.os, h.tape, h.output, h.size, h.block⟩
theorem Below.of_row {B : Nat} {w w' : World} (h : RowKit.Below B w w') (hd : w.drawn ≤ w'.drawn) : Below B w w' := ⟨h.os, h.tape, h.output, h.size, h.block, hd⟩
theorem Below.trans {B : Nat} {a b c : World} (h : Below B a b) (k : Below B b c) : Below B a c :=
  ⟨k.os.trans h.os, k.tape.trans h.tape, k.output.trans h.output, Nat.le_trans h.size k.size, fun i hi => (k.block i hi).trans (h.block i hi), Nat.le_trans h.drawn k.drawn⟩
theorem Below.drew {B : Nat} {a w : World} (h : Below B a w) : Below B a w.drew := ⟨h.os, h.tape, h.output, h.size, h.block, Nat.le_succ_of_le h.drawn⟩
theorem Below.heap_alloc (w : World) (o : Obj) (k : Nat) (h : k < w.heap.size) : (w.alloc o).heap[k]? = w.heap[k]? := RowKit.Below.heap_alloc w o k h
theorem Below.alloc {B : Nat} {a w : World} (h : Below B a w) (hB : B ≤ w.heap.size) (o : Obj) : Below B a (w.alloc o) := .of_row (h.row.alloc hB o) h.drawn
theorem Kd.of_below {w w' : World} (h : Below w.heap.size w w') : Kd w w' :=
  Kd.of_heap h.size fun b _o e => (h.block b (Array.getElem?_eq_some_iff.1 e).1).trans e

/-- E' keeps what E says. -/
structure Env.LeR (E E' : Env) : Prop extends Env.LeU E E' where
  μ : ∀ id p, E.μ id = some p → E'.μ id = some p
structure Env.Le (E E' : Env) : Prop extends Env.LeR E E' where
  kd : Kd E.w E'.w
  H : ∀ l p o, E.H l p o → E'.H l p o

theorem Env.LeU.refl (E : Env) : E.LeU E := ⟨fun _ h => h, fun _ _ => rfl⟩
theorem Env.LeU.trans {A B C : Env} (h : A.LeU B) (k : B.LeU C) : A.LeU C :=
  ⟨fun b e => k.U b (h.U b e), fun b e => (k.heap b (h.U b e)).trans (h.heap b e)⟩
theorem Env.Le.refl (E : Env) : E.Le E := ⟨⟨Env.LeU.refl E, fun _ _ h => h⟩, Kd.refl _, fun _ _ _ h => h⟩
theorem Env.Le.trans {A B C : Env} (h : A.Le B) (k : B.Le C) : A.Le C :=
  ⟨⟨h.toLeU.trans k.toLeU, fun id p e => k.μ id p (h.μ id p e)⟩, h.kd.trans k.kd, fun l p o e => k.H l p o (h.H l p o e)⟩

theorem Holds.mono {w w' : World} {b off : Nat} {cs : List Value} (h : Holds w b off cs) (hb : w'.heap[b]? = w.heap[b]?) : Holds w' b off cs := by
  intro j v hj
  rw [← h j v hj]
  exact World.cell?_of_block (w := w) (w' := w') (a := ⟨b, off + j, none⟩) hb

theorem ElemAt.mono {E E' : Env} (hE : E.LeU E') {a : Option Addr} {sz i : Nat} {p q : List Value → Prop} (hp : ∀ cs, p cs → q cs) (h : ElemAt E a sz i p) : ElemAt E' a sz i q := by
  obtain ⟨b, off, cs, e, u, r, l, hh⟩ := h
  exact ⟨b, off, cs, e, hE.U b u, hp cs r, l, hh.mono (hE.heap b u)⟩

theorem R_mono_aux {E E' : Env} (hE : E.LeR E') (s : SV) : (∀ vs, R E s vs → R E' s vs) ∧ (∀ a sz i, RE E s a sz i → RE E' s a sz i) := by
  induction s with
  | own id off => refine ⟨?_, fun _ _ _ h => by simp [RE]⟩; rintro vs ⟨b, c, h1, h2⟩; exact ⟨b, c, hE.μ _ _ h1, h2⟩
  | osl id sz lo n => refine ⟨?_, fun _ _ _ h => by simp [RE]⟩; rintro vs (h | ⟨h0, b, c, h1, h2⟩); exact .inl h; exact .inr ⟨h0, b, c, hE.μ _ _ h1, h2⟩
  | lsl id sz n => refine ⟨?_, fun _ _ _ h => by simp [RE]⟩; rintro vs (h | ⟨h0, b, c, h1, h2⟩); exact .inl h; exact .inr ⟨h0, b, c, hE.μ _ _ h1, h2⟩
  | oel id sz i off => refine ⟨?_, fun _ _ _ h => by simp [RE]⟩; rintro vs ⟨b, c, h1, h2⟩; exact ⟨b, c, hE.μ _ _ h1, h2⟩
  | mref id => refine ⟨?_, fun _ _ _ h => by simp [RE]⟩; rintro vs ⟨b, c, h1, h2⟩; exact ⟨b, c, hE.μ _ _ h1, h2⟩
  | fown h i off => refine ⟨?_, fun _ _ _ h => by simp [RE]⟩; rintro vs ⟨b, c, h1, h2⟩; exact ⟨b, c, hE.μ _ _ h1, h2⟩
  | fmref h i => refine ⟨?_, fun _ _ _ h => by simp [RE]⟩; rintro vs ⟨b, c, h1, h2⟩; exact ⟨b, c, hE.μ _ _ h1, h2⟩
  | yield id => refine ⟨?_, fun _ _ _ h => by simp [RE]⟩; rintro vs ⟨b, c, h1, h2⟩; exact ⟨b, c, hE.μ _ _ h1, h2⟩
  | slice sz n enc ih =>
    refine ⟨?_, fun _ _ _ h => by simp [RE]⟩
    intro vs h
    simp only [R] at h ⊢
    obtain ⟨a, cap, h1, h2, h3⟩ := h
    exact ⟨a, cap, h1, h2, fun i hi => (h3 i hi).mono hE.toLeU (ih i).1⟩
  | slit sz els ih =>
    refine ⟨?_, fun _ _ _ h => by simp [RE]⟩
    intro vs h
    simp only [R] at h ⊢
    obtain ⟨a, h1, h2⟩ := h
    exact ⟨a, h1, ih.2 _ _ _ h2⟩
  | cptr cells ih =>
    refine ⟨?_, fun _ _ _ h => by simp [RE]⟩
    intro vs h
    simp only [R] at h ⊢
    obtain ⟨b, off, cs, h1, h2, h3, h4⟩ := h
    exact ⟨b, off, cs, h1, hE.U b h2, ih.1 _ h3, h4.mono (hE.heap b h2)⟩
  | cons h t ihh iht =>
    refine ⟨?_, ?_⟩
    · intro vs h
      simp only [R] at h ⊢
      obtain ⟨x, xs, h1, h2, h3⟩ := h
      exact ⟨x, xs, h1, ihh.1 _ h2, iht.1 _ h3⟩
    · intro a sz i h
      simp only [RE] at h ⊢
      exact ⟨h.1.mono hE.toLeU ihh.1, iht.2 _ _ _ h.2⟩
  | agg l ih =>
    refine ⟨?_, fun _ _ _ h => by simp [RE]⟩
    intro vs h; simp only [R] at h ⊢; obtain ⟨cs, h1, h2⟩ := h; exact ⟨cs, h1, ih.1 _ h2⟩
  | tup l ih =>
    refine ⟨?_, fun _ _ _ h => by simp [RE]⟩
    intro vs h; simp only [R] at h ⊢; obtain ⟨cs, h1, h2⟩ := h; exact ⟨cs, h1, ih.1 _ h2⟩
  | fn f l ih =>
    refine ⟨?_, fun _ _ _ h => by simp [RE]⟩
    intro vs h; simp only [R] at h ⊢; obtain ⟨cs, h1, h2⟩ := h; exact ⟨cs, h1, ih.1 _ h2⟩
  | _ => exact ⟨fun vs h => by simpa only [R] using h, fun _ _ _ h => by simp [RE]⟩

/-- A list's slice, as a part of it. -/
def asOsl : SV → SV
  | .lsl id sz n => .osl id sz 0 n
  | s => s
theorem R_asOsl {E : Env} {s : SV} {vs : List Value} (h : R E s vs) : R E (asOsl s) vs := by
  cases s with
  | lsl id sz n =>
    simp only [asOsl, R] at h ⊢
    rcases h with ⟨rfl, a, h⟩ | ⟨h0, b, c, h1, h2, h3⟩
    · exact .inl ⟨rfl, a, 0, h⟩
    · exact .inr ⟨h0, b, c, h1, by simpa using h2, by omega⟩
  | _ => exact h
theorem R_monoR {E E' : Env} (hE : E.LeR E') {s : SV} {vs : List Value} (h : R E s vs) : R E' s vs := (R_mono_aux hE s).1 vs h
theorem R_mono {E E' : Env} (hE : E.Le E') {s : SV} {vs : List Value} (h : R E s vs) : R E' s vs := R_monoR hE.toLeR h
end Go.Eng
