/- The engine, part 11c: regions that draw their order are what their evaluation says. -/
import Derived.Test.YtcckdpimimkejaaEngX
namespace Go.Eng
open Go Go.RowKit

/-! ### The operations of a region -/
def preOf (o : Oper) : List Nat := (o.after.toList.filter (Region.binds .any)).map (·.on)
def maskOf (acc : List DInfo) : List Nat → Nat
  | [] => 0
  | p :: r => maskOf acc r ||| (1 <<< p) ||| (match acc[p]? with | some y => y.tp | none => 0)
def effX (hint : List Nat) (o : SOper) : Bool :=
  match o.op with
  | .call _ _ => match o.dst with
    | some d => memN hint d
    | none => true
  | op => effS op
def allLtB (n : Nat) : List Nat → Bool
  | [] => true
  | p :: r => bif Nat.blt p n then allLtB n r else false
/-- What an operation reads. -/
def readS (o : SOper) : List Nat := slotsS o.op ++ (match o.guard with | some (d, _) => [d] | none => [])
def ownOk (o : SOper) : Bool := match o.dst with
  | some d => !memN (readS o) d
  | none => true
def mkI (hint : List Nat) : List Oper → List SOper → List DInfo → Option (List DInfo)
  | [], [], acc => some acc
  | o :: r, s :: t, acc => bif allLtB acc.length (preOf o) then bif (effX hint s || s.dst.isSome) && ownOk s then mkI hint r t (acc ++ [⟨s, preOf o, maskOf acc (preOf o), effX hint s⟩]) else none else none
  | _, _, _ => none
def namesS (o : SOper) : List Nat :=
  slotsS o.op ++ (match o.guard with | some (d, _) => [d] | none => []) ++ (match o.dst with | some d => [d] | none => [])
/-- Whoever names slot t stands behind its writer. -/
def wrOk (tp i t : Nat) : List DInfo → Nat → Bool
  | [], _ => true
  | y :: r, j => match y.o.dst with
    | some d => bif Nat.beq d t && !Nat.beq i j && !tp.testBit j then false else wrOk tp i t r (j + 1)
    | none => wrOk tp i t r (j + 1)
def nmOk (I : List DInfo) (tp i : Nat) : List Nat → Bool
  | [] => true
  | t :: r => bif wrOk tp i t I 0 then nmOk I tp i r else false
def slOk (I : List DInfo) : List DInfo → Nat → Bool
  | [], _ => true
  | x :: r, i => bif nmOk I x.tp i (namesS x.o) then slOk I r (i + 1) else false

def cDraw (P : Program) (n : Nat) (hint : List Nat) (ops : List Oper) : Option DTree :=
  bif P.follows .mixedOrders then
    match cOpers P n ops ops with
    | some sl => match mkI hint ops sl [] with
      | some I => bif slOk I I 0 then buildD I (I.length + 1) [] else none
      | none => none
    | none => none
  else none

/-- What holds of the operations. -/
structure DOk (P : Program) (n : Nat) (ops : Array Oper) (I : List DInfo) : Prop where
  len : I.length ≤ ops.size
  op : ∀ (i : Nat) (o : Oper), i < I.length → ops[i]? = some o → ∃ x : DInfo, I[i]? = some x ∧ cOper P n ops.toList o = some x.o ∧ x.pre = preOf o
  lt : ∀ (i : Nat) (x : DInfo), I[i]? = some x → ∀ p ∈ x.pre, p < i
  tp : ∀ (i : Nat) (x : DInfo), I[i]? = some x → ∀ j, x.tp.testBit j = true → j ∈ x.pre ∨ ∃ p ∈ x.pre, ∃ y, I[p]? = some y ∧ y.tp.testBit j = true
  nm : ∀ (i j : Nat) (x y : DInfo) (t : Nat), I[i]? = some x → I[j]? = some y → t ∈ namesS x.o → y.o.dst = some t → i ≠ j → x.tp.testBit j = true
  dst : ∀ (i : Nat) (x : DInfo), I[i]? = some x → x.eff = false → ∃ d, x.o.dst = some d
  own : ∀ (i : Nat) (x : DInfo), I[i]? = some x → ownOk x.o = true

theorem allLtB_mem {n : Nat} : ∀ {l : List Nat}, allLtB n l = true → ∀ p ∈ l, p < n := by
  intro l
  induction l with
  | nil => intro _ p h; cases h
  | cons a r ih =>
    intro h p hp
    simp only [allLtB] at h
    cases hb : Nat.blt a n with
    | false => simp [hb] at h
    | true =>
      simp only [hb, cond_true] at h
      rcases List.mem_cons.1 hp with rfl | hp
      · exact Nat.le_of_ble_eq_true (n := p + 1) hb
      · exact ih h p hp

theorem maskOf_bit {acc : List DInfo} {j : Nat} : ∀ {l : List Nat}, (maskOf acc l).testBit j = true → j ∈ l ∨ ∃ p ∈ l, ∃ y, acc[p]? = some y ∧ y.tp.testBit j = true := by
  intro l
  induction l with
  | nil => intro h; simp [maskOf] at h
  | cons p r ih =>
    intro h
    simp only [maskOf, Nat.testBit_or, Bool.or_eq_true] at h
    rcases h with (h | h) | h
    · rcases ih h with h | ⟨q, h1, h2⟩
      · exact .inl (List.mem_cons_of_mem _ h)
      · exact .inr ⟨q, List.mem_cons_of_mem _ h1, h2⟩
    · left
      rw [Nat.one_shiftLeft, Nat.testBit_two_pow] at h
      have : p = j := by simpa using h
      subst this
      exact List.mem_cons_self ..
    · split at h
      · rename_i y hy
        exact .inr ⟨p, List.mem_cons_self .., y, hy, h⟩
      · simp at h

theorem mkI_ok {P : Program} {n : Nat} {ops : List Oper} {hint : List Nat} : ∀ (l : List Oper) (sl : List SOper) (acc I : List DInfo) (done rest : List Oper), ops = done ++ l ++ rest → cOpers P n ops l = some sl → mkI hint l sl acc = some I → acc.length = done.length →
    (∀ (i : Nat) (x : DInfo), acc[i]? = some x → (∃ o, done[i]? = some o ∧ cOper P n ops o = some x.o ∧ x.pre = preOf o) ∧ (∀ p ∈ x.pre, p < i) ∧ (∀ j, x.tp.testBit j = true → j ∈ x.pre ∨ ∃ p ∈ x.pre, ∃ y, acc[p]? = some y ∧ y.tp.testBit j = true) ∧ (x.eff = false → ∃ d, x.o.dst = some d) ∧ ownOk x.o = true) →
    I.length + rest.length = ops.length ∧ ∀ (i : Nat) (x : DInfo), I[i]? = some x → (∃ o, ops[i]? = some o ∧ cOper P n ops o = some x.o ∧ x.pre = preOf o) ∧ (∀ p ∈ x.pre, p < i) ∧ (∀ j, x.tp.testBit j = true → j ∈ x.pre ∨ ∃ p ∈ x.pre, ∃ y, I[p]? = some y ∧ y.tp.testBit j = true) ∧ (x.eff = false → ∃ d, x.o.dst = some d) ∧ ownOk x.o = true := by
  intro l
  induction l with
  | nil =>
    intro sl acc I done rest ho hc hm hl hacc
    simp only [cOpers, Option.some.injEq] at hc
    subst hc
    simp only [mkI, Option.some.injEq] at hm
    subst hm
    simp only [List.append_nil] at ho
    subst ho
    refine ⟨by simp [hl], fun i x hx => ?_⟩
    obtain ⟨⟨o, e1, e2⟩, e3⟩ := hacc i x hx
    exact ⟨⟨o, by rw [List.getElem?_append_left (List.getElem?_eq_some_iff.1 e1).1]; exact e1, e2⟩, e3⟩
  | cons o r ih =>
    intro sl acc I done rest ho hc hm hl hacc
    simp only [cOpers] at hc
    split at hc
    · rename_i so sr h1 h2
      cases hc
      simp only [mkI] at hm
      cases hb1 : allLtB acc.length (preOf o) with
      | false => simp [hb1] at hm
      | true =>
      cases hb2 : ((effX hint so || so.dst.isSome) && ownOk so) with
      | false => simp [hb1, hb2] at hm
      | true =>
      simp only [hb1, hb2, cond_true] at hm
      simp only [Bool.and_eq_true] at hb2
      refine ih sr _ I (done ++ [o]) rest (by rw [ho]; simp) h2 hm (by simp [hl]) ?_
      intro i x hx
      have grow : ∀ {p : Nat} {y : DInfo}, acc[p]? = some y → (acc ++ [⟨so, preOf o, maskOf acc (preOf o), effX hint so⟩])[p]? = some y := by
        intro p y e
        rw [List.getElem?_append_left (List.getElem?_eq_some_iff.1 e).1]
        exact e
      by_cases hi : i < acc.length
      · rw [List.getElem?_append_left hi] at hx
        obtain ⟨⟨o', e1, e2⟩, e3, e4, e5⟩ := hacc i x hx
        refine ⟨⟨o', ?_, e2⟩, e3, fun j hj => ?_, e5⟩
        · rw [List.getElem?_append_left (by omega)]; exact e1
        · rcases e4 j hj with h | ⟨p, hp, y, hy, hb⟩
          · exact .inl h
          · exact .inr ⟨p, hp, y, grow hy, hb⟩
      · rw [List.getElem?_append_right (by omega)] at hx
        have hi0 : i - acc.length = 0 := by
          have := (List.getElem?_eq_some_iff.1 hx).1
          simp at this
          omega
        rw [hi0] at hx
        simp only [List.getElem?_cons_zero, Option.some.injEq] at hx
        subst hx
        have hil : i = acc.length := by omega
        subst hil
        refine ⟨⟨o, ?_, h1, rfl⟩, allLtB_mem hb1, fun j hj => ?_, fun he => ?_, hb2.2⟩
        · rw [hl, List.getElem?_append_right (Nat.le_refl _)]; simp
        · rcases maskOf_bit hj with h | ⟨p, hp, y, hy, hb⟩
          · exact .inl h
          · exact .inr ⟨p, hp, y, grow hy, hb⟩
        · have he' : effX hint so = false := he
          have h1 := hb2.1
          rw [he'] at h1
          simp only [Bool.false_or] at h1
          exact Option.isSome_iff_exists.1 h1
    · cases hc

theorem wrOk_get {tp i t : Nat} : ∀ {l : List DInfo} {k : Nat}, wrOk tp i t l k = true → ∀ (j : Nat) (y : DInfo), l[j]? = some y → y.o.dst = some t → i ≠ k + j → tp.testBit (k + j) = true := by
  intro l
  induction l with
  | nil => intro k _ j y h; simp at h
  | cons a r ih =>
    intro k h j y hy hd hne
    have key : wrOk tp i t r (k + 1) = true ∧ (a.o.dst = some t → i ≠ k → tp.testBit k = true) := by
      simp only [wrOk] at h
      split at h
      · rename_i d had
        cases hb : (Nat.beq d t && !Nat.beq i k && !tp.testBit k) with
        | true => simp [hb] at h
        | false =>
          simp only [hb, cond_false] at h
          refine ⟨h, fun e hik => ?_⟩
          rw [had] at e
          cases e
          have : Nat.beq i k = false := by
            cases e : Nat.beq i k with
            | false => rfl
            | true => exact absurd (Nat.eq_of_beq_eq_true e) hik
          simp [this, Nat.beq_refl] at hb
          exact hb
      · rename_i had
        exact ⟨h, fun e => by rw [had] at e; cases e⟩
    cases j with
    | zero =>
      simp only [List.getElem?_cons_zero, Option.some.injEq] at hy
      subst hy
      exact key.2 hd hne
    | succ j =>
      rw [show k + (j + 1) = k + 1 + j by omega]
      exact ih key.1 j y (by simpa using hy) hd (by omega)

theorem nmOk_get {I : List DInfo} {tp i : Nat} : ∀ {l : List Nat}, nmOk I tp i l = true → ∀ t ∈ l, wrOk tp i t I 0 = true := by
  intro l
  induction l with
  | nil => intro _ t h; cases h
  | cons a r ih =>
    intro h t ht
    simp only [nmOk] at h
    cases hb : wrOk tp i a I 0 with
    | false => simp [hb] at h
    | true =>
      simp only [hb, cond_true] at h
      rcases List.mem_cons.1 ht with rfl | ht
      · exact hb
      · exact ih h t ht

theorem slOk_get {I : List DInfo} : ∀ {l : List DInfo} {k : Nat}, slOk I l k = true → ∀ (j : Nat) (x : DInfo), l[j]? = some x → nmOk I x.tp (k + j) (namesS x.o) = true := by
  intro l
  induction l with
  | nil => intro k _ j x h; simp at h
  | cons a r ih =>
    intro k h j x hx
    simp only [slOk] at h
    cases hb : nmOk I a.tp k (namesS a.o) with
    | false => simp [hb] at h
    | true =>
      simp only [hb, cond_true] at h
      cases j with
      | zero =>
        simp only [List.getElem?_cons_zero, Option.some.injEq] at hx
        subst hx
        exact hb
      | succ j =>
        rw [show k + (j + 1) = k + 1 + j by omega]
        exact ih h j x (by simpa using hx)

/-- The operations of a region, and what stands behind them all. -/
theorem dok_of {P : Program} {n : Nat} {hint : List Nat} {ops : Array Oper} {l rest : List Oper} {sl : List SOper} {I : List DInfo} (hl : ops.toList = l ++ rest) (hsl : cOpers P n ops.toList l = some sl) (hI : mkI hint l sl [] = some I) (hs : slOk I I 0 = true) :
    DOk P n ops I ∧ I.length = l.length := by
  obtain ⟨h1, h2⟩ := mkI_ok l sl [] I [] rest (by simpa using hl) hsl hI rfl (by intro i x hx; simp at hx)
  have h3 : I.length = l.length := by
    have := congrArg List.length hl
    simp only [List.length_append] at this
    omega
  refine ⟨⟨?_, ?_, fun i x hx => (h2 i x hx).2.1, fun i x hx => (h2 i x hx).2.2.1, ?_, fun i x hx => (h2 i x hx).2.2.2.1, fun i x hx => (h2 i x hx).2.2.2.2⟩, h3⟩
  · have : ops.toList.length = ops.size := by simp
    omega
  · intro i o hlt ho
    obtain ⟨⟨o', e1, e2, e3⟩, _⟩ := h2 i I[i] (List.getElem?_eq_getElem hlt)
    have ho' : ops.toList[i]? = some o := by simpa using ho
    rw [ho'] at e1
    cases e1
    exact ⟨I[i], List.getElem?_eq_getElem hlt, e2, e3⟩
  · intro i j x y t hx hy ht hd hne
    have := wrOk_get (nmOk_get (slOk_get hs i x hx) t ht) j y hy hd (by omega)
    simpa using this

theorem cDraw_ok {P : Program} {n : Nat} {hint : List Nat} {ops : Array Oper} {t : DTree} (h : cDraw P n hint ops.toList = some t) : P.follows .mixedOrders = true ∧ ∃ I, DOk P n ops I ∧ I.length = ops.size ∧ TreeOk I none [] t := by
  unfold cDraw at h
  cases hf : P.follows .mixedOrders with
  | false => simp [hf] at h
  | true =>
  simp only [hf, cond_true] at h
  split at h
  · rename_i sl hsl
    split at h
    · rename_i I hI
      cases hs : slOk I I 0 with
      | false => simp [hs] at h
      | true =>
      simp only [hs, cond_true] at h
      obtain ⟨h1, h2⟩ := dok_of (rest := []) (by simp) hsl hI hs
      exact ⟨rfl, I, h1, by simpa using h2, buildD_ok _ _ _ h⟩
    · cases h
  · cases h

/-- Do all of the first n stand in a mask? -/
def bitsTo (m : Nat) : Nat → Bool
  | 0 => true
  | n + 1 => bif m.testBit n then bitsTo m n else false
theorem bitsTo_get {m : Nat} : ∀ {n : Nat}, bitsTo m n = true → ∀ i, i < n → m.testBit i = true := by
  intro n
  induction n with
  | zero => intro _ i hi; omega
  | succ n ih =>
    intro h i hi
    simp only [bitsTo] at h
    cases hb : m.testBit n with
    | false => simp [hb] at h
    | true =>
      simp only [hb, cond_true] at h
      by_cases e : i = n
      · rw [e]; exact hb
      · exact ih h i (by omega)

def initL {α : Type} : List α → List α
  | [] => []
  | [_] => []
  | a :: b :: r => a :: initL (b :: r)
def lastL {α : Type} : List α → Option α
  | [] => none
  | [a] => some a
  | _ :: b :: r => lastL (b :: r)
theorem init_last {α : Type} : ∀ {l : List α} {a : α}, lastL l = some a → l = initL l ++ [a] := by
  intro l
  induction l with
  | nil => intro a h; cases h
  | cons x r ih =>
    intro a h
    cases r with
    | nil => simp only [lastL, Option.some.injEq] at h; subst h; rfl
    | cons y r => simp only [lastL] at h; simp only [initL, List.cons_append]; rw [← ih h]

/-- A region whose last operation stands behind all others. -/
def cDrawL (P : Program) (n : Nat) (hint : List Nat) (ops : List Oper) : Option (DTree × SOper) :=
  bif P.follows .mixedOrders then
    match lastL ops with
    | some o => match cOpers P n ops (initL ops), cOper P n ops o with
      | some sl, some so => match mkI hint (initL ops) sl [] with
        | some I => bif slOk I I 0 && allLtB I.length (preOf o) && bitsTo (maskOf I (preOf o)) I.length then
            match buildD I (I.length + 1) [] with
            | some t => some (t, so)
            | none => none
          else none
        | none => none
      | _, _ => none
    | none => none
  else none

theorem cDrawL_ok {P : Program} {n : Nat} {hint : List Nat} {ops : Array Oper} {t : DTree} {so : SOper} (h : cDrawL P n hint ops.toList = some (t, so)) :
    P.follows .mixedOrders = true ∧ ∃ I o, DOk P n ops I ∧ I.length + 1 = ops.size ∧ TreeOk I none [] t ∧ ops[I.length]? = some o ∧ cOpers P n ops.toList [o] = some [so] ∧ (∀ p ∈ preOf o, p < I.length) ∧ ∀ i, i < I.length → (maskOf I (preOf o)).testBit i = true := by
  unfold cDrawL at h
  cases hf : P.follows .mixedOrders with
  | false => simp [hf] at h
  | true =>
  simp only [hf, cond_true] at h
  split at h
  · rename_i o ho
    split at h
    · rename_i sl so' hsl hso
      split at h
      · rename_i I hI
        cases hs : (slOk I I 0 && allLtB I.length (preOf o) && bitsTo (maskOf I (preOf o)) I.length) with
        | false => simp [hs] at h
        | true =>
        simp only [hs, cond_true] at h
        simp only [Bool.and_eq_true] at hs
        obtain ⟨⟨hs1, hs2⟩, hs3⟩ := hs
        split at h
        · rename_i t' ht
          simp only [Option.some.injEq, Prod.mk.injEq] at h
          obtain ⟨rfl, rfl⟩ := h
          have hl := init_last ho
          obtain ⟨h1, h2⟩ := dok_of (rest := [o]) hl hsl hI hs1
          have hsz : ops.size = (initL ops.toList).length + 1 := by
            have := congrArg List.length hl
            simpa using this
          refine ⟨rfl, I, o, h1, by omega, buildD_ok _ _ _ ht, ?_, by simp only [cOpers, hso], allLtB_mem hs2, bitsTo_get hs3⟩
          have : ops.toList[I.length]? = some o := by rw [hl, h2, List.getElem?_append_right (Nat.le_refl _)]; simp
          simpa using this
        · cases h
      · cases h
    · cases h
  · cases h
end Go.Eng
