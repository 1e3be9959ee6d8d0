/- The engine, part 11b: regions that draw their order: what is evaluated. -/
import Derived.Test.YtcckdpimimkejaaEngL
namespace Go.Eng
open Go Go.RowKit

/-! ### Which slots an operation looks at -/
def xS : SX → List Nat
  | .s n => [n]
  | .c _ => []
def xsS : List SX → List Nat
  | [] => []
  | x :: r => xS x ++ xsS r
def oxS : Option SX → List Nat
  | none => []
  | some x => xS x
def partsS : List (Nat × Nat × SX) → List Nat
  | [] => []
  | (_, _, x) :: r => xS x ++ partsS r
def slotsS : SOp → List Nat
  | .move x => xS x
  | .pick c a b => xS c ++ xS a ++ xS b
  | .load _ _ x => xS x
  | .fldA _ x => xS x
  | .idxArr _ _ x i => xS x ++ xS i
  | .idxSl _ x i => xS x ++ xS i
  | .idxStr x i => xS x ++ xS i
  | .field _ _ _ x => xS x
  | .nilCheck x => xS x
  | .lenStr x => xS x
  | .lenSl x => xS x
  | .bin _ x y => xS x ++ xS y
  | .ptrEq _ x y => xS x ++ xS y
  | .eqB _ x y => xS x ++ xS y
  | .not x => xS x
  | .neg x => xS x
  | .cnv _ x => xS x
  | .convS x => xS x
  | .mm _ x y => xS x ++ xS y
  | .extract _ x => xS x
  | .mkfn _ caps => xsS caps
  | .build _ ps => partsS ps
  | .buildSl _ _ _ _ ps => partsS ps
  | .sliceSl _ x lo hi => xS x ++ oxS lo ++ oxS hi
  | .sliceStr x lo hi => xS x ++ oxS lo ++ oxS hi
  | .call f args => xS f ++ xsS args
  | .alloc _ _ => []
  | .clr _ x => xS x
  | .box _ x => xS x
  | .store _ x v => xS x ++ xS v
  | .mapEq _ x y => xS x ++ xS y
  | .eqS _ _ x y => xS x ++ xS y
  | .app _ _ _ x y => xS x ++ xS y
  | .mkmap _ => []
  | .mlook _ _ _ m k => xS m ++ xS k
  | .mupd _ m k v => xS m ++ xS k ++ xS v
  | .ment _ _ m k => xS m ++ xS k
  | .mesto m t v => xS m ++ xS t ++ xS v
  | .mdele _ m k => xS m ++ xS k
  | .mlen m => xS m
  | .mrange m => xS m
  | .mnext it => xS it
  | .mentry it => xS it

def Agree (l : List Nat) (fr fr' : List (Nat × SV)) : Prop := ∀ t ∈ l, look fr t = look fr' t

section
variable {fr fr' : List (Nat × SV)} {g : Option (Nat × Bool)}
theorem gx_agree {x : SX} (h : Agree (xS x) fr fr') : gx g fr x = gx g fr' x := by
  cases x with
  | s n => simp only [gx]; rw [h n (by simp [xS])]
  | c v => rfl
theorem gxs_agree : ∀ {xs : List SX}, Agree (xsS xs) fr fr' → gxs g fr xs = gxs g fr' xs := by
  intro xs
  induction xs with
  | nil => intro _; rfl
  | cons x r ih =>
    intro h
    simp only [gxs]
    rw [gx_agree (fun t ht => h t (by simp [xsS, ht])), ih (fun t ht => h t (by simp [xsS, ht]))]
theorem ox_agree {x : Option SX} (h : Agree (oxS x) fr fr') : ox g fr x = ox g fr' x := by
  cases x with
  | none => rfl
  | some x => simp only [ox]; rw [gx_agree h]
theorem fillL_agree : ∀ {ps : List (Nat × Nat × SX)} {l : SV}, Agree (partsS ps) fr fr' → fillL g fr ps l = fillL g fr' ps l := by
  intro ps
  induction ps with
  | nil => intro l _; rfl
  | cons p r ih =>
    obtain ⟨a, b, x⟩ := p
    intro l h
    simp only [fillL]
    rw [gx_agree (x := x) (fun t ht => h t (by simp [partsS, ht]))]
    have : ∀ l, fillL g fr r l = fillL g fr' r l := fun l => ih (fun t ht => h t (by simp [partsS, ht]))
    simp only [this]
theorem pickArm_agree {c x : SX} {want : Bool} (h : Agree (xS x) fr fr') : pickArm g fr c want x = pickArm g fr' c want x := by
  cases x with
  | s n => simp only [pickArm]; rw [h n (by simp [xS])]
  | c v => rfl
theorem Agree.l {a b : List Nat} (h : Agree (a ++ b) fr fr') : Agree a fr fr' := fun t ht => h t (by simp [ht])
theorem Agree.r {a b : List Nat} (h : Agree (a ++ b) fr fr') : Agree b fr fr' := fun t ht => h t (by simp [ht])

theorem evP_agree {tab : List (Nat × FSpec)} {hp : List (Nat × HObj)} {nx nx' : Nat} {so : SOp} (h : Agree (slotsS so) fr fr') : evP tab g ⟨fr, hp, nx⟩ so = evP tab g ⟨fr', hp, nx'⟩ so := by
  cases so <;> (try simp only [slotsS] at h) <;> (try simp only [evP]) <;> first
    | rfl
    | rw [gx_agree h]
    | rw [gx_agree h.l, gx_agree h.r]
    | rw [gx_agree h.l, gxs_agree h.r]
    | rw [gx_agree h.l]
    | rw [gxs_agree h]
    | rw [fillL_agree h]
    | rw [gx_agree h.l.l, ox_agree h.l.r, ox_agree h.r]
    | (unfold evPick; rw [gx_agree h.l.l, pickArm_agree h.l.r, pickArm_agree h.r])

theorem evE_agree {T : Tb} {hp : List (Nat × HObj)} {nx : Nat} {so : SOp} {K : SV → List (Nat × HObj) → Nat → Prop} (h : Agree (slotsS so) fr fr') (he : evE T g ⟨fr, hp, nx⟩ (fun s st => K s st.hp st.nx) so) :
    evE T g ⟨fr', hp, nx⟩ (fun s st => K s st.hp st.nx) so := by
  cases so <;> (try simp only [slotsS] at h) <;> (try simp only [evE, evMK] at he ⊢) <;> first
    | exact he
    | (rw [gx_agree h] at he; exact he)
    | (rw [fillL_agree h] at he; exact he)
    | (rw [gx_agree h.l, gx_agree h.r] at he; exact he)
    | (rw [gx_agree h.l.l, gx_agree h.l.r, gx_agree h.r] at he; exact he)
    | (simp only [evApp] at he ⊢; rw [gx_agree h.l, gx_agree h.r] at he; exact he)
    | (rw [gx_agree h.l, gxs_agree h.r] at he; simp only [evCallM] at he ⊢; exact he)
end

def forceSV (s : SV) (k : SV → Prop) : Prop :=
  forceS s fun s => match s with
  | .gd _ _ _ => False
  | s => k s


/-! ### Regions that draw their order -/
/-- An operation of such a region: what it is; what it stands right behind; what it stands behind at all; does it make or write memory? -/
structure DInfo where
  o : SOper
  pre : List Nat
  tp : Nat
  eff : Bool

/-- The orders that make a difference. -/
inductive DTree where
  | done
  | none
  | pure (i : Nat) (o : SOper) (rest : DTree)
  | eff (i : Nat) (o : SOper) (stab : List SOper) (sub alt : DTree)
  deriving Repr

def readsS : SOp → Bool
  | .load .. => true
  | .call .. => true
  | _ => false

def stabP (tab : List (Nat × FSpec)) (fr : List (Nat × SV)) (hp : List (Nat × HObj)) (nx : Nat) (hp' : List (Nat × HObj)) (nx' : Nat) : List SOper → Prop
  | [] => True
  | o :: r => evP tab o.guard ⟨fr, hp', nx'⟩ o.op = evP tab o.guard ⟨fr, hp, nx⟩ o.op ∧ stabP tab fr hp nx hp' nx' r

def setX (d : Option Nat) (s : SV) (fr : List (Nat × SV)) (k : List (Nat × SV) → Prop) : Prop :=
  match d with
  | none => k fr
  | some d => forceSV s fun s => k ((d, s) :: fr)

def evD (T : Tb) : DTree → List (Nat × SV) → List (Nat × HObj) → Nat → (St → Prop) → Prop
  | .done, fr, hp, nx, k => k ⟨fr, hp, nx⟩
  | .none, _, _, _, _ => True
  | .pure _ o rest, fr, hp, nx, k => match o.dst with
    | none => False
    | some d => match o.guard with
      | none => match evP T.fs none ⟨fr, hp, nx⟩ o.op with
        | .fail => False
        | .ok v => forceSV v fun v => evD T rest ((d, v) :: fr) hp nx k
        | .side p v => p ∧ forceSV v fun v => evD T rest ((d, v) :: fr) hp nx k
      | some (d0, w) => match evP T.fs (some (d0, w)) ⟨fr, hp, nx⟩ o.op with
        | .fail => (guardP fr 10 d0 w → False) ∧ evD T rest ((d, .gd d0 w .junk) :: fr) hp nx k
        | .ok v => forceS v fun v => evD T rest ((d, .gd d0 w v) :: fr) hp nx k
        | .side p v => (guardP fr 10 d0 w → p) ∧ forceS v fun v => evD T rest ((d, .gd d0 w v) :: fr) hp nx k
  | .eff _ o stab sub alt, fr, hp, nx, k =>
    (match o.guard with
      | none => evE T none ⟨fr, hp, nx⟩ (fun s st' => stK st' fun hp' nx' => stabP T.fs fr hp nx hp' nx' stab ∧ setX o.dst s fr fun fr' => evD T sub fr' hp' nx' k) o.op
      | some (d0, w) => guardK fr 10 d0 w (evE T (some (d0, w)) ⟨fr, hp, nx⟩ (fun s st' => stK st' fun hp' nx' => stabP T.fs fr hp nx hp' nx' stab ∧ setX o.dst s fr fun fr' => evD T sub fr' hp' nx' k) o.op)
          (setX o.dst (.tup .nil) fr fun fr' => evD T sub fr' hp nx k)) ∧
    evD T alt fr hp nx k

/-! ### The orders, found -/
def allIn (S : List Nat) : List Nat → Bool
  | [] => true
  | p :: r => bif memN S p then allIn S r else false
theorem allIn_iff {S : List Nat} : ∀ {l : List Nat}, allIn S l = true ↔ ∀ p ∈ l, p ∈ S := by
  intro l
  induction l with
  | nil => simp [allIn]
  | cons a r ih =>
    simp only [allIn]
    cases h : memN S a with
    | true => simp [ih, memN_iff.1 h]
    | false =>
      simp only [cond_false, Bool.false_eq_true, List.mem_cons, forall_eq_or_imp, false_iff, not_and]
      intro ha
      rw [memN_iff.2 ha] at h
      cases h

def getI (l : List DInfo) (i : Nat) : Option DInfo := l[i]?

/-- The first operation that only computes or reads, and may run. -/
def nextP (I : List DInfo) (S : List Nat) : List DInfo → Nat → Option (Nat × DInfo)
  | [], _ => none
  | x :: r, i => bif !x.eff && !memN S i && allIn S x.pre then some (i, x) else nextP I S r (i + 1)
/-- Those that make or write, and may run. -/
def nextE (S : List Nat) : List DInfo → Nat → List (Nat × DInfo)
  | [], _ => []
  | x :: r, i => bif x.eff && !memN S i && allIn S x.pre then (i, x) :: nextE S r (i + 1) else nextE S r (i + 1)
def stabL (I : List DInfo) (tp : Nat) : List Nat → List SOper
  | [] => []
  | j :: r => match I[j]? with
    | some y => bif !y.eff && readsS y.o.op && !tp.testBit j then y.o :: stabL I tp r else stabL I tp r
    | none => stabL I tp r

def chainD (f : List Nat → Option DTree) (I : List DInfo) (S : List Nat) : List (Nat × DInfo) → Option DTree
  | [] => some .none
  | (e, x) :: r => match f (e :: S) with
    | some sub => match chainD f I S r with
      | some alt => some (.eff e x.o (stabL I x.tp S) sub alt)
      | none => none
    | none => none

def upL : Nat → List Nat
  | 0 => []
  | n + 1 => n :: upL n

def buildD (I : List DInfo) : Nat → List Nat → Option DTree
  | 0, _ => none
  | f + 1, S => bif allIn S (upL I.length) then some .done else
    match nextP I S I 0 with
    | some (i, x) => match buildD I f (i :: S) with
      | some t => some (.pure i x.o t)
      | none => none
    | none => chainD (buildD I f) I S (nextE S I 0)

/-! ### What is asked of a tree -/
def Closed (I : List DInfo) (S : List Nat) : Prop := ∀ i x, I[i]? = some x → x.eff = false → (∀ p ∈ x.pre, p ∈ S) → i ∈ S

/-- ch: the operations that are provided for already. -/
def TreeOk (I : List DInfo) : Option (List Nat) → List Nat → DTree → Prop
  | none, S, .done => ∀ i, i < I.length → i ∈ S
  | none, S, .pure i o rest => (∃ x, I[i]? = some x ∧ x.o = o ∧ x.eff = false ∧ i ∉ S ∧ ∀ p ∈ x.pre, p ∈ S) ∧ TreeOk I none (i :: S) rest
  | none, S, .eff e o st sub alt => Closed I S ∧ (∃ i, i < I.length ∧ i ∉ S) ∧
      (∃ x, I[e]? = some x ∧ x.o = o ∧ x.eff = true ∧ e ∉ S ∧ (∀ p ∈ x.pre, p ∈ S) ∧ ∀ j ∈ S, ∀ y, I[j]? = some y → y.eff = false → readsS y.o.op = true → x.tp.testBit j = false → y.o ∈ st) ∧ TreeOk I none (e :: S) sub ∧ TreeOk I (some [e]) S alt
  | none, S, .none => Closed I S ∧ (∃ i, i < I.length ∧ i ∉ S) ∧ ∀ e x, I[e]? = some x → x.eff = true → e ∉ S → (∀ p ∈ x.pre, p ∈ S) → False
  | some es, S, .eff e o st sub alt =>
      (∃ x, I[e]? = some x ∧ x.o = o ∧ x.eff = true ∧ e ∉ S ∧ (∀ p ∈ x.pre, p ∈ S) ∧ ∀ j ∈ S, ∀ y, I[j]? = some y → y.eff = false → readsS y.o.op = true → x.tp.testBit j = false → y.o ∈ st) ∧ TreeOk I none (e :: S) sub ∧ TreeOk I (some (e :: es)) S alt
  | some es, S, .none => ∀ e x, I[e]? = some x → x.eff = true → e ∉ S → (∀ p ∈ x.pre, p ∈ S) → e ∈ es
  | some _, _, _ => False

theorem stabL_mem {I : List DInfo} {tp : Nat} : ∀ {S : List Nat} {j : Nat} {y : DInfo}, j ∈ S → I[j]? = some y → y.eff = false → readsS y.o.op = true → tp.testBit j = false → y.o ∈ stabL I tp S := by
  intro S
  induction S with
  | nil => intro j y h; cases h
  | cons a r ih =>
    intro j y h h1 h2 h3 h4
    simp only [stabL]
    rcases List.mem_cons.1 h with rfl | h
    · rw [h1]
      simp [h2, h3, h4]
    · have := ih h h1 h2 h3 h4
      split
      · rename_i z hz
        cases (!z.eff && readsS z.o.op && !tp.testBit a) with
        | true => simp only [cond_true]; exact List.mem_cons_of_mem _ this
        | false => exact this
      · exact this

theorem nextP_some {I : List DInfo} {U : List Nat} : ∀ {l : List DInfo} {k i : Nat} {x : DInfo}, nextP I U l k = some (i, x) → ∃ j, i = k + j ∧ l[j]? = some x ∧ x.eff = false ∧ i ∉ U ∧ ∀ p ∈ x.pre, p ∈ U := by
  intro l
  induction l with
  | nil => intro k i x h; cases h
  | cons a r ih =>
    intro k i x h
    simp only [nextP] at h
    cases hb : (!a.eff && !memN U k && allIn U a.pre) with
    | true =>
      simp only [hb, cond_true, Option.some.injEq, Prod.mk.injEq] at h
      obtain ⟨rfl, rfl⟩ := h
      simp only [Bool.and_eq_true, Bool.not_eq_true'] at hb
      refine ⟨0, rfl, rfl, hb.1.1, ?_, allIn_iff.1 hb.2⟩
      intro hm
      rw [memN_iff.2 hm] at hb
      exact absurd hb.1.2 (by simp)
    | false =>
      simp only [hb, cond_false] at h
      obtain ⟨j, e, h1, h2⟩ := ih h
      exact ⟨j + 1, by omega, h1, h2⟩

theorem nextP_none {I : List DInfo} {U : List Nat} : ∀ {l : List DInfo} {k : Nat}, nextP I U l k = none → ∀ j x, l[j]? = some x → x.eff = false → (∀ p ∈ x.pre, p ∈ U) → k + j ∈ U := by
  intro l
  induction l with
  | nil => intro k _ j x h; simp at h
  | cons a r ih =>
    intro k h j x hj he hp
    simp only [nextP] at h
    cases hb : (!a.eff && !memN U k && allIn U a.pre) with
    | true => simp [hb] at h
    | false =>
      simp only [hb, cond_false] at h
      cases j with
      | zero =>
        simp only [List.getElem?_cons_zero, Option.some.injEq] at hj
        subst hj
        rw [allIn_iff.2 hp, he] at hb
        simp only [Bool.not_false, Bool.true_and, Bool.and_true, Bool.not_eq_false'] at hb
        exact memN_iff.1 hb
      | succ j =>
        have := ih h j x (by simpa using hj) he hp
        rw [show k + (j + 1) = k + 1 + j by omega]
        exact this

theorem nextE_mem {U : List Nat} : ∀ {l : List DInfo} {k : Nat} {p : Nat × DInfo}, p ∈ nextE U l k ↔ ∃ j, p.1 = k + j ∧ l[j]? = some p.2 ∧ p.2.eff = true ∧ p.1 ∉ U ∧ ∀ q ∈ p.2.pre, q ∈ U := by
  intro l
  induction l with
  | nil => intro k p; simp [nextE]
  | cons a r ih =>
    intro k p
    simp only [nextE]
    have tail : (∃ j, p.1 = k + 1 + j ∧ r[j]? = some p.2 ∧ p.2.eff = true ∧ p.1 ∉ U ∧ ∀ q ∈ p.2.pre, q ∈ U) ↔ ∃ j, p.1 = k + (j + 1) ∧ (a :: r)[j + 1]? = some p.2 ∧ p.2.eff = true ∧ p.1 ∉ U ∧ ∀ q ∈ p.2.pre, q ∈ U := by
      constructor <;> rintro ⟨j, h1, h2⟩ <;> exact ⟨j, by omega, by simpa using h2⟩
    cases hb : (a.eff && !memN U k && allIn U a.pre) with
    | true =>
      simp only [cond_true, List.mem_cons, ih, tail]
      simp only [Bool.and_eq_true, Bool.not_eq_true'] at hb
      constructor
      · rintro (rfl | ⟨j, h⟩)
        · refine ⟨0, rfl, rfl, hb.1.1, ?_, allIn_iff.1 hb.2⟩
          intro hm
          have := hb.1.2
          rw [memN_iff.2 hm] at this
          cases this
        · exact ⟨j + 1, h⟩
      · rintro ⟨j, h1, h2, h3⟩
        cases j with
        | zero =>
          left
          simp only [List.getElem?_cons_zero, Option.some.injEq] at h2
          obtain ⟨p1, p2⟩ := p
          simp only at h1 h2
          rw [h1, h2]
          rfl
        | succ j => exact .inr ⟨j, h1, h2, h3⟩
    | false =>
      simp only [cond_false, ih, tail]
      constructor
      · rintro ⟨j, h⟩; exact ⟨j + 1, h⟩
      · rintro ⟨j, h1, h2, h3, h4, h5⟩
        cases j with
        | zero =>
          simp only [List.getElem?_cons_zero, Option.some.injEq] at h2
          exfalso
          rw [h2, h3, allIn_iff.2 h5] at hb
          have h1' : p.1 = k := h1
          rw [h1'] at h4
          have : memN U k = false := by
            cases hm : memN U k with
            | false => rfl
            | true => exact absurd (memN_iff.1 hm) h4
          simp [this] at hb
        | succ j => exact ⟨j, h1, h2, h3, h4, h5⟩

theorem upL_mem {i : Nat} : ∀ {n : Nat}, i ∈ upL n ↔ i < n := by
  intro n
  induction n with
  | zero => simp [upL]
  | succ n ih => simp only [upL, List.mem_cons, ih]; omega

theorem chainD_ok {I : List DInfo} {f : List Nat → Option DTree} (hf : ∀ S t, f S = some t → TreeOk I none S t) {S : List Nat} : ∀ (l : List (Nat × DInfo)) (es : List Nat) (t : DTree), chainD f I S l = some t →
    (∀ p ∈ l, I[p.1]? = some p.2 ∧ p.2.eff = true ∧ p.1 ∉ S ∧ ∀ q ∈ p.2.pre, q ∈ S) → (∀ e x, I[e]? = some x → x.eff = true → e ∉ S → (∀ p ∈ x.pre, p ∈ S) → e ∈ es ∨ ∃ p ∈ l, p.1 = e) → TreeOk I (some es) S t := by
  intro l
  induction l with
  | nil =>
    intro es t h _ h2
    simp only [chainD, Option.some.injEq] at h
    subst h
    intro e x h3 h4 h5 h6
    rcases h2 e x h3 h4 h5 h6 with h | ⟨p, hp, _⟩
    · exact h
    · cases hp
  | cons p r ih =>
    obtain ⟨e, x⟩ := p
    intro es t h h1 h2
    simp only [chainD] at h
    split at h
    · rename_i sub hs
      split at h
      · rename_i alt ha
        cases h
        obtain ⟨g1, g2, g3, g4⟩ := h1 (e, x) (List.mem_cons_self ..)
        refine ⟨⟨x, g1, rfl, g2, g3, g4, fun j hj y hy he hr ht => stabL_mem hj hy he hr ht⟩, hf _ _ hs, ih (e :: es) alt ha (fun p hp => h1 p (List.mem_cons_of_mem _ hp)) ?_⟩
        intro e' x' h3 h4 h5 h6
        rcases h2 e' x' h3 h4 h5 h6 with h | ⟨p, hp, hpe⟩
        · exact .inl (List.mem_cons_of_mem _ h)
        · rcases List.mem_cons.1 hp with rfl | hp
          · exact .inl (by rw [← hpe]; exact List.mem_cons_self ..)
          · exact .inr ⟨p, hp, hpe⟩
      · cases h
    · cases h

theorem buildD_ok {I : List DInfo} : ∀ (f : Nat) (S : List Nat) (t : DTree), buildD I f S = some t → TreeOk I none S t := by
  intro f
  induction f with
  | zero => intro S t h; cases h
  | succ f ih =>
    intro S t h
    simp only [buildD] at h
    cases ha : allIn S (upL I.length) with
    | true =>
      simp only [ha, cond_true, Option.some.injEq] at h
      subst h
      exact fun i hi => allIn_iff.1 ha i (upL_mem.2 hi)
    | false =>
      simp only [ha, cond_false] at h
      have left : ∃ i, i < I.length ∧ i ∉ S := by
        refine Classical.byContradiction fun hn => ?_
        have : allIn S (upL I.length) = true := allIn_iff.2 fun p hp => Classical.byContradiction fun hp2 => hn ⟨p, upL_mem.1 hp, hp2⟩
        rw [this] at ha
        cases ha
      split at h
      · rename_i i x hn
        split at h
        · rename_i t' ht
          cases h
          obtain ⟨j, e, h1, h2, h3, h4⟩ := nextP_some hn
          rw [Nat.zero_add] at e
          subst e
          exact ⟨⟨x, h1, rfl, h2, h3, h4⟩, ih _ _ ht⟩
        · cases h
      · rename_i hn
        have hcl : Closed I S := fun i x h1 h2 h3 => by simpa using nextP_none hn i x h1 h2 h3
        have hmem : ∀ p ∈ nextE S I 0, I[p.1]? = some p.2 ∧ p.2.eff = true ∧ p.1 ∉ S ∧ ∀ q ∈ p.2.pre, q ∈ S := by
          intro p hp
          obtain ⟨j, e, h1⟩ := nextE_mem.1 hp
          rw [Nat.zero_add] at e
          rw [e]
          rw [e] at h1
          exact h1
        have hall : ∀ e x, I[e]? = some x → x.eff = true → e ∉ S → (∀ p ∈ x.pre, p ∈ S) → e ∈ ([] : List Nat) ∨ ∃ p ∈ nextE S I 0, p.1 = e := by
          intro e x h1 h2 h3 h4
          exact .inr ⟨(e, x), nextE_mem.2 ⟨e, by simp, h1, h2, h3, h4⟩, rfl⟩
        cases hl : nextE S I 0 with
        | nil =>
          rw [hl] at h hall
          simp only [chainD, Option.some.injEq] at h
          subst h
          refine ⟨hcl, left, fun e x h1 h2 h3 h4 => ?_⟩
          rcases hall e x h1 h2 h3 h4 with hh | ⟨p, hp, _⟩
          · cases hh
          · cases hp
        | cons p r =>
          have hc := chainD_ok ih (nextE S I 0) [] t h hmem hall
          rw [hl] at h
          obtain ⟨e, x⟩ := p
          simp only [chainD] at h
          split at h
          · split at h
            · cases h
              exact ⟨hcl, left, hc⟩
            · cases h
          · cases h
end Go.Eng
