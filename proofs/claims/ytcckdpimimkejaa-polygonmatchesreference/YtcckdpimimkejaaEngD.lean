/- The engine, part 4: when one symbolic value serves as another; the contracts of functions. -/
import Derived.Test.YtcckdpimimkejaaEngC
namespace Go.Eng
open Go Go.RowKit

/-- Is a number in a list? -/
def memN : List Nat → Nat → Bool
  | [], _ => false
  | k :: r, n => bif Nat.beq k n then true else memN r n
theorem memN_iff {l : List Nat} {n : Nat} : memN l n = true ↔ n ∈ l := by
  induction l with
  | nil => simp [memN]
  | cons k r ih =>
    simp only [memN]
    by_cases h : k = n
    · subst h; simp [Nat.beq_refl]
    · have hb : Nat.beq k n = false := by
        cases hb : Nat.beq k n with
        | false => rfl
        | true => exact absurd (nbeq hb) h
      simp [hb, ih, Ne.symm h]

/-- What becomes of the tracked objects. names: those that stay, with their new names; hold: the others stay, too (without a name); else they do not change any more. loose: what is said may speak of other memory that does not change. recs: records of loops may be among them. -/
structure Keep where
  names : List (Nat × Nat)
  hold : Bool
  loose : Bool
  recs : Bool
def Keep.free : Keep := ⟨[], false, true, false⟩
def Keep.strict : Keep := ⟨[], false, false, false⟩
def Keep.hold' : Keep := ⟨[], true, true, false⟩
def Keep.keep (l : List (Nat × Nat)) : Keep := ⟨l, false, true, true⟩
def kept (k : Keep) (n : Nat) : Bool := match k.hold with
  | true => true
  | false => (get? k.names n).isSome
/-- The new name of a tracked object. -/
def ren (k : Keep) (n : Nat) : Option Nat := get? k.names n
def loose (k : Keep) : Bool := k.loose
def renEq (k : Keep) (id id' : Nat) : Prop :=
  match ren k id with
  | some x => x = id'
  | none => False
/-- The values of one cell. -/
def isOne : SV → Bool
  | .int .. | .bool .. | .str .. | .own .. | .osl .. | .lsl .. | .oel .. | .mref .. | .fown .. | .fmref .. | .nilsl | .slice .. | .slit .. | .cptr .. | .fn .. | .yield .. => true
  | .val v => v.oneCell'
  | _ => false

def isList : SV → Bool
  | .nil | .cons .. => true
  | _ => false

/-- Whatever s stands for, t stands for, as long as memory that does not change stays. -/
def Imp (s t : SV) : Prop := ∀ (E E' : Env) (vs : List Value), E.LeU E' → R E s vs → R E' t vs
/-- An element serves as another one. -/
def SubC (keep : Keep) (f : SV → SV → Prop) (s t : SV) : Prop := f s t ∨ (loose keep = true ∧ Imp s t)
theorem SubC.sound {E E' : Env} {keep : Keep} {f : SV → SV → Prop} (hle : loose keep = true → E.LeU E') (hf : ∀ s t vs, f s t → R E s vs → R E' t vs) : ∀ s t vs, SubC keep f s t → R E s vs → R E' t vs := by
  rintro s t vs (h | ⟨h1, h2⟩) hr
  · exact hf _ _ _ h hr
  · exact h2 _ _ _ (hle h1) hr

def subE (f : SV → SV → Prop) : SV → (Nat → SV) → Nat → Prop
  | .cons h t, enc', i => f h (enc' i) ∧ subE f t enc' (i + 1)
  | _, _, _ => True

/-- 'sub keep hp n s t': whatever s stands for, t stands for, once the tracked objects that are not in 'keep' do not change any more. -/
def sub (keep : Keep) (hp : List (Nat × HObj)) : Nat → SV → SV → Prop
  | 0, _, _ => False
  | n + 1, s, t =>
    match t with
    | .junk => match s with
      | .nil => False
      | .cons _ _ => False
      | _ => True
    | .val v' => match s with
      | .val v => v = v'
      | .nilsl => Value.slice none 0 0 = v'
      | _ => False
    | .int k' m' => match s with
      | .int k m => k = k' ∧ m = m'
      | _ => False
    | .bool b' => match s with
      | .bool b => b = b'
      | _ => False
    | .str s' => match s with
      | .str x => x = s'
      | _ => False
    | .own id' o' => match s with
      | .own id o => renEq keep id id' ∧ o = o'
      | _ => False
    | .osl id' sz' lo' n' => match s with
      | .osl id sz lo k => renEq keep id id' ∧ sz = sz' ∧ lo = lo' ∧ k = n'
      | .lsl id sz k => renEq keep id id' ∧ sz = sz' ∧ 0 = lo' ∧ k = n'
      | _ => False
    | .lsl id' sz' n' => match s with
      | .lsl id sz k => renEq keep id id' ∧ sz = sz' ∧ k = n'
      | .nilsl => n' = 0
      | .slit _ els => els = .nil ∧ n' = 0
      | _ => False
    | .oel id' sz' i' o' => match s with
      | .oel id sz i o => renEq keep id id' ∧ sz = sz' ∧ i = i' ∧ o = o'
      | _ => False
    | .mref id' => match s with
      | .mref id => renEq keep id id'
      | _ => False
    | .fown h' i' o' => match s with
      | .fown h i o => renEq keep h h' ∧ i = i' ∧ o = o'
      | _ => False
    | .fmref h' i' => match s with
      | .fmref h i => renEq keep h h' ∧ i = i'
      | _ => False
    | .nilsl => match s with
      | .nilsl => True
      | _ => False
    | .slice sz' n' enc' => match asOsl s with
      | .slice sz k enc => loose keep = true ∧ sz = sz' ∧ k = n' ∧ ∀ i, i < k → SubC keep (sub keep hp n) (enc i) (enc' i)
      | .slit sz els => loose keep = true ∧ sz = sz' ∧ els.len = n' ∧ subE (sub keep hp n) els enc' 0
      | .nilsl => n' = 0
      | .osl id sz lo k => match get? hp id with
        | some (.arr _ sz'' len enc) => bif kept keep id then False else sz = sz' ∧ sz'' = sz ∧ k = n' ∧ lo + k ≤ len ∧ ∀ i, i < k → SubC keep (sub keep hp n) (enc (lo + i)) (enc' i)
        | _ => False
      | _ => False
    | .slit sz' els' => match s with
      | .slit sz els => sz = sz' ∧ els = .nil ∧ els' = .nil
      | _ => False
    | .cptr cells' => match s with
      | .cptr cells => loose keep = true ∧ sub keep hp n cells cells'
      | .own id off => match get? hp id with
        | some (.cells _ l) => bif kept keep id then False else
          match takeL cells'.len (dropL off l) with
          | some l' => sub keep hp n l' cells'
          | none => False
        | _ => False
      | .oel id sz i off => match get? hp id with
        | some (.arr _ sz'' len enc) => bif kept keep id then False else
          match takeL cells'.len (dropL off (enc i)) with
          | some l' => sz'' = sz ∧ i < len ∧ sub keep hp n l' cells'
          | none => False
        | _ => False
      | _ => False
    | .nil => match s with
      | .nil => True
      | _ => False
    | .cons h' t' => match s with
      | .cons h t => sub keep hp n h h' ∧ sub keep hp n t t'
      | _ => False
    | .agg l' => match s with
      | .agg l => sub keep hp n l l'
      | _ => False
    | .tup l' => match s with
      | .tup l => sub keep hp n l l'
      | _ => False
    | .fn f' l' => match s with
      | .fn f l => f = f' ∧ sub keep hp n l l'
      | _ => False
    | .yield id' => match s with
      | .yield id => renEq keep id id'
      | _ => False
    | .gd _ _ _ => False

/-- The number of an object, or of its family. -/
def fbase (n : Nat) : Nat := if n < FB then n else n % FB

/-- What stands when the objects outside 'keep' are let go. -/
structure Env.Freed (keep : Keep) (hp : List (Nat × HObj)) (E E' : Env) : Prop where
  le : loose keep = true → E.LeU E'
  μ : ∀ id id' p, ren keep id = some id' → E.μ id = some p → E'.μ id' = some p
  fam : ∀ h h' i p, ren keep h = some h' → E.μ (fid h i) = some p → E'.μ (fid h' i) = some p
  w : E'.w = E.w
  free : ∀ id o b c, hget hp id = some o → E.μ id = some (b, c) → kept keep (fbase id) = false → E'.U b

theorem R_subE {E E' : Env} {keep : Keep} {hp : List (Nat × HObj)} (hF : E.Freed keep hp E') {f : SV → SV → Prop}
    (hlo : loose keep = true) (hf : ∀ s t vs, f s t → R E s vs → R E' t vs) {a : Option Addr} {sz : Nat} {enc' : Nat → SV} :
    ∀ {els : SV} {i : Nat}, subE f els enc' i → RE E els a sz i → ∀ k, k < els.len → ElemAt E' a sz (i + k) (R E' (enc' (i + k))) := by
  intro els
  induction els with
  | cons h t _ iht =>
    intro i hs hr k hk
    simp only [subE] at hs
    simp only [RE] at hr
    cases k with
    | zero => exact hr.1.mono (hF.le hlo) (fun cs r => hf _ _ _ hs.1 r)
    | succ k =>
      have := iht hs.2 hr.2 k (by simp [SV.len] at hk; omega)
      have e : i + 1 + k = i + (k + 1) := by omega
      rw [e] at this
      exact this
  | _ => intro i _ _ k hk; simp [SV.len] at hk

theorem R_len {E : Env} : ∀ {l : SV} {cs : List Value}, R E l cs → isList l = true → (∃ t, l = t) → l.len ≤ cs.length := by
  intro l
  induction l with
  | cons h t _ iht =>
    intro cs hr _ _
    simp only [R] at hr
    obtain ⟨x, xs, rfl, _, h2⟩ := hr
    simp only [SV.len, List.length_cons]
    cases t with
    | cons _ _ => have := iht h2 rfl ⟨_, rfl⟩; omega
    | _ => simp [SV.len]
  | nil => intro cs hr _ _; simp [SV.len]
  | _ => intro cs _ h; simp [isList] at h


theorem Holds.row {w : World} {b : Nat} {cs : List Value} {T : TypeId} {fr : Nat × Nat} (h : w.heap[b]? = some (.cells cs.toArray T fr)) (off : Nat) : Holds w b off (cs.drop off) := by
  intro j v hj
  rw [cell_of_row w b (off + j) cs.toArray T fr h]
  simpa using hj
theorem Holds.take {w : World} {b off : Nat} {cs : List Value} (h : Holds w b off cs) (n : Nat) : Holds w b off (cs.take n) := by
  intro j v hj
  refine h j v ?_
  rw [List.getElem?_take] at hj
  split at hj
  · exact hj
  · cases hj
theorem Holds.drop {w : World} {b off : Nat} {cs : List Value} (h : Holds w b off cs) (n : Nat) : Holds w b (off + n) (cs.drop n) := by
  intro j v hj
  rw [List.getElem?_drop] at hj
  have := h (n + j) v hj
  rwa [← Nat.add_assoc] at this

theorem HpR.cells {E : Env} {hp : List (Nat × HObj)} (hH : HpR E hp) {id b c : Nat} {T : TypeId} {l : SV} (hg : get? hp id = some (.cells T l)) (hm : E.μ id = some (b, c)) :
    ∃ cs, E.w.heap[b]? = some (.cells cs.toArray T (0, 0)) ∧ R E l cs := by
  obtain ⟨b', c', x, h1, h2, cs, h3, h4⟩ := hH.obj id _ (hget_of_get (hH.keys _ _ hg) hg rfl)
  rw [hm] at h1
  cases h1
  exact ⟨cs, h3 ▸ h2, h4⟩
theorem HpR.arr {E : Env} {hp : List (Nat × HObj)} (hH : HpR E hp) {id b c : Nat} {T : TypeId} {sz len : Nat} {enc : Nat → SV} (hg : get? hp id = some (.arr T sz len enc)) (h0 : 0 < len) (hm : E.μ id = some (b, c)) :
    ∃ cs : List Value, E.w.heap[b]? = some (.cells cs.toArray T (0, 0)) ∧ cs.length = c * sz ∧ len ≤ c ∧
      ∀ i, i < len → ∃ xs, R E (enc i) xs ∧ xs.length = sz ∧ ∀ j v, xs[j]? = some v → cs[i * sz + j]? = some v := by
  obtain ⟨b', c', x, h1, h2, cs, h3, h4⟩ := hH.obj id _ (hget_of_get (hH.keys _ _ hg) hg (solid_arr h0))
  rw [hm] at h1
  cases h1
  exact ⟨cs, h3 ▸ h2, h4⟩

theorem renEq_ok {k : Keep} {id id' : Nat} (h : renEq k id id') : ren k id = some id' := by
  unfold renEq at h
  split at h
  · rename_i x hx; rw [hx, h]
  · exact h.elim

theorem Env.Freed.freeE {E E' : Env} {keep : Keep} {hp : List (Nat × HObj)} (hF : E.Freed keep hp E') (hH : HpR E hp) {id b c : Nat} {o : HObj} (hg : get? hp id = some o) (hs : solid? o = some o) (hm : E.μ id = some (b, c)) (hk : kept keep id = false) : E'.U b := by
  have hlt := hH.keys _ _ hg
  refine hF.free id o b c (hget_of_get hlt hg hs) hm ?_
  unfold fbase
  rw [if_pos hlt]
  exact hk

set_option maxHeartbeats 2000000 in
theorem sub_sound {E E' : Env} {keep : Keep} {hp : List (Nat × HObj)} (hF : E.Freed keep hp E') (hH : HpR E hp) :
    ∀ (n : Nat) (s t : SV) (vs : List Value), sub keep hp n s t → R E s vs → R E' t vs := by
  intro n
  induction n with
  | zero => intro s t vs h; simp [sub] at h
  | succ n ih =>
    intro s t vs h hr
    cases t with
    | junk =>
      cases s with
      | nil => simp [sub] at h
      | cons x y => simp [sub] at h
      | _ => exact R_single hr (by simp) (by simp)
    | val v' =>
      cases s with
      | val v => simp only [sub] at h; subst h; simpa only [R] using hr
      | nilsl => simp only [sub] at h; subst h; simpa only [R] using hr
      | _ => simp [sub] at h
    | int k m =>
      cases s with
      | int k' m' => simp only [sub] at h; obtain ⟨rfl, rfl⟩ := h; simpa only [R] using hr
      | _ => simp [sub] at h
    | bool b =>
      cases s with
      | bool b' => simp only [sub] at h; subst h; simpa only [R] using hr
      | _ => simp [sub] at h
    | str x =>
      cases s with
      | str x' => simp only [sub] at h; subst h; simpa only [R] using hr
      | _ => simp [sub] at h
    | own id o =>
      cases s with
      | own id' o' =>
        simp only [sub] at h
        obtain ⟨hn, rfl⟩ := h
        simp only [R] at hr ⊢
        obtain ⟨b, c, m1, hv⟩ := hr
        exact ⟨b, c, hF.μ _ _ _ (renEq_ok hn) m1, hv⟩
      | _ => simp [sub] at h
    | osl id sz lo k =>
      cases s with
      | osl =>
        simp only [sub] at h
        obtain ⟨hn, rfl, rfl, rfl⟩ := h
        simp only [R] at hr ⊢
        rcases hr with hr | ⟨h0, b, c, m1, hv⟩
        · exact .inl hr
        · exact .inr ⟨h0, b, c, hF.μ _ _ _ (renEq_ok hn) m1, hv⟩
      | lsl =>
        have hr := R_asOsl hr
        simp only [sub] at h
        obtain ⟨hn, rfl, rfl, rfl⟩ := h
        simp only [asOsl, R] at hr ⊢
        rcases hr with hr | ⟨h0, b, c, m1, hv⟩
        · exact .inl hr
        · exact .inr ⟨h0, b, c, hF.μ _ _ _ (renEq_ok hn) m1, hv⟩
      | _ => simp [sub] at h
    | lsl id sz k =>
      cases s with
      | lsl =>
        simp only [sub] at h
        obtain ⟨hn, rfl, rfl⟩ := h
        simp only [R] at hr ⊢
        rcases hr with hr | ⟨h0, b, c, m1, hv⟩
        · exact .inl hr
        · exact .inr ⟨h0, b, c, hF.μ _ _ _ (renEq_ok hn) m1, hv⟩
      | nilsl =>
        simp only [sub] at h
        simp only [R] at hr ⊢
        exact .inl ⟨h, none, hr⟩
      | slit sz els =>
        simp only [sub] at h
        obtain ⟨rfl, h⟩ := h
        simp only [R] at hr ⊢
        obtain ⟨a, hr, _⟩ := hr
        exact .inl ⟨h, a, hr⟩
      | _ => simp [sub] at h
    | oel id sz i o =>
      cases s with
      | oel =>
        simp only [sub] at h
        obtain ⟨hn, rfl, rfl, rfl⟩ := h
        simp only [R] at hr ⊢
        obtain ⟨b, c, m1, hv⟩ := hr
        exact ⟨b, c, hF.μ _ _ _ (renEq_ok hn) m1, hv⟩
      | _ => simp [sub] at h
    | mref id =>
      cases s with
      | mref =>
        simp only [sub] at h
        simp only [R] at hr ⊢
        obtain ⟨b, c, m1, hv⟩ := hr
        exact ⟨b, c, hF.μ _ _ _ (renEq_ok h) m1, hv⟩
      | _ => simp [sub] at h
    | fown h' i' o =>
      cases s with
      | fown =>
        simp only [sub] at h
        obtain ⟨hn, rfl, rfl⟩ := h
        simp only [R] at hr ⊢
        obtain ⟨b, c, m1, hv⟩ := hr
        exact ⟨b, c, hF.fam _ _ _ _ (renEq_ok hn) m1, hv⟩
      | _ => simp [sub] at h
    | fmref h' i' =>
      cases s with
      | fmref =>
        simp only [sub] at h
        obtain ⟨hn, rfl⟩ := h
        simp only [R] at hr ⊢
        obtain ⟨b, c, m1, hv⟩ := hr
        exact ⟨b, c, hF.fam _ _ _ _ (renEq_ok hn) m1, hv⟩
      | _ => simp [sub] at h
    | nilsl =>
      cases s with
      | nilsl => simpa only [R] using hr
      | _ => simp [sub] at h
    | slice sz' n' enc' =>
      replace hr := R_asOsl hr
      simp only [sub] at h
      generalize asOsl s = s at h hr
      cases s with
      | slice sz k enc =>
        simp only at h
        obtain ⟨hlo, rfl, rfl, h3⟩ := h
        simp only [R] at hr ⊢
        obtain ⟨a, cap, e1, e2, e3⟩ := hr
        exact ⟨a, cap, e1, e2, fun i hi => (e3 i hi).mono (hF.le hlo) (fun cs r => SubC.sound hF.le ih _ _ _ (h3 i hi) r)⟩
      | slit sz els =>
        simp only at h
        obtain ⟨hlo, rfl, rfl, h3⟩ := h
        simp only [R] at hr ⊢
        obtain ⟨a, e1, e2⟩ := hr
        refine ⟨a, _, e1, Nat.le_refl _, fun i hi => ?_⟩
        have := R_subE hF hlo ih h3 e2 i hi
        rwa [Nat.zero_add] at this
      | nilsl =>
        simp only at h
        subst h
        simp only [R] at hr ⊢
        exact ⟨none, 0, hr, Nat.le_refl _, fun i hi => absurd hi (Nat.not_lt_zero _)⟩
      | osl id sz lo k =>
        simp only at h
        split at h
        · rename_i T sz'' len enc hg
          cases hk : kept keep id with
          | true => simp [hk] at h
          | false =>
            simp only [hk, cond_false] at h
            obtain ⟨rfl, rfl, rfl, h4, h5⟩ := h
            simp only [R] at hr ⊢
            rcases hr with ⟨rfl, a, cap, hr⟩ | ⟨h0, b, c, m1, rfl, m2⟩
            · exact ⟨a, cap, hr, Nat.zero_le _, fun i hi => absurd hi (Nat.not_lt_zero _)⟩
            obtain ⟨cs, c1, c2, c3, c4⟩ := hH.arr hg (by omega) m1
            refine ⟨_, _, rfl, by omega, fun i hi => ?_⟩
            obtain ⟨xs, x1, x2, x3⟩ := c4 (lo + i) (by omega)
            refine ⟨b, _, xs, rfl, hF.freeE hH hg (solid_arr (by omega)) m1 hk, SubC.sound hF.le ih _ _ _ (h5 i hi) x1, x2, ?_⟩
            intro j v hj
            rw [hF.w, cell_of_row E.w b _ cs.toArray T (0, 0) c1]
            have := x3 j v hj
            rw [Nat.add_mul] at this
            simpa using this
        · exact h.elim
      | _ => simp at h
    | slit sz' els' =>
      cases s with
      | slit sz els =>
        simp only [sub] at h
        obtain ⟨rfl, rfl, rfl⟩ := h
        simp only [R, RE] at hr ⊢
        exact hr
      | _ => simp [sub] at h
    | cptr cells' =>
      cases s with
      | cptr cells =>
        simp only [sub] at h
        simp only [R] at hr ⊢
        obtain ⟨b, off, cs, e1, e2, e3, e4⟩ := hr
        exact ⟨b, off, cs, e1, (hF.le h.1).U b e2, ih _ _ _ h.2 e3, e4.mono ((hF.le h.1).heap b e2)⟩
      | own id off =>
        simp only [sub] at h
        split at h
        · rename_i T l hg
          cases hk : kept keep id with
          | true => simp [hk] at h
          | false =>
            simp only [hk, cond_false] at h
            split at h
            · rename_i l' hl
              simp only [R] at hr ⊢
              obtain ⟨b, c, m1, rfl⟩ := hr
              obtain ⟨cs, c1, c2⟩ := hH.cells hg m1
              obtain ⟨t1, t2⟩ := R_takeL hl (R_dropL (n := off) c2)
              refine ⟨b, off, _, rfl, hF.freeE hH hg rfl m1 hk, ih _ _ _ h t1, ?_⟩
              rw [hF.w]
              exact (Holds.row c1 off).take _
            · exact h.elim
        · exact h.elim
      | oel id sz i off =>
        simp only [sub] at h
        split at h
        · rename_i T sz'' len enc hg
          cases hk : kept keep id with
          | true => simp [hk] at h
          | false =>
            simp only [hk, cond_false] at h
            split at h
            · rename_i l' hl
              obtain ⟨rfl, hi, h⟩ := h
              simp only [R] at hr ⊢
              obtain ⟨b, c, m1, rfl⟩ := hr
              obtain ⟨cs, c1, c2, c3, c4⟩ := hH.arr hg (by omega) m1
              obtain ⟨xs, x1, x2, x3⟩ := c4 i hi
              obtain ⟨t1, t2⟩ := R_takeL hl (R_dropL (n := off) x1)
              refine ⟨b, _, _, rfl, hF.freeE hH hg (solid_arr (by omega)) m1 hk, ih _ _ _ h t1, ?_⟩
              rw [hF.w]
              refine Holds.take ?_ _
              intro j v hj
              rw [cell_of_row E.w b _ cs.toArray T (0, 0) c1]
              have := x3 (off + j) v (by simpa using hj)
              simpa [Nat.add_assoc] using this
            · exact h.elim
        · exact h.elim
      | _ => simp [sub] at h
    | nil =>
      cases s with
      | nil => simpa only [R] using hr
      | _ => simp [sub] at h
    | cons h' t' =>
      cases s with
      | cons x y =>
        simp only [sub] at h
        simp only [R] at hr ⊢
        obtain ⟨v, r, e1, e2, e3⟩ := hr
        exact ⟨v, r, e1, ih _ _ _ h.1 e2, ih _ _ _ h.2 e3⟩
      | _ => simp [sub] at h
    | agg l' =>
      cases s with
      | agg l =>
        simp only [sub] at h
        simp only [R] at hr ⊢
        obtain ⟨cs, e1, e2⟩ := hr
        exact ⟨cs, e1, ih _ _ _ h e2⟩
      | _ => simp [sub] at h
    | tup l' =>
      cases s with
      | tup l =>
        simp only [sub] at h
        simp only [R] at hr ⊢
        obtain ⟨cs, e1, e2⟩ := hr
        exact ⟨cs, e1, ih _ _ _ h e2⟩
      | _ => simp [sub] at h
    | fn f' l' =>
      cases s with
      | fn f l =>
        simp only [sub] at h
        obtain ⟨rfl, h⟩ := h
        simp only [R] at hr ⊢
        obtain ⟨cs, e1, e2⟩ := hr
        exact ⟨cs, e1, ih _ _ _ h e2⟩
      | _ => simp [sub] at h
    | yield l' =>
      cases s with
      | yield id =>
        simp only [sub] at h
        simp only [R] at hr ⊢
        obtain ⟨b, c, e1, e2⟩ := hr
        exact ⟨b, c, hF.μ _ _ _ (renEq_ok h) e1, e2⟩
      | _ => simp [sub] at h
    | gd d w x => simp [sub] at h
end Go.Eng
