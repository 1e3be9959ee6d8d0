/- A part of the proof: see the last text. -/
import Derived.Test.YtnkkbbjljmbjbaaProg
import Derived.KernelRfl
import Derived.Test.YtnkkbbjljmbjbaaEngN
open Go Go.Eng Go.Proofs
set_option maxRecDepth 100000
namespace A0
/-- The i-th element of a list, as cells. -/
def lc {α : Type} (enc : α → SV) (d : α) (l : List α) (i : Nat) : SV := enc (l.getD i d)
def natN (n : Nat) : SV := .cons (.int .i64 (n : Int)) .nil
def strN (s : List UInt8) : SV := .cons (.str s) .nil
theorem sub_natN (k : Keep) (hp : List (Nat × HObj)) (m n : Nat) : sub k hp (m + 3) (natN n) (natN n) := ⟨⟨rfl, rfl⟩, trivial⟩
theorem sub_strN (k : Keep) (hp : List (Nat × HObj)) (m : Nat) (s : List UInt8) : sub k hp (m + 3) (strN s) (strN s) := ⟨rfl, trivial⟩
section
variable {α : Type} {enc : α → SV} {d : α} {k : Keep} {hp : List (Nat × HObj)} {m : Nat}
theorem sub_lc (h : ∀ a, sub k hp m (enc a) (enc a)) {l : List α} {n : Nat} : ∀ j, j < n → SubC k (sub k hp m) (lc enc d l j) (lc enc d l j) := fun _ _ => Or.inl (h _)
theorem sub_lc0 (h : ∀ a, sub k hp m (enc a) (enc a)) {l : List α} {n : Nat} : ∀ j, j < n → SubC k (sub k hp m) (lc enc d l (0 + j)) (lc enc d l j) := fun j _ => by rw [Nat.zero_add]; exact Or.inl (h _)
theorem sub_app (h : ∀ a, sub k hp m (enc a) (enc a)) {l : List α} {x : α} {e : Nat → SV} (he : e 0 = enc x) {n : Nat} (hn : n = l.length + 1) : ∀ j, j < n → SubC k (sub k hp m) (appE l.length (lc enc d l) e j) (lc enc d (l ++ [x]) j) := by
  intro j hj
  subst hn
  have e : appE l.length (lc enc d l) e j = lc enc d (l ++ [x]) j := by
    unfold appE lc
    rw [List.getD_eq_getElem?_getD, List.getD_eq_getElem?_getD]
    by_cases e : j < l.length
    · have hb : Nat.blt j l.length = true := by rw [Nat.blt_eq]; exact e
      rw [hb, cond_true, List.getElem?_append_left e]
    · have hb : Nat.blt j l.length = false := by
        cases h : Nat.blt j l.length with
        | false => rfl
        | true => exact absurd (by rw [Nat.blt_eq] at h; exact h) e
      have hj' : j = l.length := by omega
      subst hj'
      rw [hb, cond_false, Nat.sub_self, he]
      simp
  rw [e]
  exact Or.inl (h _)
theorem sub_app2 {f : SV → SV → Prop} (h : ∀ a, SubC k f (enc a) (enc a)) {l : List α} {x : α} {e : Nat → SV} (he : SubC k f (e 0) (enc x)) {n : Nat} (hn : n = l.length + 1) : ∀ j, j < n → SubC k f (appE l.length (lc enc d l) e j) (lc enc d (l ++ [x]) j) := by
  intro j hj
  subst hn
  unfold appE lc
  rw [List.getD_eq_getElem?_getD, List.getD_eq_getElem?_getD]
  by_cases e : j < l.length
  · have hb : Nat.blt j l.length = true := by rw [Nat.blt_eq]; exact e
    rw [hb, cond_true, List.getElem?_append_left e]
    exact h _
  · have hb : Nat.blt j l.length = false := by
      cases h : Nat.blt j l.length with
      | false => rfl
      | true => exact absurd (by rw [Nat.blt_eq] at h; exact h) e
    have hj' : j = l.length := by omega
    subst hj'
    rw [hb, cond_false, Nat.sub_self]
    simpa using he
/-- A list that begins: the first element. -/
theorem sub_app0 (h : ∀ a, sub k hp m (enc a) (enc a)) {x : α} {e : Nat → SV} (he : e 0 = enc x) {n : Nat} (hn : n = 1) : ∀ j, j < n → SubC k (sub k hp m) (e j) (lc enc d [x] j) := by
  intro j hj
  have : j = 0 := by omega
  subst this
  rw [he]
  exact Or.inl (h _)
theorem sub_rn0 {r : List (Nat × Nat)} {L M : List (List UInt8)} (h : L = M) {n : Nat} : ∀ j, j < n → SubC k (sub k hp (m + 3)) (rnS r (lc strN [] L (0 + j))) (lc strN [] M j) := by
  intro j _
  rw [h, Nat.zero_add]
  exact Or.inl ⟨rfl, trivial⟩
theorem sub_leq {L M : List (List UInt8)} (h : L = M) {n : Nat} : ∀ j, j < n → SubC k (sub k hp (m + 3)) (lc strN [] L j) (lc strN [] M j) := by
  intro j _
  rw [h]
  exact Or.inl ⟨rfl, trivial⟩
theorem len_app {l : List α} {x : α} : l.length + 1 = (l ++ [x]).length := by simp
end
/-! Entries of maps -/
theorem same_ent2 {V : Type} {l : List (MKey × V × Nat)} {p : SV → SV → Prop} {ev ev' : V → SV} (h : ∀ v, p (ev v) (ev' v)) :
    ∀ (i : Nat) (x y : MKey × V × Nat), l[i]? = some x → l[i]? = some y → x.1 = y.1 ∧ x.2.2 = y.2.2 ∧ p (ev x.2.1) (ev' y.2.1) := by
  intro i x y h1 h2
  cases Option.some.inj (h1.symm.trans h2)
  exact ⟨rfl, rfl, h _⟩
theorem ent_nil {V V' : Type} {l' : List (MKey × V' × Nat)} {Q : (MKey × V × Nat) → (MKey × V' × Nat) → Prop} : ∀ (i : Nat) (x : MKey × V × Nat) (y : MKey × V' × Nat), ([] : List (MKey × V × Nat))[i]? = some x → l'[i]? = some y → Q x y := by
  intro i x y h
  simp at h
theorem mget_none {V : Type} {k : MKey} : ∀ {l : List (MKey × V × Nat)}, mget l k = none ↔ k ∉ l.map (·.1) := by
  intro l
  induction l with
  | nil => simp [mget]
  | cons x r ih =>
    simp only [mget, List.map_cons, List.mem_cons, not_or]
    by_cases h : x.1 = k
    · simp [h]
    · rw [if_neg h, ih]
      exact ⟨fun e => ⟨fun e' => h e'.symm, e⟩, fun e => e.2⟩
theorem mget_new {V : Type} {k : MKey} {v : V} {t : Nat} : ∀ {l : List (MKey × V × Nat)}, mget l k = none → mget (l ++ [(k, v, t)]) k = some (v, t) := by
  intro l
  induction l with
  | nil => intro _; simp [mget]
  | cons x r ih =>
    intro h
    simp only [mget, List.cons_append] at h ⊢
    by_cases e : x.1 = k
    · simp [e] at h
    · rw [if_neg e] at h ⊢
      exact ih h
theorem mget_mem {V : Type} {k : MKey} {v : V} {t : Nat} : ∀ {l : List (MKey × V × Nat)}, mget l k = some (v, t) → (k, v, t) ∈ l := by
  intro l
  induction l with
  | nil => intro h; cases h
  | cons x r ih =>
    intro h
    simp only [mget] at h
    by_cases e : x.1 = k
    · rw [if_pos e] at h
      obtain ⟨a, b, c⟩ := x
      have h' := Option.some.inj h
      have e' : a = k := e
      simp only [Prod.mk.injEq] at h'
      rw [← e', ← h'.1, ← h'.2]
      exact List.mem_cons_self ..
    · rw [if_neg e] at h
      exact List.mem_cons_of_mem _ (ih h)
theorem nodup_tick {V : Type} {l : List (MKey × V × Nat)} (hn : (l.map (·.2.2)).Nodup) {a b : MKey × V × Nat} (ha : a ∈ l) (hb : b ∈ l) (e : a.2.2 = b.2.2) : a = b := by
  induction l with
  | nil => cases ha
  | cons z t ih =>
    simp only [List.map_cons, List.nodup_cons] at hn
    rcases List.mem_cons.1 ha with a1 | a1
    · rcases List.mem_cons.1 hb with b1 | b1
      · rw [a1, b1]
      · subst a1; exact (hn.1 (List.mem_map.2 ⟨b, b1, e.symm⟩)).elim
    · rcases List.mem_cons.1 hb with b1 | b1
      · subst b1; exact (hn.1 (List.mem_map.2 ⟨a, a1, e⟩)).elim
      · exact ih hn.2 a1 b1
/-- How many entries are not seen. -/
def left {V : Type} (il : List (MKey × V × Nat)) (seen : List Nat) : Nat := (il.filter fun y => !memN seen y.2.2).length
theorem left_step {V : Type} {il : List (MKey × V × Nat)} {seen : List Nat} {y : MKey × V × Nat} (hy : y ∈ il) (hs : y.2.2 ∉ seen) : left il (seen ++ [y.2.2]) < left il seen := by
  unfold left
  have hm : ∀ z : MKey × V × Nat, memN (seen ++ [y.2.2]) z.2.2 = (memN seen z.2.2 || decide (z.2.2 = y.2.2)) := by
    intro z
    rw [Bool.eq_iff_iff, Bool.or_eq_true, memN_iff, memN_iff, decide_eq_true_eq, List.mem_append, List.mem_singleton]
  have hsub : (il.filter fun z => !memN (seen ++ [y.2.2]) z.2.2) = (il.filter fun z => !memN seen z.2.2).filter fun z => !decide (z.2.2 = y.2.2) := by
    rw [List.filter_filter]
    congr 1
    funext z
    rw [hm z]
    cases memN seen z.2.2 <;> cases decide (z.2.2 = y.2.2) <;> rfl
  rw [hsub]
  have hyl : y ∈ il.filter fun z => !memN seen z.2.2 := by
    refine List.mem_filter.2 ⟨hy, ?_⟩
    cases h : memN seen y.2.2 with
    | true => exact absurd (memN_iff.1 h) hs
    | false => rfl
  refine Nat.lt_of_le_of_ne (List.length_filter_le _ _) fun e => ?_
  have := List.length_filter_eq_length_iff.1 e y hyl
  simp at this
theorem no_tf {b : Bool} {P : Prop} (h : b = false) (h2 : b = true) : P := by rw [h] at h2; cases h2
end A0
