/- A part of the proof: see the last text. -/
import Derived.Test.YtjfjbkgkafgofaaR15
open Go Go.Eng Go.Proofs R2 R3 R4 R1 R5 R6 R7 R8 R9 R10 R10b R12 R13 R14 R15
set_option maxRecDepth 100000
namespace R16
/-! Plain laws: adding and removing, in both indexes. -/
def codeM (D : List En) (e : En) : Int := if isNameB e.1 = true ∧ onB e.2 = true then (if e.1 ∈ D.map (·.1) then 8 else if 20000 ≤ D.length then 22 else 0) else 1
def putM (D : List En) (e : En) : List En := if codeM D e = 0 then D ++ [e] else D
def codeD (D : List En) (s : List UInt8) : Int := if s ∈ D.map (·.1) then 0 else 10
def dropM (D : List En) (s : List UInt8) : List En := D.eraseP fun e => decide (e.1 = s)
theorem ok_word {i : Nat} {c : UInt8} : okC (i + 1) c = wordB (c.toNat : Int) := by
  unfold okC wordB letterB digitB
  rw [Bool.eq_iff_iff]
  simp only [Bool.not_eq_true', Bool.and_eq_false_iff, Bool.not_eq_false', Bool.or_eq_true, Bool.and_eq_true, Bool.or_eq_false_iff, decide_eq_true_eq, decide_eq_false_iff_not]
  omega
theorem ok_letter {c : UInt8} : okC 0 c = letterB (c.toNat : Int) := by
  unfold okC letterB
  rw [Bool.eq_iff_iff]
  simp only [Bool.not_eq_true', Bool.and_eq_false_iff, Bool.not_eq_false', Bool.or_eq_true, Bool.and_eq_true, Bool.or_eq_false_iff, decide_eq_true_eq, decide_eq_false_iff_not]
  omega
theorem letter_word {c : Int} (h : letterB c = true) : wordB c = true := by
  unfold wordB
  rw [h]
  rfl
theorem name_eq (s : List UInt8) : nameB s = isNameB s := by
  unfold nameB isNameB
  rw [Bool.eq_iff_iff]
  simp only [Bool.and_eq_true, decide_eq_true_eq, Bool.not_eq_true', decide_eq_false_iff_not]
  constructor
  · rintro ⟨h1, ⟨h2, h3⟩, h4⟩
    refine ⟨fun i hi => ?_, ?_, h3⟩
    · cases i with
      | zero => rw [ok_letter]; exact h4
      | succ i => rw [ok_word]; exact h1 _ hi
    · rintro rfl
      simp at h2
  · rintro ⟨h1, h2, h3⟩
    have h0 : 0 < s.length := by
      cases s with
      | nil => exact absurd rfl h2
      | cons a t => simp
    have h4 := h1 0 h0
    rw [ok_letter] at h4
    refine ⟨fun i hi => ?_, ⟨by omega, h3⟩, h4⟩
    cases i with
    | zero => exact letter_word h4
    | succ i => rw [← ok_word (i := i)]; exact h1 _ hi
theorem mset_last {V : Type} {l : List (MKey × V × Nat)} {k : MKey} {v v' : V} {t : Nat} (h : ∀ x ∈ l, x.2.2 ≠ t) : mset (l ++ [(k, v, t)]) t v' = l ++ [(k, v', t)] := by
  induction l with
  | nil => simp [mset]
  | cons a r ih =>
    have h0 := h a (List.mem_cons_self ..)
    simp only [List.cons_append, mset]
    rw [if_neg h0, ih fun x hx => h x (List.mem_cons_of_mem _ hx)]
theorem key_of {g : G} (hg : GOk g) {x : DE} (hx : x ∈ g.d) : x.1 = .s (keyS x.1) := by
  obtain ⟨s, hs⟩ := (hg.dv x hx).1
  rw [hs]
  rfl
theorem mem_keys {g : G} (hg : GOk g) (s : List UInt8) : s ∈ (DG g).map (·.1) ↔ (MKey.s s) ∈ g.d.map (·.1) := by
  unfold DG
  rw [List.map_map, List.mem_map, List.mem_map]
  constructor
  · rintro ⟨x, hx, e⟩
    refine ⟨x, hx, ?_⟩
    rw [key_of hg hx]
    exact congrArg _ e
  · rintro ⟨x, hx, e⟩
    refine ⟨x, hx, ?_⟩
    show keyS x.1 = s
    rw [e]
    rfl
theorem DG_len (g : G) : (DG g).length = g.d.length := by unfold DG; rw [List.length_map]
theorem put_M {g : G} (hg : GOk g) (a : Adr) : (putG g a).1 = codeM (DG g) (DA a) ∧ DG (putG g a).2 = putM (DG g) (DA a) := by
  unfold putM codeM putG
  by_cases hv : isNameB a.door = true ∧ onB a.p = true
  · rw [if_pos hv, if_pos (show isNameB (DA a).1 = true ∧ onB (DA a).2 = true from hv)]
    cases hm : mget g.d (.s a.door) with
    | some y =>
      have hin : (DA a).1 ∈ (DG g).map (·.1) := by
        rw [mem_keys hg]
        refine Classical.byContradiction fun hn => ?_
        have hn2 := mget_none.2 (show MKey.s a.door ∉ g.d.map (·.1) from hn)
        rw [hn2] at hm
        cases hm
      rw [if_pos hin]
      exact ⟨rfl, rfl⟩
    | none =>
      have hin : ¬ (DA a).1 ∈ (DG g).map (·.1) := by
        rw [mem_keys hg]
        exact mget_none.1 hm
      rw [if_neg hin, DG_len]
      dsimp only
      by_cases h2 : 20000 ≤ g.d.length
      · rw [if_pos h2, if_pos h2]
        exact ⟨rfl, rfl⟩
      · rw [if_neg h2, if_neg h2]
        refine ⟨rfl, ?_⟩
        have hw : (withCell g a.p).d = g.d ∧ (withCell g a.p).dc = g.dc := by
          unfold withCell
          split <;> exact ⟨rfl, rfl⟩
        rw [if_pos rfl]
        unfold DG
        dsimp only
        rw [hw.1, hw.2, mset_last (fun x hx => by have := hg.dt x hx; omega), List.map_append]
        rfl
  · rw [if_neg hv, if_neg (show ¬ (isNameB (DA a).1 = true ∧ onB (DA a).2 = true) from hv)]
    exact ⟨rfl, rfl⟩
theorem there_mem {l : List Adr} {s : List UInt8} : there l s ↔ s ∈ (l.map DA).map (·.1) := by
  rw [List.map_map, List.mem_map]
  constructor
  · rintro ⟨j, hj, e⟩
    refine ⟨l[j], List.getElem_mem hj, ?_⟩
    rw [List.getD_eq_getElem?_getD, List.getElem?_eq_getElem hj] at e
    exact e
  · rintro ⟨a, ha, e⟩
    obtain ⟨j, hj, rfl⟩ := List.getElem_of_mem ha
    refine ⟨j, hj, ?_⟩
    rw [List.getD_eq_getElem?_getD, List.getElem?_eq_getElem hj]
    exact e
theorem putL_M (l : List Adr) (a : Adr) : (R12.putL l a).1 = codeM (l.map DA) (DA a) ∧ (R12.putL l a).2.map DA = putM (l.map DA) (DA a) := by
  unfold putM codeM R12.putL
  rw [name_eq]
  by_cases hv : isNameB a.door = true ∧ onB a.p = true
  · rw [if_pos hv, if_pos (show isNameB (DA a).1 = true ∧ onB (DA a).2 = true from hv)]
    by_cases h1 : there l a.door
    · rw [if_pos h1, if_pos (show (DA a).1 ∈ (l.map DA).map (·.1) from there_mem.1 h1)]
      exact ⟨rfl, rfl⟩
    · rw [if_neg h1, if_neg (show ¬ (DA a).1 ∈ (l.map DA).map (·.1) from fun h => h1 (there_mem.2 h)), List.length_map]
      by_cases h2 : 20000 ≤ l.length
      · rw [if_pos h2, if_pos h2]
        exact ⟨rfl, rfl⟩
      · rw [if_neg h2, if_neg h2]
        exact ⟨rfl, by rw [if_pos rfl, List.map_append]; rfl⟩
  · rw [if_neg hv, if_neg (show ¬ (isNameB (DA a).1 = true ∧ onB (DA a).2 = true) from hv)]
    exact ⟨rfl, rfl⟩
theorem mdel_map {V : Type} {f : MKey × V × Nat → En} {s : List UInt8} : ∀ {l : List (MKey × V × Nat)}, (∀ x ∈ l, x.1 = .s (f x).1) → (mdel l (.s s)).map f = (l.map f).eraseP fun e => decide (e.1 = s) := by
  intro l
  induction l with
  | nil => intro _; rfl
  | cons a r ih =>
    intro h
    have h0 := h a (List.mem_cons_self ..)
    simp only [mdel, List.map_cons, List.eraseP_cons]
    by_cases e : (f a).1 = s
    · rw [if_pos (by rw [h0, e]), decide_eq_true e]
      rfl
    · rw [if_neg (by rw [h0]; intro h2; injection h2 with h2; exact e h2), decide_eq_false e]
      rw [List.map_cons, ih fun x hx => h x (List.mem_cons_of_mem _ hx)]
      rfl
theorem drop_M {g : G} (hg : GOk g) (s : List UInt8) : (dropG g s).1 = codeD (DG g) s ∧ DG (dropG g s).2 = dropM (DG g) s := by
  unfold dropG codeD
  cases hm : mget g.d (.s s) with
  | none =>
    have hin : ¬ s ∈ (DG g).map (·.1) := by
      rw [mem_keys hg]
      exact mget_none.1 hm
    rw [if_neg hin]
    refine ⟨rfl, ?_⟩
    unfold dropM
    rw [List.eraseP_of_forall_not]
    intro e he h
    exact hin (List.mem_map.2 ⟨e, he, of_decide_eq_true h⟩)
  | some y =>
    obtain ⟨p, t⟩ := y
    have hin : s ∈ (DG g).map (·.1) := by
      rw [mem_keys hg]
      refine Classical.byContradiction fun hn => ?_
      rw [mget_none.2 hn] at hm
      cases hm
    rw [if_pos hin]
    exact ⟨rfl, mdel_map (f := fun x => (keyS x.1, x.2.1)) fun x hx => key_of hg hx⟩
theorem dropL_M (l : List Adr) (s : List UInt8) : (R13.dropL l s).1 = codeD (l.map DA) s ∧ (R13.dropL l s).2.map DA = dropM (l.map DA) s := by
  unfold R13.dropL codeD dropM
  by_cases h1 : there l s
  · rw [if_pos h1, if_pos (there_mem.1 h1)]
    refine ⟨rfl, ?_⟩
    rw [List.eraseP_map]
    rfl
  · rw [if_neg h1, if_neg fun h => h1 (there_mem.2 h)]
    refine ⟨rfl, ?_⟩
    rw [List.eraseP_of_forall_not]
    intro e he h
    exact h1 (there_mem.2 (List.mem_map.2 ⟨e, he, of_decide_eq_true h⟩))
/-- The addresses behind the first i. -/
def putMN (a : Nat → En) : Nat → List En
  | 0 => []
  | i + 1 => putM (putMN a i) (a i)
theorem putN_M (a : Nat → Adr) : ∀ i, DG (putN a i) = putMN (fun j => DA (a j)) i := by
  intro i
  induction i with
  | zero => rfl
  | succ i ih =>
    show DG (putG (putN a i) (a i)).2 = putM (putMN (fun j => DA (a j)) i) (DA (a i))
    rw [(put_M (putN_ok a i) (a i)).2, ih]
theorem putLN_M (a : Nat → Adr) : ∀ i, (putLN a i).map DA = putMN (fun j => DA (a j)) i := by
  intro i
  induction i with
  | zero => rfl
  | succ i ih =>
    show (R12.putL (putLN a i) (a i)).2.map DA = putM (putMN (fun j => DA (a j)) i) (DA (a i))
    rw [(putL_M (putLN a i) (a i)).2, ih]
theorem codeN_M (a : Nat → Adr) (i : Nat) : codeN a i = codeM (putMN (fun j => DA (a j)) i) (DA (a i)) := by
  unfold codeN
  rw [(put_M (putN_ok a i) (a i)).1, putN_M]
theorem codeLN_M (a : Nat → Adr) (i : Nat) : codeLN a i = codeM (putMN (fun j => DA (a j)) i) (DA (a i)) := by
  unfold codeLN
  rw [(putL_M (putLN a i) (a i)).1, putLN_M]
/-- Where all were added, they are there. -/
theorem putMN_all {a : Nat → En} : ∀ {n : Nat}, (∀ j, j < n → codeM (putMN a j) (a j) = 0) → putMN a n = (List.range n).map a := by
  intro n
  induction n with
  | zero => intro _; rfl
  | succ n ih =>
    intro h
    show putM (putMN a n) (a n) = _
    unfold putM
    rw [if_pos (h n (Nat.lt_succ_self n)), ih fun j hj => h j (Nat.lt_succ_of_lt hj), List.range_succ, List.map_append]
    rfl
end R16
