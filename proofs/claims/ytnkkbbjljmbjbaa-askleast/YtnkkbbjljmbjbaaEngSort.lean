/- The engine, part 15: slices.Sort of texts (the shelf's contract) as a contract of the engine's. -/
import Derived.Test.YtnkkbbjljmbjbaaEngN
import Derived.Shelf.SortM.Plain
import Derived.Shelf.SortM.SortNone
import Derived.Sort.OwnSorted
namespace Go.Eng
open Go Go.RowKit Go.Proofs Go.Shelf Go.Sort

/-- The i-th text of a list, as a cell. -/
def strC (l : List (List UInt8)) (i : Nat) : SV := .cons (.str (l.getD i [])) .nil
def sortedS (l : List (List UInt8)) : List (List UInt8) := l.mergeSort fun x y => decide (x ≤ y)

def sortS (T : Nat) : MSpec where
  X := List (List UInt8)
  Y := Unit
  args := fun l => .cons (.lsl 0 1 l.length) .nil
  pre := fun l => l.length < 4611686018427387904
  h0 := fun l => [(0, .arr T 1 l.length (strC l))]
  nx0 := 1
  post := fun _ _ => True
  res := fun _ _ => .val (.tuple #[])
  h1 := fun l _ => [(0, .arr T 1 (sortedS l).length (strC (sortedS l)))]
  nx1 := 1

theorem hget_one {id : Nat} {o o' : HObj} {n : Nat} (_hid : id < FB) (hs : solid? o = some o) (h : hget [(id, o)] n = some o') : n = id ∧ o' = o := by
  unfold hget at h
  split at h
  · rw [get?_cons] at h
    split at h
    · rename_i e
      simp only [Option.bind_some, hs, Option.some.injEq] at h
      exact ⟨e.symm, h.symm⟩
    · cases h
  · split at h
    · rename_i f hf
      rw [get?_cons] at hf
      split at hf
      · cases hf
        cases hs
      · cases hf
    · cases h

theorem hget_ghosts {T k : Nat} {enc : Nat → SV} (n : Nat) : hget [(0, .arr T k 0 enc)] n = none := by
  rw [hget_ghost solid_arr0 (fun f e => by cases e) rfl]
  exact hget_nil n
/-- What does not change may be less. -/
theorem HepAt.reU {w : World} {T U U' : Nat → Prop} {μ pin : Nat → Option (Nat × Nat)} {np : Nat} {hp : List (Nat × HObj)} {nx : Nat} {w' : World} (h : HepAt (callCtx w T U pin np) μ hp nx w') (hv : ∀ n, hget hp n = none) : HepAt (callCtx w T U' pin np) μ hp nx w' where
  obj := ⟨h.obj.keys, fun id o e => by rw [hv] at e; cases e⟩
  inj := fun id id' o o' b c c' e => by rw [hv] at e; cases e
  mine := fun id o b c e => by rw [hv] at e; cases e
  keys := h.keys
  nx := h.nx
  fam := h.fam
  pin := h.pin
  frm := h.frm
theorem R_strC {E : Env} {l : List (List UInt8)} {i : Nat} {vs : List Value} : R E (strC l i) vs ↔ vs = [encStr (l.getD i [])] := by
  simp only [strC, R]
  constructor
  · rintro ⟨x, xs, rfl, h1, rfl⟩
    rw [List.singleton_inj.1 h1]
  · rintro rfl
    exact ⟨_, [], rfl, rfl, rfl⟩

section
variable {P : Program} {ρ : Ren}

/-- slices.Sort, of texts. -/
theorem sort_ok (L : SlLaysM.n6 P ρ) (T : Nat) (ef : ∀ args w, (callFunc (ρ.f 6) args).run P w = .ok (.enter (ρ.f 6) args) w) : (sortS T).Ok P (ρ.f 6) := by
  refine ⟨ef, ?_⟩
  intro l w μ vs T0 U hU hh hpre hRa
  have hlen : l.length < 4611686018427387904 := hpre
  obtain ⟨v1, r1, rfl, q1, q2⟩ := (show ∃ v r, vs = v :: r ∧ R (envOf (callCtx w T0 U μ 1) μ [(0, .arr T 1 l.length (strC l))] w) (.lsl 0 1 l.length) [v] ∧ R (envOf (callCtx w T0 U μ 1) μ [(0, .arr T 1 l.length (strC l))] w) .nil r by simpa only [sortS, R] using hRa)
  have e2 : r1 = [] := by simpa only [R] using q2
  subst e2
  cases l with
  | nil =>
    obtain ⟨a0, e1⟩ : ∃ a0, v1 = .slice a0 0 0 := by
      simp only [R] at q1
      rcases q1 with ⟨_, a0, h⟩ | ⟨h, _⟩
      · exact ⟨a0, List.singleton_inj.1 h⟩
      · simp at h
    subst e1
    refine (AnyM.slices_Sort_string_none L a0 0 w).mono ?_
    rintro e w' ⟨rfl, rfl⟩
    refine ⟨(), μ, trivial, ?_, by simp only [sortS, R]⟩
    have e0 : sortedS [] = [] := by simp [sortedS]
    show HepAt (callCtx w' T0 _ μ 1) μ [(0, .arr T 1 (sortedS []).length (strC (sortedS [])))] 1 w'
    rw [e0]
    exact HepAt.reU (hp := [(0, .arr T 1 0 (strC []))]) hh (fun n => hget_ghosts n)
  | cons a l0 =>
    generalize hl : a :: l0 = l at *
    have hpos : 0 < l.length := by rw [← hl]; simp
    have hh0 : HepAt (callCtx w T0 U μ 1) μ [(0, .arr T 1 l.length (strC l))] 1 w := hh
    have fb : (0 : Nat) < FB := by decide
    have hg0 : hget [(0, HObj.arr T 1 l.length (strC l))] 0 = some (.arr T 1 l.length (strC l)) := by
      rw [hget_low fb]; exact solid_arr hpos
    obtain ⟨b, c, x, m1, hb, hx⟩ := hh0.obj.obj 0 _ hg0
    have m1' : μ 0 = some (b, c) := m1
    have hb' : w.heap[b]? = some x := hb
    obtain ⟨cs, rfl, hcl, hlc, hel⟩ := hx
    simp only [R] at q1
    rcases q1 with ⟨e, _⟩ | ⟨_, b2, c2, m2, hv, hle⟩
    · omega
    have m2' : μ 0 = some (b2, c2) := m2
    rw [m1'] at m2'
    obtain ⟨rfl, rfl⟩ : b = b2 ∧ c = c2 := by simpa using m2'
    have hv1 : v1 = .slice (some ⟨b, 0, none⟩) l.length c := by simpa using hv
    subst hv1
    have cellsAt : ∀ i, i < l.length → cs[i]? = some (encStr (l.getD i [])) := by
      intro i hi
      obtain ⟨xs, r1, _, r3⟩ := hel i hi
      rw [R_strC] at r1
      subst r1
      have := r3 0 _ rfl
      simpa using this
    have hH : Go.Sort.Holds encStr w b 0 l.toArray := by
      intro j hj
      have hj' : j < l.length := by simpa using hj
      have hc := cellsAt j hj'
      refine ⟨?_, by simp [World.frozen?, hb']⟩
      rw [getElem!_pos l.toArray j hj]
      simp only [World.cell?, hb', Option.isSome_none, Bool.false_eq_true, if_false, Nat.zero_add]
      rw [List.getD_eq_getElem?_getD, List.getElem?_eq_getElem hj'] at hc
      simpa using hc
    have hblk : b < w.heap.size := (Array.getElem?_eq_some_iff.1 hb').1
    have main := AnyM.slices_Sort_string L b 0 c l w hH hblk hlen
    refine main.mono ?_
    rintro e w' ⟨rfl, q, os, rfl⟩
    have hyl : (sortedS l).length = l.length := by simp [sortedS]
    have hypos : 0 < (sortedS l).length := by omega
    refine ⟨(), μ, trivial, ?_, by simp only [sortS, R]⟩
    show HepAt (callCtx w T0 _ μ 1) μ [(0, .arr T 1 (sortedS l).length (strC (sortedS l)))] 1 _
    generalize hW : grow (putRow encStr (Sort.ahead w q) b 0 (l.mergeSort fun x y => decide (x ≤ y)).toArray) os = W
    have hheap : W.heap[b]? = some (.cells (putCells encStr 0 (sortedS l).toArray cs.toArray) T (0, 0)) := by
      rw [← hW, heap_grow_old _ _ (by simpa [putRow, mapBlock, Sort.ahead] using hblk)]
      simp [putRow, mapBlock, Sort.ahead, Array.getElem?_modify, hb', onCells, sortedS]
    have hother : ∀ i, i ≠ b → i < w.heap.size → W.heap[i]? = w.heap[i]? := by
      intro i hi hlt
      rw [← hW, heap_grow_old _ _ (by simpa [putRow, mapBlock, Sort.ahead] using hlt)]
      simp [putRow, mapBlock, Sort.ahead, Array.getElem?_modify, Ne.symm hi]
    have hsz : w.heap.size ≤ W.heap.size := by
      rw [← hW, size_grow]
      simp [putRow, mapBlock, Sort.ahead]
    have hg1 : hget [(0, HObj.arr T 1 (sortedS l).length (strC (sortedS l)))] 0 = some (.arr T 1 (sortedS l).length (strC (sortedS l))) := by
      rw [hget_low fb]; exact solid_arr hypos
    refine ⟨⟨?_, ?_⟩, ?_, ?_, ?_, hh0.nx, ?_, hh0.pin, ?_⟩
    · intro i o e
      rw [get?_cons] at e
      split at e
      · rename_i h; rw [← h]; exact fb
      · cases e
    · intro i o e
      obtain ⟨rfl, rfl⟩ := hget_one fb (solid_arr hypos) e
      refine ⟨b, c, _, m1', hheap, ?_⟩
      refine ⟨(putCells encStr 0 (sortedS l).toArray cs.toArray).toList, by simp, by simp [putCells, hcl], by omega, ?_⟩
      intro i hi
      refine ⟨_, R_strC.2 rfl, rfl, ?_⟩
      intro j v hv
      have hj : j = 0 := by
        have := (List.getElem?_eq_some_iff.1 hv).1
        simpa using this
      subst hj
      have hv' : v = encStr ((sortedS l).getD i []) := by simpa using hv.symm
      have hlc' : i < cs.length := by omega
      simp only [putCells, Array.toList_mapIdx, List.getElem?_mapIdx, Nat.mul_one, Nat.add_zero, List.getElem?_eq_getElem hlc', Option.map_some, Nat.zero_le, true_and, Nat.zero_add, List.size_toArray, hi, if_true, Nat.sub_zero]
      rw [hv']
      congr 2
      rw [List.getD_eq_getElem?_getD, List.getElem?_eq_getElem hi, getElem!_pos (sortedS l).toArray i (by simpa using hi)]
      simp
    · intro i i' o o' b0 c0 c0' e e' _ _
      obtain ⟨rfl, _⟩ := hget_one fb (solid_arr hypos) e
      obtain ⟨rfl, _⟩ := hget_one fb (solid_arr hypos) e'
      rfl
    · intro i o b0 c0 e em
      obtain ⟨rfl, _⟩ := hget_one fb (solid_arr hypos) e
      exact hh0.mine 0 _ b0 c0 hg0 em
    · intro i o e
      rw [get?_cons] at e
      split at e
      · rename_i h; rw [← h]; exact Nat.zero_lt_one
      · cases e
    · intro i p e hge
      obtain ⟨o, ho⟩ := hh0.fam i p e hge
      obtain ⟨rfl, _⟩ := hget_one fb (solid_arr hpos) ho
      omega
    · refine ⟨?_, ?_, ?_, hsz, ?_, ?_⟩
      · rw [← hW]; rfl
      · rw [← hW]; rfl
      · rw [← hW]; rfl
      · intro i hi hT
        refine hother i ?_ hi
        rintro rfl
        rcases hh0.mine 0 _ i c hg0 m1' with h | h
        · exact hT h
        · have : w.heap.size ≤ i := h
          omega
      · rw [← hW]
        show w.drawn ≤ w.drawn + q
        omega
end
end Go.Eng
