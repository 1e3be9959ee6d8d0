/- The engine, part 15: slices.SortFunc (the shelf's contract) as a contract of the engine's. -/
import Derived.Test.YtcckdpimimkejaaEngN
import Derived.Shelf.SlSortCmp.NoneTotal
namespace Go.Eng
open Go Go.RowKit Go.Proofs Go.Shelf Go.Sort

theorem below_grow {w w' : World} (h : Eng.Below w.heap.size w w') : ∃ q os, w' = grow (w.drewN q) os := by
  refine ⟨w'.drawn - w.drawn, w'.heap.extract w.heap.size w'.heap.size, ?_⟩
  obtain ⟨hp, tp, dr, os, out⟩ := w'
  have e1 : os = w.os := h.os
  have e2 : tp = w.tape := h.tape
  have e3 : out = w.output := h.output
  have e4 : w.drawn ≤ dr := h.drawn
  have e5 : w.heap.size ≤ hp.size := h.size
  have e6 : ∀ k, k < w.heap.size → hp[k]? = w.heap[k]? := h.block
  subst e1 e2 e3
  simp only [grow, World.drewN, World.mk.injEq, true_and, and_true]
  refine ⟨?_, by omega⟩
  apply Array.ext_getElem?
  intro i
  by_cases hi : i < w.heap.size
  · rw [Array.getElem?_append_left hi]
    exact e6 i hi
  · rw [Array.getElem?_append_right (by omega), Array.getElem?_extract]
    split
    · congr 1; omega
    · rw [Array.getElem?_eq_none (by omega)]

/-- The i-th element of a list. -/
def atL {α : Type} (enc : α → SV) (l : List α) (i : Nat) : SV := match l[i]? with
  | some x => enc x
  | none => .junk

def sortS (T k : Nat) {α β : Type} (enc : α → SV) (dom : β → α → Prop) (cf : β → α → α → Int) (g : Nat) (caps : β → SV) : MSpec where
  X := β × List α
  Y := List α
  args := fun x => .cons (.lsl 0 k x.2.length) (.cons (.fn g (caps x.1)) .nil)
  pre := fun x => x.2.length < 4611686018427387904 ∧ ∀ y ∈ x.2, dom x.1 y
  h0 := fun x => [(0, .arr T k x.2.length (atL enc x.2))]
  nx0 := 1
  post := fun x y => y.Perm x.2 ∧ y.Pairwise (fun a b => ltOf (cf x.1) b a = false)
  res := fun _ _ => .val (.tuple #[])
  h1 := fun _ y => [(0, .arr T k y.length (atL enc y))]
  nx1 := 1

theorem hget_one {id : Nat} {o o' : HObj} {n : Nat} (_hid : id < FB) (hs : solid? o = some o) (h : hget [(id, o)] n = some o') : n = id ∧ o' = o := by
  unfold hget at h
  split at h
  · rw [get?_cons] at h
    split at h
    · rename_i e
      simp only [Option.bind_some, hs, Option.some.injEq] at h
      exact ⟨e.symm, h.symm⟩
    · cases h
  · split at h
    · rename_i f hf
      rw [get?_cons] at hf
      split at hf
      · cases hf
        cases hs
      · cases hf
    · cases h

theorem divmod_lt {k n t : Nat} (h : t < n * k) : t / k < n ∧ t % k < k ∧ t = t / k * k + t % k := by
  have hk : 0 < k := by rcases Nat.eq_zero_or_pos k with e | e; · subst e; simp at h
                        · exact e
  refine ⟨(Nat.div_lt_iff_lt_mul hk).2 h, Nat.mod_lt _ hk, ?_⟩
  have := Nat.div_add_mod t k
  rw [Nat.mul_comm] at this
  exact this.symm

theorem hget_ghosts {T k : Nat} {enc : Nat → SV} (n : Nat) : hget [(0, .arr T k 0 enc)] n = none := by
  rw [hget_ghost solid_arr0 (fun f e => by cases e) rfl]
  exact hget_nil n
/-- What does not change may be less. -/
theorem HepAt.reU {w : World} {T U U' : Nat → Prop} {μ pin : Nat → Option (Nat × Nat)} {np : Nat} {hp : List (Nat × HObj)} {nx : Nat} {w' : World} (h : HepAt (callCtx w T U pin np) μ hp nx w') (hv : ∀ n, hget hp n = none) : HepAt (callCtx w T U' pin np) μ hp nx w' where
  obj := ⟨h.obj.keys, fun id o e => by rw [hv] at e; cases e⟩
  inj := fun id id' o o' b c c' e => by rw [hv] at e; cases e
  mine := fun id o b c e => by rw [hv] at e; cases e
  keys := h.keys
  nx := h.nx
  fam := h.fam
  pin := h.pin
  frm := h.frm

section
variable {P : Program} {ρ : Ren} {α β : Type}

/-- slices.SortFunc, of a closure that captures what does not change, over elements without pointers. -/
theorem sort_ok (L : SlLaysF0.n6 P ρ) {T k : Nat} (hk0 : 0 < k) (aE : ∀ w, (isAgg (ρ.t 24)).run P w = .ok true w) (zE : ∀ w, (Go.sizeOf (ρ.t 24)).run P w = .ok k w)
    (enc : α → SV) (encV : α → List Value) (hR : ∀ E x vs, R E (enc x) vs ↔ vs = encV x) (hk : ∀ x, (encV x).length = k) (h1 : ∀ x, ∀ v ∈ encV x, v.oneCell' = true)
    (dom : β → α → Prop) (cf : β → α → α → Int) (hO : ∀ z, SWO (ltOf fun x y : { a // dom z a } => cf z x.1 y.1)) (g : Nat) (hgm : Nat.blt g FM = true) (caps : β → SV)
    (hcap : ∀ (E E' : Env) (z : β) (cs : List Value), (∀ i, E.U i → E'.U i) → (∀ i, E.U i → E'.w.heap[i]? = E.w.heap[i]?) → R E (caps z) cs → R E' (caps z) cs)
    (eg : ∀ args w, (callFunc g args).run P w = .ok (.enter g args) w) (ef : ∀ args w, (callFunc (ρ.f 6) args).run P w = .ok (.enter (ρ.f 6) args) w)
    (hcmp : ∀ z x y w cs (U : Nat → Prop), (∀ b, U b → b < w.heap.size ∧ Plain w b) → R (envU U w) (caps z) cs → dom z x → dom z y → Calls P g (#[.agg (encV x).toArray, .agg (encV y).toArray] ++ cs.toArray) w fun
      | .returned v, w' => v = .int .i64 (cf z x y) ∧ Eng.Below w.heap.size w w'
      | _, _ => False) : (sortS T k enc dom cf g caps).Ok P (ρ.f 6) := by
  refine ⟨ef, ?_⟩
  rintro ⟨z, l⟩ w μ vs T0 U hU hh hpre hRa
  obtain ⟨hlen, hdom⟩ := hpre
  replace hlen : l.length < 4611686018427387904 := hlen
  replace hdom : ∀ y ∈ l, dom z y := hdom
  obtain ⟨v1, r1, rfl, q1, q2⟩ := (show ∃ v r, vs = v :: r ∧ R (envOf (callCtx w T0 U μ 1) μ [(0, .arr T k l.length (atL enc l))] w) (.lsl 0 k l.length) [v] ∧ R (envOf (callCtx w T0 U μ 1) μ [(0, .arr T k l.length (atL enc l))] w) (.cons (.fn g (caps z)) .nil) r by simpa only [sortS, R] using hRa)
  obtain ⟨ccs, e2, hRc⟩ : ∃ cs, r1 = [.func (.func g) #[] cs.toArray] ∧ R (envOf (callCtx w T0 U μ 1) μ [(0, .arr T k l.length (atL enc l))] w) (caps z) cs := by
    simp only [R] at q2
    obtain ⟨x, xs, rfl, ⟨cs, hx, hc⟩, rfl⟩ := q2
    refine ⟨cs, ?_, hc⟩
    unfold fnV at hx
    rw [hgm] at hx
    simpa using hx
  subst e2
  cases l with
  | nil =>
    obtain ⟨a0, e1⟩ : ∃ a0, v1 = .slice a0 0 0 := by
      simp only [R] at q1
      rcases q1 with ⟨_, a0, h⟩ | ⟨h, _⟩
      · exact ⟨a0, List.singleton_inj.1 h⟩
      · simp at h
    subst e1
    refine (AnyF.slices_SortFunc_none L a0 0 (.func (.func g) #[] ccs.toArray) w).mono ?_
    rintro e w' ⟨rfl, rfl⟩
    refine ⟨[], μ, ⟨List.Perm.refl _, List.Pairwise.nil⟩, ?_, by simp only [sortS, R]⟩
    exact HepAt.reU hh (fun n => hget_ghosts n)
  | cons a l0 =>
    generalize hl : a :: l0 = l at *
    have hpos : 0 < l.length := by rw [← hl]; simp
    have hh0 : HepAt (callCtx w T0 U μ 1) μ [(0, .arr T k l.length (atL enc l))] 1 w := hh
    have fb : (0 : Nat) < FB := by decide
    have hg0 : hget [(0, HObj.arr T k l.length (atL enc l))] 0 = some (.arr T k l.length (atL enc l)) := by
      rw [hget_low fb]; exact solid_arr hpos
    obtain ⟨b, c, x, m1, hb, hx⟩ := hh0.obj.obj 0 _ hg0
    have m1' : μ 0 = some (b, c) := m1
    have hb' : w.heap[b]? = some x := hb
    obtain ⟨cs, rfl, hcl, hlc, hel⟩ := hx
    simp only [R] at q1
    rcases q1 with ⟨e, _⟩ | ⟨_, b2, c2, m2, hv, hle⟩
    · omega
    have m2' : μ 0 = some (b2, c2) := m2
    rw [m1'] at m2'
    obtain ⟨rfl, rfl⟩ : b = b2 ∧ c = c2 := by simpa using m2'
    have hv1 : v1 = .slice (some ⟨b, 0, none⟩) l.length c := by simpa using hv
    subst hv1
    -- the elements
    have ha : dom z a := hdom a (by rw [← hl]; exact List.mem_cons_self ..)
    letI : Inhabited { a // dom z a } := ⟨⟨a, ha⟩⟩
    let encD : { a // dom z a } → List Value := fun x => encV x.1
    obtain ⟨d, hd⟩ : ∃ d : Array { a // dom z a }, d.toList.map (·.1) = l := by
      refine ⟨(l.attach.map fun x => (⟨x.1, hdom x.1 x.2⟩ : { a // dom z a })).toArray, ?_⟩
      simp
    have hds : d.size = l.length := by rw [← hd]; simp
    have cellsAt : ∀ i (hi : i < d.size) j v, (encV (d[i]'hi).1)[j]? = some v → cs[i * k + j]? = some v := by
      intro i hi j v hv
      obtain ⟨xs, r1, r2, r3⟩ := hel i (by rw [← hds]; exact hi)
      have hli : l[i]? = some (d[i]'hi).1 := by rw [← hd]; simp [hi]
      have : atL enc l i = enc (d[i]'hi).1 := by unfold atL; rw [hli]
      rw [this, hR] at r1
      subst r1
      exact r3 j v hv
    have hH : HoldsK encD k w b 0 d := by
      intro t ht
      rw [size_flatK] at ht
      obtain ⟨t1, t2, t3⟩ := divmod_lt ht
      have hj : (t % k) < (encV (d[t / k]'t1).1).length := by rw [hk]; exact t2
      have hc := cellsAt (t / k) t1 (t % k) _ (List.getElem?_eq_getElem hj)
      rw [← t3] at hc
      refine ⟨?_, by simp [World.frozen?, hb']⟩
      rw [get_flatK _ _ _ _ ht]
      simp only [World.cell?, hb', Option.isSome_none, Bool.false_eq_true, if_false, Nat.zero_add, id]
      rw [getElem!_pos d (t / k) t1]
      have : (encD (d[t / k]'t1))[t % k]! = (encV (d[t / k]'t1).1)[t % k]'hj := getElem!_pos (encV (d[t / k]'t1).1) (t % k) hj
      rw [this]
      simpa using hc
    have hcmp' : CmpLays P g ccs.toArray encD k (fun x y => cf z x.1 y.1) b 0 d.size w := by
      intro m os dk hdk x y
      have hold : ∀ i, (envOf (callCtx w T0 U μ 1) μ [(0, .arr T k l.length (atL enc l))] w).U i → (sortWorldK encD k w b 0 m dk os).heap[i]? = w.heap[i]? := by
        rintro i ⟨hi1, _, hi3, _⟩
        have hne : i ≠ b := fun e => hi3 0 _ c hg0 (by rw [e]; exact m1')
        unfold sortWorldK putRowK
        rw [heap_grow_old _ _ (by simpa using hi1)]
        simp [putRow, mapBlock, Sort.ahead, Array.getElem?_modify, Ne.symm hne]
      have hsize : w.heap.size ≤ (sortWorldK encD k w b 0 m dk os).heap.size := by
        unfold sortWorldK putRowK
        rw [size_grow]
        simp
      refine (hcmp z x.1 y.1 (sortWorldK encD k w b 0 m dk os) ccs (envOf (callCtx w T0 U μ 1) μ [(0, .arr T k l.length (atL enc l))] w).U ?_ ?_ x.2 y.2).mono ?_
      · intro i hi
        refine ⟨Nat.lt_of_lt_of_le hi.1 hsize, fun ds e => ?_⟩
        rw [hold i hi] at e
        exact hi.2.2.2 ds e
      · exact hcap (envOf (callCtx w T0 U μ 1) μ [(0, .arr T k l.length (atL enc l))] w) _ z ccs (fun _ h => h) hold hRc
      intro e w' he
      cases e with
      | returned v =>
        obtain ⟨rfl, hbl⟩ := he
        exact ⟨rfl, below_grow hbl⟩
      | panicked _ => exact he.elim
      | outgrown => exact he.elim
    have hblk : b < w.heap.size := (Array.getElem?_eq_some_iff.1 hb').1
    have main := AnyQ.slices_SortFunc L k aE zE encD (fun x => hk x.1) (fun x v hv => h1 x.1 v hv) (fun x y => cf z x.1 y.1) (hO z) g ccs.toArray b 0 c d w eg hcmp' hH hblk (by omega)
    rw [hds] at main
    refine main.mono ?_
    rintro e w' ⟨rfl, d', q, os, hp, hs, rfl⟩
    obtain ⟨p1, _, p3⟩ := hp
    have hd's : d'.size = l.length := p1.trans hds
    -- what it holds now
    let y : List α := d'.toList.map (·.1)
    have hyl : y.length = l.length := by simp [y, hd's]
    have ext : ∀ (a : Array { a // dom z a }), a.size = l.length → (a.extract 0 l.length) = a := by
      intro a ha; rw [← ha]; simp
    have hperm : y.Perm l := by
      rw [ext d' hd's, ext d hds] at p3
      rw [← hd]
      exact p3.map _
    have hsort : y.Pairwise (fun a b => ltOf (cf z) b a = false) := by
      rw [List.pairwise_map, List.pairwise_iff_getElem]
      intro i j hi hj hij
      have hi' : i < d'.size := by simpa using hi
      have hj' : j < d'.size := by simpa using hj
      have := hs i j (Nat.zero_le _) hij (by rw [← hd's]; exact hj')
      rw [getElem!_pos d' i hi', getElem!_pos d' j hj'] at this
      simpa [ltOf] using this
    have hypos : 0 < y.length := by omega
    refine ⟨y, μ, ⟨hperm, hsort⟩, ?_, by simp only [sortS, R]⟩
    show HepAt (callCtx w T0 _ μ 1) μ [(0, .arr T k y.length (atL enc y))] 1 _
    have hheap : (sortWorldK encD k w b 0 q d' os).heap[b]? = some (.cells (putCells id 0 (flatK encD k d') cs.toArray) T (0, 0)) := by
      unfold sortWorldK putRowK
      rw [heap_grow_old _ _ (by simpa using hblk)]
      simp [putRow, mapBlock, Sort.ahead, Array.getElem?_modify, hb', onCells]
    have hother : ∀ i, i ≠ b → i < w.heap.size → (sortWorldK encD k w b 0 q d' os).heap[i]? = w.heap[i]? := by
      intro i hi hlt
      unfold sortWorldK putRowK
      rw [heap_grow_old _ _ (by simpa using hlt)]
      simp [putRow, mapBlock, Sort.ahead, Array.getElem?_modify, Ne.symm hi]
    have hsz : w.heap.size ≤ (sortWorldK encD k w b 0 q d' os).heap.size := by
      unfold sortWorldK putRowK
      rw [size_grow]
      simp
    have hg1 : hget [(0, HObj.arr T k y.length (atL enc y))] 0 = some (.arr T k y.length (atL enc y)) := by
      rw [hget_low fb]; exact solid_arr hypos
    refine ⟨⟨?_, ?_⟩, ?_, ?_, ?_, hh0.nx, ?_, hh0.pin, ?_⟩
    · intro i o e
      rw [get?_cons] at e
      split at e
      · rename_i h; rw [← h]; exact fb
      · cases e
    · intro i o e
      obtain ⟨rfl, rfl⟩ := hget_one fb (solid_arr hypos) e
      refine ⟨b, c, _, m1', hheap, ?_⟩
      refine ⟨(putCells id 0 (flatK encD k d') cs.toArray).toList, by simp, by simp [putCells, hcl], by omega, ?_⟩
      intro i hi
      have hi' : i < d'.size := by omega
      have hyi : y[i]? = some (d'[i]'hi').1 := by simp [y, hi']
      have : atL enc y i = enc (d'[i]'hi').1 := by unfold atL; rw [hyi]
      refine ⟨encV (d'[i]'hi').1, by rw [this, hR], hk _, ?_⟩
      intro j v hv
      have hj : j < k := by
        rw [← hk (d'[i]'hi').1]
        exact (List.getElem?_eq_some_iff.1 hv).1
      have hlt : i * k + j < d'.size * k := by
        have := Nat.mul_le_mul_right k (show i + 1 ≤ d'.size from hi')
        rw [Nat.add_mul, Nat.one_mul] at this
        omega
      have hlc' : i * k + j < cs.length := by
        have : d'.size * k ≤ c * k := Nat.mul_le_mul_right k (by omega)
        omega
      have e1 : (i * k + j) / k = i := by
        rw [Nat.mul_comm, Nat.mul_add_div hk0, Nat.div_eq_of_lt hj, Nat.add_zero]
      have e2 : (i * k + j) % k = j := by
        rw [Nat.mul_comm, Nat.mul_add_mod, Nat.mod_eq_of_lt hj]
      simp only [putCells, Array.toList_mapIdx, List.getElem?_mapIdx, List.getElem?_eq_getElem hlc', Option.map_some, size_flatK, Nat.zero_le, true_and, Nat.zero_add, hlt, if_true, Nat.sub_zero, id]
      rw [get_flatK _ _ _ _ hlt, e1, e2, getElem!_pos d' i hi']
      have hj2 : j < (encD (d'[i]'hi')).length := by rw [show (encD (d'[i]'hi')).length = k from hk _]; exact hj
      rw [getElem!_pos (encD (d'[i]'hi')) j hj2]
      have h2 : (encD (d'[i]'hi'))[j]? = some v := hv
      rw [List.getElem?_eq_getElem hj2] at h2
      exact h2
    · intro i i' o o' b0 c0 c0' e e' _ _
      obtain ⟨rfl, _⟩ := hget_one fb (solid_arr hypos) e
      obtain ⟨rfl, _⟩ := hget_one fb (solid_arr hypos) e'
      rfl
    · intro i o b0 c0 e em
      obtain ⟨rfl, _⟩ := hget_one fb (solid_arr hypos) e
      exact hh0.mine 0 _ b0 c0 hg0 em
    · intro i o e
      rw [get?_cons] at e
      split at e
      · rename_i h; rw [← h]; exact Nat.zero_lt_one
      · cases e
    · intro i p e hge
      obtain ⟨o, ho⟩ := hh0.fam i p e hge
      obtain ⟨rfl, _⟩ := hget_one fb (solid_arr hpos) ho
      omega
    · refine ⟨rfl, rfl, rfl, hsz, ?_, ?_⟩
      · intro i hi hT
        refine hother i ?_ hi
        rintro rfl
        rcases hh0.mine 0 _ i c hg0 m1' with h | h
        · exact hT h
        · have : w.heap.size ≤ i := h
          omega
      · show w.drawn ≤ w.drawn + q
        omega
end
end Go.Eng
