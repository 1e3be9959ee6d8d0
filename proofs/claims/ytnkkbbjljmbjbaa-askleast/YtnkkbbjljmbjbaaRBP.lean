/- A part of the proof: see the last text. -/
import Derived.Test.YtnkkbbjljmbjbaaRBA
import Derived.Test.YtnkkbbjljmbjbaaA24
open Go Go.Eng Go.Proofs Go.WideShapes Go.RowKit Go.ChangeAt A0 A1 A7 A11 A24 RBA
set_option maxRecDepth 100000
namespace RBP
section
variable {H : Type} {enc : TypeId × Value → H} {P : Program} {W : World} {base : Nat} {sp : Nat → Bool} {held : Bool}
/-- A slice whose elements' cells read as rows with a property. -/
theorem trod_slice_of {t e : TypeId} {sz : Nat} {Q : SV → Prop} (ht : P.underlying t = some (.slice e)) (h2 : 0 < sz) (e1 : sz = P.cellsOf e) (h4 : 0 < P.bytesOf e) {n : Nat} {cs : List Value} {x : DataW H × List MemPlace}
    (hd : DataW.trod enc P W base sp held n t cs = some x) (hw0 : Light P t x.1)
    (ih : ∀ m, m < n → ∀ (cs : List Value) (y : DataW H × List MemPlace), DataW.trod enc P W base sp held m e cs = some y → Light P e y.1 → sz = cs.length ∧ ∃ l, Q l ∧ R (envU (Wall W) W) l cs) :
    1 = cs.length ∧ ∃ k enc', k ≤ reachBytes ∧ (∀ i, i < k → Q (enc' i)) ∧ R (envU (Wall W) W) (.cons (.slice sz k enc') .nil) cs := by
  rcases DataW.trod_slice ht hd with ⟨rfl, _⟩ | ⟨a, len, cap, elems, rest, m, hmn, rfl, rfl, hba, hlc, hcm, hel, hget, _⟩
  · refine ⟨rfl, 0, fun _ => .junk, Nat.zero_le _, fun i hi => absurd hi (Nat.not_lt_zero i), ?_⟩
    simp only [R]
    exact ⟨_, _, rfl, ⟨none, 0, rfl, Nat.le_refl _, fun i hi => absurd hi (Nat.not_lt_zero i)⟩, rfl⟩
  · have hsz : len ≤ reachBytes := by
      have h5 := hw0 ((elems.length + rest.length) * P.bytesOf e) (by simp [DataW.weights, ht])
      have h6 : len * 1 ≤ (elems.length + rest.length) * P.bytesOf e := Nat.mul_le_mul (by omega) h4
      omega
    have head : 0 < len → ∃ b off c T fr, a = ⟨b, off, none⟩ ∧ W.heap[b]? = some (.cells c T fr) := by
      intro hi
      have hg := hget 0 hi
      rw [List.getElem?_eq_getElem (by omega)] at hg
      simp only [Option.bind_eq_some_iff] at hg
      obtain ⟨cs1, hc, hd1⟩ := hg
      unfold World.cells? at hc
      rw [if_pos (by rw [add_block]; exact hba)] at hc
      obtain ⟨c1, c2⟩ := mapM_some hc
      rw [List.length_range] at c1
      have h0 := c2 0 0 (by rw [List.getElem?_range (by omega)])
      rw [List.getElem?_eq_getElem (by omega), Nat.zero_mul] at h0
      have e0 : (a.add 0).add 0 = a := by simp [Addr.add]
      rw [e0] at h0
      obtain ⟨b, off, spot⟩ := a
      unfold World.cell? at h0
      simp only at h0
      split at h0
      · rename_i c T fr hh
        cases spot with
        | none => exact ⟨b, off, c, T, fr, rfl, hh⟩
        | some q => simp at h0
      · cases h0
    have elem : ∀ i, i < len → ∃ l, Q l ∧ ElemAt (envU (Wall W) W) (some a) sz i (R (envU (Wall W) W) l) := by
      intro i hi
      have hg := hget i hi
      rw [List.getElem?_eq_getElem (by omega)] at hg
      simp only [Option.bind_eq_some_iff] at hg
      obtain ⟨cs1, hc, hd1⟩ := hg
      obtain ⟨hlen, l, g1, g2⟩ := ih m (by omega) cs1 _ hd1 (fun q hq => hw0 q (by
        simp only [DataW.weights, ht, List.mem_cons, List.mem_append]
        exact .inr (.inl (weights_mem_all (j := i) (by rw [List.getElem?_map, List.getElem?_eq_getElem (by omega)]; rfl) q hq))))
      unfold World.cells? at hc
      rw [if_pos (by rw [add_block]; exact hba)] at hc
      obtain ⟨c1, c2⟩ := mapM_some hc
      rw [List.length_range] at c1
      have cell : ∀ j, j < cs1.length → W.cell? ((a.add (i * P.cellsOf e)).add j) = cs1[j]? := by
        intro j hj
        exact c2 j j (by rw [List.getElem?_range (by omega)])
      obtain ⟨b, off, c, T, fr, rfl, hh⟩ := head (by omega)
      refine ⟨l, g1, b, off, cs1, rfl, ⟨(Array.getElem?_eq_some_iff.1 hh).1, fun ds e2 => by rw [hh] at e2; cases e2⟩, g2, by omega, ?_⟩
      intro j v hv
      have hj : j < cs1.length := (List.getElem?_eq_some_iff.1 hv).1
      rw [← hv, ← cell j hj]
      rw [Addr.add_none, Addr.add_none, e1]
    refine ⟨rfl, len, fun i => if hi : i < len then (elem i hi).choose else .junk, hsz, fun i hi => ?_, ?_⟩
    · simp only [hi, dif_pos]
      exact (elem i hi).choose_spec.1
    · simp only [R]
      refine ⟨_, _, rfl, ⟨some a, cap, rfl, hlc, fun i hi => ?_⟩, rfl⟩
      simp only [hi, dif_pos]
      exact (elem i hi).choose_spec.2
/-- A field of a struct. -/
theorem trod_field {t : TypeId} {fs : Array Field} (ht : P.underlying t = some (.struct fs)) {n : Nat} {cs : List Value} {x : DataW H × List MemPlace} (hd : DataW.trod enc P W base sp held n t cs = some x) (hw : Light P t x.1) :
    cs.length = P.cellsOf t ∧ ∃ m, m < n ∧ ∀ (i : Nat) (fd : Field), fs[i]? = some fd → ∃ y, DataW.trod enc P W base sp held m fd.type ((cs.drop fd.offset).take (P.cellsOf fd.type)) = some y ∧ Light P fd.type y.1 := by
  obtain ⟨xs, m, rfl, rfl, hl, hxl, hx⟩ := DataW.trod_struct ht hd
  refine ⟨hl, m, Nat.lt_succ_self m, fun i fd hi => ?_⟩
  have hlt : i < xs.length := by rw [hxl]; exact (Array.getElem?_eq_some_iff.1 hi).1
  refine ⟨xs[i], by rw [hx i fd hi, List.getElem?_eq_getElem hlt], fun q hq => hw q ?_⟩
  simp only [DataW.weights, ht]
  exact DataW.weights_mem_each (j := i) (t := fd.type) (by rw [List.getElem?_map]; simp [hi]) (by rw [List.getElem?_map, List.getElem?_eq_getElem hlt]; rfl) q hq
end
section
variable {H : Type} {enc : TypeId × Value → H} {W : World} {base : Nat} {sp : Nat → Bool} {held : Bool}
theorem sp3 : spOf Try.prog 1 3 = some (.cons (.int .i64) .nil) := by kernel_rfl
theorem c3 : Try.prog.cellsOf 3 = 1 := by kernel_rfl
theorem c25 : Try.prog.cellsOf 25 = 1 := by kernel_rfl
theorem c26 : Try.prog.cellsOf 26 = 1 := by kernel_rfl
theorem c28 : Try.prog.cellsOf 28 = 4 := by kernel_rfl
theorem cb28 : 0 < Try.prog.bytesOf 28 := of_decide_eq_true (by kernel_rfl)
theorem bp : reachBytes ≤ BP := by unfold reachBytes BP; decide
theorem sh_int {l : SV} (h : Sh (.cons (.int .i64) .nil) l) : ∃ q : Int, l = .cons (.int .i64 q) .nil := by
  obtain ⟨a, b, rfl, ⟨q, rfl, _⟩, rfl⟩ := h
  exact ⟨q, rfl⟩
theorem trod_plan : ∀ (n : Nat) (cs : List Value) (x : DataW H × List MemPlace), DataW.trod enc Try.prog W base sp held n 28 cs = some x → Light Try.prog 28 x.1 → 4 = cs.length ∧ ∃ l, (∃ p, PlanB p ∧ l = planC p) ∧ R (envU (Wall W) W) l cs := by
  intro n
  induction n using Nat.strongRecOn with
  | ind n ih =>
    intro cs x hd hw
    obtain ⟨hl, m, hm, hf⟩ := trod_field Try.underlying28 hd hw
    rw [c28] at hl
    obtain ⟨y0, h0, w0⟩ := hf 0 _ rfl
    obtain ⟨y1, h1, w1⟩ := hf 1 _ rfl
    obtain ⟨y2, h2, w2⟩ := hf 2 _ rfl
    obtain ⟨y3, h3, w3⟩ := hf 3 _ rfl
    replace h0 : DataW.trod enc Try.prog W base sp held m 3 ((cs.drop 0).take (Try.prog.cellsOf 3)) = some y0 := h0
    replace h1 : DataW.trod enc Try.prog W base sp held m 3 ((cs.drop 1).take (Try.prog.cellsOf 3)) = some y1 := h1
    replace h2 : DataW.trod enc Try.prog W base sp held m 25 ((cs.drop 2).take (Try.prog.cellsOf 25)) = some y2 := h2
    replace h3 : DataW.trod enc Try.prog W base sp held m 26 ((cs.drop 3).take (Try.prog.cellsOf 26)) = some y3 := h3
    replace w0 : Light Try.prog 3 y0.1 := w0
    replace w1 : Light Try.prog 3 y1.1 := w1
    replace w2 : Light Try.prog 25 y2.1 := w2
    replace w3 : Light Try.prog 26 y3.1 := w3

    rw [c3] at h0 h1
    rw [c25] at h2
    rw [c26] at h3
    obtain ⟨a, b, c, d, rfl⟩ : ∃ a b c d, cs = [a, b, c, d] := by
      match cs, hl with
      | [a, b, c, d], _ => exact ⟨a, b, c, d, rfl⟩
    obtain ⟨_, _, l0, s0, r0⟩ := trod_sh 1 m 3 _ _ _ sp3 h0 w0
    obtain ⟨_, _, l1, s1, r1⟩ := trod_sh 1 m 3 _ _ _ sp3 h1 w1
    obtain ⟨_, _, l2, s2, r2⟩ := trod_sh 6 m 25 _ _ _ sp25 h2 w2
    obtain ⟨q, rfl⟩ := sh_int s0
    obtain ⟨k, rfl⟩ := sh_int s1
    obtain ⟨l2, _, rfl, s2, rfl⟩ := s2
    obtain ⟨t, ht1, ht2⟩ := sh_tx s2
    obtain ⟨_, e, en, he, hq, r3⟩ := trod_slice_of (sz := 4) (Q := fun l => ∃ p, PlanB p ∧ l = planC p) Try.underlying26 (by decide) c28.symm cb28 h3 w3 (fun j hj cs y hy hyw => ih j (by omega) cs y hy hyw)
    have hB : PlanB (.node q k t.n t.s e fun i => if hi : i < e then (hq i hi).choose else dP) := by
      refine And.intro (Nat.le_trans ht1 bp) (And.intro (Nat.le_trans he bp) fun i hi => ?_)
      simp only [hi, dif_pos]
      exact (hq i hi).choose_spec.1
    refine ⟨rfl, planC (.node q k t.n t.s e fun i => if hi : i < e then (hq i hi).choose else dP), ⟨_, hB, rfl⟩, ?_⟩
    · have e3 : ∀ vs, R (envU (Wall W) W) (.slice 4 e en) vs → R (envU (Wall W) W) (.slice 4 e fun i => planC (if hi : i < e then (hq i hi).choose else dP)) vs := by
        intro vs hr
        refine imp_slice' (fun i hi => ?_) hr
        simp only [hi, dif_pos]
        exact (hq i hi).choose_spec.2
      have ht2' := ht2 (envU (Wall W) W)
      unfold planC
      simp only [R, List.drop, List.take] at r0 r1 r2 r3 ⊢
      obtain ⟨v0, _, e0, g0, rfl⟩ := r0
      obtain ⟨v1, _, e1, g1, rfl⟩ := r1
      obtain ⟨v2, _, e2, g2, rfl⟩ := r2
      obtain ⟨v3, _, e4, g3, rfl⟩ := r3
      cases e0; cases e1; cases e2; cases e4
      simp only [R] at e3
      exact ⟨_, _, rfl, g0, _, _, rfl, g1, _, _, rfl, ht2' _ g2, _, _, rfl, e3 _ g3, rfl⟩
theorem imp_CU (p : Plan) : Imp (planC p) (planU p) := by
  cases p with
  | leaf q c n ans => exact imp_cons (imp_int _ _) (imp_cons (imp_int _ _) (imp_cons (imp_tx _ _) (imp_cons (imp_slice fun i hi => absurd hi (Nat.not_lt_zero i)) imp_nil)))
  | node q c n ans m next => exact imp_cons (imp_int _ _) (imp_cons (imp_int _ _) (imp_cons (imp_tx _ _) (imp_cons (imp_slice fun i _ => imp_CT _) imp_nil)))
theorem open28 {r : Reach} {b0 : Nat} {v : Value} {d : DataW H} {ps : List MemPlace} (hval : Value.okWide Try.prog W r b0 28 v) (hd : DataW.Trod enc Try.prog W base sp held 28 v d ps) (hw : Light Try.prog 28 d) : ∃ p : Plan, R (envU (Wall W) W) (.agg (planU p)) [v] ∧ PlanB p := by
  obtain ⟨n, hn⟩ := hd
  obtain ⟨_, _, ⟨p, hp, rfl⟩, h2⟩ := trod_plan n _ _ hn hw
  have hc : ∃ cs, v = .agg cs := by
    unfold Value.okWide at hval
    rw [Try.underlying28] at hval
    obtain ⟨cs, h, _⟩ := hval
    exact ⟨cs, h⟩
  obtain ⟨cs, rfl⟩ := hc
  refine ⟨p, ?_, hp⟩
  simp only [R]
  exact ⟨cs.toList, by simp, imp_CU p _ _ _ (Env.LeU.refl _) h2⟩
end
end RBP
