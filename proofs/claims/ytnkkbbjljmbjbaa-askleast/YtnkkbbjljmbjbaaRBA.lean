/- A part of the proof: see the last text. -/
import Derived.Test.YtnkkbbjljmbjbaaA16
import Derived.Test.YtnkkbbjljmbjbaaEngBr
import Derived.Test.YtnkkbbjljmbjbaaRows
open Go Go.Eng Go.Proofs A0 A1
set_option maxRecDepth 100000
namespace RBA
def spTx : Sp := .cons (.slice 1 (.cons .str .nil)) .nil
theorem sp22 : spOf Try.prog 6 22 = some (.cons (.slice 1 spTx) .nil) := by kernel_rfl
theorem sp5 : spOf Try.prog 6 5 = some (.cons (.int .u8) .nil) := by kernel_rfl
theorem sp25 : spOf Try.prog 6 25 = some (.cons (.slice 1 (.cons .str .nil)) .nil) := by kernel_rfl
theorem sh_str {l : SV} (h : Sh (.cons .str .nil) l) : ∃ s : List UInt8, l = strN s := by
  obtain ⟨_, _, rfl, ⟨s, rfl, _⟩, rfl⟩ := h
  exact ⟨s, rfl⟩
theorem imp_slice' {sz n : Nat} {enc enc' : Nat → SV} (h : ∀ i, i < n → enc i = enc' i) {E : Env} {vs : List Value} (hr : R E (.slice sz n enc) vs) : R E (.slice sz n enc') vs := by
  simp only [R] at hr ⊢
  obtain ⟨a, cap, h1, h2, h3⟩ := hr
  exact ⟨a, cap, h1, h2, fun i hi => by rw [← h i hi]; exact h3 i hi⟩
theorem slice_eq {n : Nat} {enc : Nat → SV} (h : ∀ i, i < n → Sh (.cons .str .nil) (enc i)) : ∃ s : Nat → List UInt8, ∀ i, i < n → enc i = strN (s i) :=
  ⟨fun i => if hi : i < n then (sh_str (h i hi)).choose else [], fun i hi => by simp only [hi, dif_pos]; exact (sh_str (h i hi)).choose_spec⟩
/-- What a list of texts reads as. -/
theorem sh_tx {a : SV} (h : Sh (.slice 1 (.cons .str .nil)) a) : ∃ t : Tx, t.n ≤ reachBytes ∧ ∀ (E : Env) (vs : List Value), R E a vs → R E (txE t.n t.s) vs := by
  obtain ⟨n, enc, rfl, hn, hall⟩ := h
  obtain ⟨s, hs⟩ := slice_eq hall
  exact ⟨⟨n, s⟩, hn, fun E vs hr => imp_slice' hs hr⟩
theorem sh_row {l : SV} (h : Sh spTx l) : ∃ t : Tx, t.n ≤ reachBytes ∧ ∀ (E : Env) (vs : List Value), R E l vs → R E (.cons (txE t.n t.s) .nil) vs := by
  obtain ⟨a, b, rfl, h1, rfl⟩ := h
  obtain ⟨t, h2, h3⟩ := sh_tx h1
  refine ⟨t, h2, fun E vs hr => ?_⟩
  simp only [R] at hr ⊢
  obtain ⟨x, xs, rfl, r1, r2⟩ := hr
  exact ⟨x, xs, rfl, h3 E _ r1, r2⟩
theorem sh_fx {E : Env} {a : SV} {vs : List Value} (h : Sh (.slice 1 spTx) a) (hr : R E a vs) : ∃ F : Fx, R E (fxE F) vs ∧ F.n ≤ reachBytes ∧ ∀ i, i < F.n → F.k i ≤ reachBytes := by
  obtain ⟨n, enc, rfl, hn, hall⟩ := h
  refine ⟨⟨n, fun i => if hi : i < n then (sh_row (hall i hi)).choose.n else 0, fun i => if hi : i < n then (sh_row (hall i hi)).choose.s else fun _ => []⟩, ?_, hn, fun i hi => ?_⟩
  · unfold fxE
    simp only [R] at hr ⊢
    obtain ⟨a, cap, h1, h2, h3⟩ := hr
    refine ⟨a, cap, h1, h2, fun i hi => ?_⟩
    obtain ⟨b, off, cs, e1, e2, e3, e4, e5⟩ := h3 i hi
    refine ⟨b, off, cs, e1, e2, ?_, e4, e5⟩
    have := (sh_row (hall i hi)).choose_spec.2 E cs e3
    unfold fxC
    simp only [hi, dif_pos]
    exact this
  · have hi' : i < n := hi
    simp only [hi', dif_pos]
    exact (sh_row (hall i hi')).choose_spec.1
theorem reach_le : ((reachBytes : Nat) : Int) ≤ 9223372036854775806 := by unfold reachBytes; decide
theorem wf_u8 {m : Int} (h : (Lit.int .u8 m).wf = true) : 0 ≤ m ∧ m ≤ 255 := by
  simp only [Lit.wf, Bool.and_eq_true, decide_eq_true_eq] at h
  have e1 : IntKind.min .u8 = 0 := rfl
  have e2 : IntKind.max .u8 = 255 := rfl
  omega
section
variable {H : Type} {enc : TypeId × Value → H} {W : World} {base : Nat} {sp : Nat → Bool} {held : Bool} {r : Reach} {b0 : Nat} {v : Value} {d : DataW H} {ps : List MemPlace}
theorem open22 (hval : Value.okWide Try.prog W r b0 22 v) (hd : DataW.Trod enc Try.prog W base sp held 22 v d ps) (hw : Light Try.prog 22 d) : ∃ F : Fx, R (envU (Wall W) W) (fxE F) [v] ∧ F.n ≤ reachBytes ∧ ∀ i, i < F.n → F.k i ≤ reachBytes := by
  obtain ⟨a, h1, h2⟩ := arg_one sp22 ⟨fun fs e => by rw [Try.underlying22] at e; (cases e), fun m k e => by rw [Try.underlying22] at e; (cases e)⟩ hval hd hw
  exact sh_fx h1 h2
theorem open25 (hval : Value.okWide Try.prog W r b0 25 v) (hd : DataW.Trod enc Try.prog W base sp held 25 v d ps) (hw : Light Try.prog 25 d) : ∃ t : Tx, R (envU (Wall W) W) (txE t.n t.s) [v] ∧ t.n ≤ reachBytes := by
  obtain ⟨a, h1, h2⟩ := arg_one sp25 ⟨fun fs e => by rw [Try.underlying25] at e; (cases e), fun m k e => by rw [Try.underlying25] at e; (cases e)⟩ hval hd hw
  obtain ⟨t, h3, h4⟩ := sh_tx h1
  exact ⟨t, h4 _ _ h2, h3⟩
theorem open5 (hval : Value.okWide Try.prog W r b0 5 v) (hd : DataW.Trod enc Try.prog W base sp held 5 v d ps) (hw : Light Try.prog 5 d) : ∃ m : Int, R (envU (Wall W) W) (.int .u8 m) [v] ∧ 0 ≤ m ∧ m ≤ 255 := by
  obtain ⟨a, h1, h2⟩ := arg_one sp5 ⟨fun fs e => by rw [Try.underlying5] at e; (cases e), fun m k e => by rw [Try.underlying5] at e; (cases e)⟩ hval hd hw
  obtain ⟨m, rfl, hw⟩ := h1
  exact ⟨m, h2, wf_u8 hw⟩
end
/-- A call of a function with a contract. -/
theorem call_of_spec {f : Nat} {S : Eng.Spec} (hS : S.Ok Try.prog f) {W : World} {vs : List Value} {x : S.X} (hx : S.pre x) (hr : R (envU (Wall W) W) (S.args x) vs) (hres : S.res x = .bool true) :
    Calls Try.prog f vs.toArray W fun e W' => e = .returned (.bool true) ∧ Eng.Below W.heap.size W W' := by
  refine (hS.does x W vs (Wall W) (fun b hb => hb) hx hr).mono ?_
  intro e W' he
  cases e with
  | returned v =>
    obtain ⟨h1, h2⟩ := he
    rw [hres] at h1
    simp only [R] at h1
    exact ⟨by rw [List.singleton_inj.1 h1], h2⟩
  | panicked _ => exact he.elim
  | outgrown => exact he.elim
end RBA
namespace Go.Proofs.Ytnkkbbjljmbjbaa
open Go Go.Eng Go.ChangeShapes Go.WideShapes
theorem own : ownKnob Try.prog.godebug = none := by kernel_rfl
theorem laidOut : laidOutB Try.prog = true := by kernel_rfl
end Go.Proofs.Ytnkkbbjljmbjbaa
