/- A part of the proof: see the last text. -/
import Derived.Test.YtjfjbkgkafgofaaR4
import Derived.Test.YtjfjbkgkafgofaaEngBr
import Derived.Test.YtjfjbkgkafgofaaRows
open Go Go.Eng Go.Proofs R2 R3 R4
set_option maxRecDepth 100000
namespace RB
def spPt : Sp := .cons (.int .i64) (.cons (.int .i64) .nil)
def spAdr : Sp := .cons .str (.cons .str (.cons .str (.cons .str (.cons .str (.cons (.int .i64) (.cons .str (.cons (.int .i64) (.cons (.int .i64) spPt))))))))
theorem sp38 : spOf Try.prog 6 38 = some spPt := by kernel_rfl
theorem sp40 : spOf Try.prog 6 40 = some spAdr := by kernel_rfl
theorem sp22 : spOf Try.prog 6 22 = some (.cons (.slice 11 spAdr) .nil) := by kernel_rfl
theorem sp3 : spOf Try.prog 6 3 = some (.cons (.int .i64) .nil) := by kernel_rfl
theorem sp5 : spOf Try.prog 6 5 = some (.cons (.int .u8) .nil) := by kernel_rfl
theorem sh_pt {l : SV} (h : Sh spPt l) : ∃ q : Int × Int, l = ptL q := by
  obtain ⟨_, _, rfl, ⟨x, rfl, _⟩, _, _, rfl, ⟨y, rfl, _⟩, rfl⟩ := h
  exact ⟨(x, y), rfl⟩
theorem sh_adr {l : SV} (h : Sh spAdr l) : ∃ a : Adr, l = adL a ∧ a.door.length ≤ reachBytes := by
  obtain ⟨_, _, rfl, ⟨s1, rfl, h1⟩, _, _, rfl, ⟨s2, rfl, _⟩, _, _, rfl, ⟨s3, rfl, _⟩, _, _, rfl, ⟨s4, rfl, _⟩, _, _, rfl, ⟨s5, rfl, _⟩, _, _, rfl, ⟨n1, rfl, _⟩, _, _, rfl, ⟨s6, rfl, _⟩, _, _, rfl, ⟨n2, rfl, _⟩, _, _, rfl, ⟨n3, rfl, _⟩, h⟩ := h
  obtain ⟨q, rfl⟩ := sh_pt h
  exact ⟨⟨s1, s2, s3, s4, s5, n1, s6, n2, n3, q⟩, rfl, h1⟩
theorem R_slice_congr {E : Env} {sz n : Nat} {enc enc' : Nat → SV} {vs : List Value} (h : R E (.slice sz n enc) vs) (he : ∀ i, i < n → enc i = enc' i) : R E (.slice sz n enc') vs := by
  simp only [R] at h ⊢
  obtain ⟨a, cap, h1, h2, h3⟩ := h
  exact ⟨a, cap, h1, h2, fun i hi => by rw [← he i hi]; exact h3 i hi⟩
theorem sh_adrs {E : Env} {a : SV} {vs : List Value} (h : Sh (.slice 11 spAdr) a) (hr : R E a vs) : ∃ x : Adrs, R E (.slice 11 x.n fun i => adL (x.a i)) vs ∧ x.n ≤ reachBytes ∧ ∀ i, i < x.n → (x.a i).door.length ≤ reachBytes := by
  obtain ⟨n, enc, rfl, hn, hall⟩ := h
  refine ⟨⟨n, fun i => if hi : i < n then (sh_adr (hall i hi)).choose else ⟨[], [], [], [], [], 0, [], 0, 0, (0, 0)⟩⟩, R_slice_congr hr (fun i hi => ?_), hn, fun i hi => ?_⟩
  · simp only [hi, dif_pos]
    exact (sh_adr (hall i hi)).choose_spec.1
  · have hi' : i < n := hi
    simp only [hi', dif_pos]
    exact (sh_adr (hall i hi')).choose_spec.2
theorem reach_le : ((reachBytes : Nat) : Int) ≤ 9223372036854775806 := by unfold reachBytes; decide
theorem wf_u8 {m : Int} (h : (Lit.int .u8 m).wf = true) : 0 ≤ m ∧ m ≤ 255 := by
  simp only [Lit.wf, Bool.and_eq_true, decide_eq_true_eq] at h
  have e1 : IntKind.min .u8 = 0 := rfl
  have e2 : IntKind.max .u8 = 255 := rfl
  omega
theorem wf_i64 {m : Int} (h : (Lit.int .i64 m).wf = true) : -9223372036854775808 ≤ m ∧ m ≤ 9223372036854775807 := by
  simp only [Lit.wf, Bool.and_eq_true, decide_eq_true_eq] at h
  have e1 : IntKind.min .i64 = -9223372036854775808 := rfl
  have e2 : IntKind.max .i64 = 9223372036854775807 := rfl
  omega
section
variable {H : Type} {enc : TypeId × Value → H} {W : World} {base : Nat} {sp : Nat → Bool} {held : Bool} {r : Reach} {b0 : Nat} {v : Value} {d : DataW H} {ps : List MemPlace}
theorem open22 (hval : Value.okWide Try.prog W r b0 22 v) (hd : DataW.Trod enc Try.prog W base sp held 22 v d ps) (hw : Light Try.prog 22 d) : ∃ x : Adrs, R (envU (Wall W) W) (.slice 11 x.n fun i => adL (x.a i)) [v] ∧ x.n ≤ reachBytes ∧ ∀ i, i < x.n → (x.a i).door.length ≤ reachBytes := by
  obtain ⟨a, h1, h2⟩ := arg_one sp22 ⟨fun fs e => by rw [Try.underlying22] at e; (cases e), fun m k e => by rw [Try.underlying22] at e; (cases e)⟩ hval hd hw
  exact sh_adrs h1 h2
theorem open38 (hval : Value.okWide Try.prog W r b0 38 v) (hd : DataW.Trod enc Try.prog W base sp held 38 v d ps) (hw : Light Try.prog 38 d) : ∃ q : Int × Int, R (envU (Wall W) W) (ptE q) [v] := by
  obtain ⟨l, h1, h2⟩ := arg_agg (.inl ⟨_, Try.underlying38⟩) sp38 hval hd hw
  obtain ⟨q, rfl⟩ := sh_pt h1
  exact ⟨q, h2⟩
theorem open40 (hval : Value.okWide Try.prog W r b0 40 v) (hd : DataW.Trod enc Try.prog W base sp held 40 v d ps) (hw : Light Try.prog 40 d) : ∃ a : Adr, R (envU (Wall W) W) (adE a) [v] ∧ a.door.length ≤ reachBytes := by
  obtain ⟨l, h1, h2⟩ := arg_agg (.inl ⟨_, Try.underlying40⟩) sp40 hval hd hw
  obtain ⟨a, rfl, h3⟩ := sh_adr h1
  exact ⟨a, h2, h3⟩
theorem open3 (hval : Value.okWide Try.prog W r b0 3 v) (hd : DataW.Trod enc Try.prog W base sp held 3 v d ps) (hw : Light Try.prog 3 d) : ∃ m : Int, R (envU (Wall W) W) (.int .i64 m) [v] ∧ -9223372036854775808 ≤ m ∧ m ≤ 9223372036854775807 := by
  obtain ⟨a, h1, h2⟩ := arg_one sp3 ⟨fun fs e => by rw [Try.underlying3] at e; (cases e), fun m k e => by rw [Try.underlying3] at e; (cases e)⟩ hval hd hw
  obtain ⟨m, rfl, hw⟩ := h1
  exact ⟨m, h2, wf_i64 hw⟩
theorem open5 (hval : Value.okWide Try.prog W r b0 5 v) (hd : DataW.Trod enc Try.prog W base sp held 5 v d ps) (hw : Light Try.prog 5 d) : ∃ m : Int, R (envU (Wall W) W) (.int .u8 m) [v] ∧ 0 ≤ m ∧ m ≤ 255 := by
  obtain ⟨a, h1, h2⟩ := arg_one sp5 ⟨fun fs e => by rw [Try.underlying5] at e; (cases e), fun m k e => by rw [Try.underlying5] at e; (cases e)⟩ hval hd hw
  obtain ⟨m, rfl, hw⟩ := h1
  exact ⟨m, h2, wf_u8 hw⟩
end
/-- A call of a function with a contract. -/
theorem call_of_spec {f : Nat} {S : Eng.Spec} (hS : S.Ok Try.prog f) {W : World} {vs : List Value} {x : S.X} (hx : S.pre x) (hr : R (envU (Wall W) W) (S.args x) vs) (hres : S.res x = .bool true) :
    Calls Try.prog f vs.toArray W fun e W' => e = .returned (.bool true) ∧ Eng.Below W.heap.size W W' := by
  refine (hS.does x W vs (Wall W) (fun b hb => hb) hx hr).mono ?_
  intro e W' he
  cases e with
  | returned v =>
    obtain ⟨h1, h2⟩ := he
    rw [hres] at h1
    simp only [R] at h1
    exact ⟨by rw [List.singleton_inj.1 h1], h2⟩
  | panicked _ => exact he.elim
  | outgrown => exact he.elim
end RB
namespace Go.Proofs.Ytjfjbkgkafgofaa
open Go Go.Eng Go.ChangeShapes Go.WideShapes
theorem own : ownKnob Try.prog.godebug = none := by kernel_rfl
theorem laidOut : laidOutB Try.prog = true := by kernel_rfl
end Go.Proofs.Ytjfjbkgkafgofaa
