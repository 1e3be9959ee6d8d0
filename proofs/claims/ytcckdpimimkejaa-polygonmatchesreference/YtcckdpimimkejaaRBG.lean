/- A part of the proof: see the last text. -/
import Derived.Test.YtcckdpimimkejaaG1
import Derived.Test.YtcckdpimimkejaaG3
import Derived.Test.YtcckdpimimkejaaEngBr
import Derived.Test.YtcckdpimimkejaaRows
open Go Go.Eng Go.Proofs G1 G3
set_option maxRecDepth 100000
namespace RBG
def spPt : Sp := .cons (.int .i64) (.cons (.int .i64) .nil)
theorem sp22 : spOf Try.prog 6 22 = some (.cons (.slice 2 spPt) .nil) := by kernel_rfl
theorem sp24 : spOf Try.prog 6 24 = some spPt := by kernel_rfl
theorem sp5 : spOf Try.prog 6 5 = some (.cons (.int .u8) .nil) := by kernel_rfl
theorem sp41 : spOf Try.prog 6 41 = some (.cons (.int .i16) .nil) := by kernel_rfl
theorem sp4 : spOf Try.prog 6 4 = some (.cons .bool .nil) := by kernel_rfl
theorem sh_pt {l : SV} (h : Sh spPt l) : ∃ q : Int × Int, l = ptL q := by
  obtain ⟨_, _, rfl, ⟨x, rfl, _⟩, _, _, rfl, ⟨y, rfl, _⟩, rfl⟩ := h
  exact ⟨(x, y), rfl⟩
theorem R_slice_congr {E : Env} {sz n : Nat} {enc enc' : Nat → SV} {vs : List Value} (h : R E (.slice sz n enc) vs) (he : ∀ i, i < n → enc i = enc' i) : R E (.slice sz n enc') vs := by
  simp only [R] at h ⊢
  obtain ⟨a, cap, h1, h2, h3⟩ := h
  exact ⟨a, cap, h1, h2, fun i hi => by rw [← he i hi]; exact h3 i hi⟩
theorem sh_pts {E : Env} {a : SV} {vs : List Value} (h : Sh (.slice 2 spPt) a) (hr : R E a vs) : ∃ x : Pts, R E (rgE x) vs ∧ x.n ≤ reachBytes := by
  obtain ⟨n, enc, rfl, hn, hall⟩ := h
  refine ⟨⟨n, fun i => if hi : i < n then (sh_pt (hall i hi)).choose else (0, 0)⟩, R_slice_congr hr (fun i hi => ?_), hn⟩
  simp only [hi, dif_pos]
  exact (sh_pt (hall i hi)).choose_spec
theorem reach_le : ((reachBytes : Nat) : Int) ≤ 9223372036854775806 := by unfold reachBytes; decide
theorem wf_u8 {m : Int} (h : (Lit.int .u8 m).wf = true) : 0 ≤ m ∧ m ≤ 255 := by
  simp only [Lit.wf, Bool.and_eq_true, decide_eq_true_eq] at h
  have e1 : IntKind.min .u8 = 0 := rfl
  have e2 : IntKind.max .u8 = 255 := rfl
  omega
theorem wf_i16 {m : Int} (h : (Lit.int .i16 m).wf = true) : -32768 ≤ m ∧ m ≤ 32767 := by
  simp only [Lit.wf, Bool.and_eq_true, decide_eq_true_eq] at h
  have e1 : IntKind.min .i16 = -32768 := rfl
  have e2 : IntKind.max .i16 = 32767 := rfl
  omega
section
variable {H : Type} {enc : TypeId × Value → H} {W : World} {base : Nat} {sp : Nat → Bool} {held : Bool} {r : Reach} {b0 : Nat} {v : Value} {d : DataW H} {ps : List MemPlace}
theorem open22 (hval : Value.okWide Try.prog W r b0 22 v) (hd : DataW.Trod enc Try.prog W base sp held 22 v d ps) (hw : Light Try.prog 22 d) : ∃ x : Pts, R (envU (Wall W) W) (rgE x) [v] ∧ x.n ≤ reachBytes := by
  obtain ⟨a, h1, h2⟩ := arg_one sp22 ⟨fun fs e => by rw [Try.underlying22] at e; (cases e), fun m k e => by rw [Try.underlying22] at e; (cases e)⟩ hval hd hw
  exact sh_pts h1 h2
theorem open24 (hval : Value.okWide Try.prog W r b0 24 v) (hd : DataW.Trod enc Try.prog W base sp held 24 v d ps) (hw : Light Try.prog 24 d) : ∃ q : Int × Int, R (envU (Wall W) W) (ptE q) [v] := by
  obtain ⟨l, h1, h2⟩ := arg_agg (.inl ⟨_, Try.underlying24⟩) sp24 hval hd hw
  obtain ⟨q, rfl⟩ := sh_pt h1
  exact ⟨q, h2⟩
theorem open5 (hval : Value.okWide Try.prog W r b0 5 v) (hd : DataW.Trod enc Try.prog W base sp held 5 v d ps) (hw : Light Try.prog 5 d) : ∃ m : Int, R (envU (Wall W) W) (.int .u8 m) [v] ∧ 0 ≤ m ∧ m ≤ 255 := by
  obtain ⟨a, h1, h2⟩ := arg_one sp5 ⟨fun fs e => by rw [Try.underlying5] at e; (cases e), fun m k e => by rw [Try.underlying5] at e; (cases e)⟩ hval hd hw
  obtain ⟨m, rfl, hw⟩ := h1
  exact ⟨m, h2, wf_u8 hw⟩
theorem open41 (hval : Value.okWide Try.prog W r b0 41 v) (hd : DataW.Trod enc Try.prog W base sp held 41 v d ps) (hw : Light Try.prog 41 d) : ∃ m : Int, R (envU (Wall W) W) (.int .i16 m) [v] ∧ -32768 ≤ m ∧ m ≤ 32767 := by
  obtain ⟨a, h1, h2⟩ := arg_one sp41 ⟨fun fs e => by rw [Try.underlying41] at e; (cases e), fun m k e => by rw [Try.underlying41] at e; (cases e)⟩ hval hd hw
  obtain ⟨m, rfl, hw⟩ := h1
  exact ⟨m, h2, wf_i16 hw⟩
theorem open4 (hval : Value.okWide Try.prog W r b0 4 v) (hd : DataW.Trod enc Try.prog W base sp held 4 v d ps) (hw : Light Try.prog 4 d) : ∃ m : Bool, R (envU (Wall W) W) (.bool m) [v] := by
  obtain ⟨a, h1, h2⟩ := arg_one sp4 ⟨fun fs e => by rw [Try.underlying4] at e; (cases e), fun m k e => by rw [Try.underlying4] at e; (cases e)⟩ hval hd hw
  obtain ⟨m, rfl⟩ := h1
  exact ⟨m, h2⟩
end
/-- A call of a function with a contract. -/
theorem call_of_spec {f : Nat} {S : Eng.Spec} (hS : S.Ok Try.prog f) {W : World} {vs : List Value} {x : S.X} (hx : S.pre x) (hr : R (envU (Wall W) W) (S.args x) vs) (hres : S.res x = .bool true) :
    Calls Try.prog f vs.toArray W fun e W' => e = .returned (.bool true) ∧ Eng.Below W.heap.size W W' := by
  refine (hS.does x W vs (Wall W) (fun b hb => hb) hx hr).mono ?_
  intro e W' he
  cases e with
  | returned v =>
    obtain ⟨h1, h2⟩ := he
    rw [hres] at h1
    simp only [R] at h1
    exact ⟨by rw [List.singleton_inj.1 h1], h2⟩
  | panicked _ => exact he.elim
  | outgrown => exact he.elim
open Go.RowKit Go.ChangeShapes Go.WideShapes
section
variable {H : Type} {enc : TypeId × Value → H} {P : Program} {w : World} {base : Nat} {spare : Nat → Bool} {held : Bool}
theorem trodAll_1 {t : TypeId} {args : Array Value} {ds : List (DataW H)} {ps : List MemPlace} (h : DataW.TrodAll enc P w base spare held [t] args.toList ds ps) :
    ∃ v d, args = #[v] ∧ ds = [d] ∧ DataW.Trod enc P w base spare held t v d ps := by
  obtain ⟨v, vs, d, ds1, p, q, hargs, rfl, rfl, hd, hrest⟩ := trodAll_cons h
  obtain ⟨rfl, rfl, rfl⟩ := trodAll_nil hrest
  exact ⟨v, d, by cases args; simp_all, rfl, by simpa using hd⟩
theorem trodAll_3 {t1 t2 t3 : TypeId} {args : Array Value} {ds : List (DataW H)} {ps : List MemPlace} (h : DataW.TrodAll enc P w base spare held [t1, t2, t3] args.toList ds ps) :
    ∃ v1 v2 v3 d1 d2 d3 p1 p2 p3, args = #[v1, v2, v3] ∧ ds = [d1, d2, d3] ∧ DataW.Trod enc P w base spare held t1 v1 d1 p1 ∧ DataW.Trod enc P w base spare held t2 v2 d2 p2 ∧ DataW.Trod enc P w base spare held t3 v3 d3 p3 := by
  obtain ⟨v1, vs1, d1, ds1, p1, q1, hargs, rfl, rfl, h1, r1⟩ := trodAll_cons h
  obtain ⟨v2, vs2, d2, ds2, p2, q2, rfl, rfl, rfl, h2, r2⟩ := trodAll_cons r1
  obtain ⟨v3, vs3, d3, ds3, p3, q3, rfl, rfl, rfl, h3, r3⟩ := trodAll_cons r2
  obtain ⟨rfl, rfl, rfl⟩ := trodAll_nil r3
  exact ⟨v1, v2, v3, d1, d2, d3, p1, p2, p3, by cases args; simp_all, rfl, h1, h2, h3⟩
theorem trodAll_4 {t1 t2 t3 t4 : TypeId} {args : Array Value} {ds : List (DataW H)} {ps : List MemPlace} (h : DataW.TrodAll enc P w base spare held [t1, t2, t3, t4] args.toList ds ps) :
    ∃ v1 v2 v3 v4 d1 d2 d3 d4 p1 p2 p3 p4, args = #[v1, v2, v3, v4] ∧ ds = [d1, d2, d3, d4] ∧ DataW.Trod enc P w base spare held t1 v1 d1 p1 ∧ DataW.Trod enc P w base spare held t2 v2 d2 p2 ∧ DataW.Trod enc P w base spare held t3 v3 d3 p3 ∧ DataW.Trod enc P w base spare held t4 v4 d4 p4 := by
  obtain ⟨v1, vs1, d1, ds1, p1, q1, hargs, rfl, rfl, h1, r1⟩ := trodAll_cons h
  obtain ⟨v2, vs2, d2, ds2, p2, q2, rfl, rfl, rfl, h2, r2⟩ := trodAll_cons r1
  obtain ⟨v3, vs3, d3, ds3, p3, q3, rfl, rfl, rfl, h3, r3⟩ := trodAll_cons r2
  obtain ⟨v4, vs4, d4, ds4, p4, q4, rfl, rfl, rfl, h4, r4⟩ := trodAll_cons r3
  obtain ⟨rfl, rfl, rfl⟩ := trodAll_nil r4
  exact ⟨v1, v2, v3, v4, d1, d2, d3, d4, p1, p2, p3, p4, by cases args; simp_all, rfl, h1, h2, h3, h4⟩
theorem trodAll_6 {t1 t2 t3 t4 t5 t6 : TypeId} {args : Array Value} {ds : List (DataW H)} {ps : List MemPlace} (h : DataW.TrodAll enc P w base spare held [t1, t2, t3, t4, t5, t6] args.toList ds ps) :
    ∃ v1 v2 v3 v4 v5 v6 d1 d2 d3 d4 d5 d6 p1 p2 p3 p4 p5 p6, args = #[v1, v2, v3, v4, v5, v6] ∧ ds = [d1, d2, d3, d4, d5, d6] ∧ DataW.Trod enc P w base spare held t1 v1 d1 p1 ∧ DataW.Trod enc P w base spare held t2 v2 d2 p2 ∧ DataW.Trod enc P w base spare held t3 v3 d3 p3 ∧ DataW.Trod enc P w base spare held t4 v4 d4 p4 ∧ DataW.Trod enc P w base spare held t5 v5 d5 p5 ∧ DataW.Trod enc P w base spare held t6 v6 d6 p6 := by
  obtain ⟨v1, vs1, d1, ds1, p1, q1, hargs, rfl, rfl, h1, r1⟩ := trodAll_cons h
  obtain ⟨v2, vs2, d2, ds2, p2, q2, rfl, rfl, rfl, h2, r2⟩ := trodAll_cons r1
  obtain ⟨v3, vs3, d3, ds3, p3, q3, rfl, rfl, rfl, h3, r3⟩ := trodAll_cons r2
  obtain ⟨v4, vs4, d4, ds4, p4, q4, rfl, rfl, rfl, h4, r4⟩ := trodAll_cons r3
  obtain ⟨v5, vs5, d5, ds5, p5, q5, rfl, rfl, rfl, h5, r5⟩ := trodAll_cons r4
  obtain ⟨v6, vs6, d6, ds6, p6, q6, rfl, rfl, rfl, h6, r6⟩ := trodAll_cons r5
  obtain ⟨rfl, rfl, rfl⟩ := trodAll_nil r6
  exact ⟨v1, v2, v3, v4, v5, v6, d1, d2, d3, d4, d5, d6, p1, p2, p3, p4, p5, p6, by cases args; simp_all, rfl, h1, h2, h3, h4, h5, h6⟩
end
end RBG
namespace Go.Proofs.Ytcckdpimimkejaa
open Go Go.Eng Go.ChangeShapes Go.WideShapes
theorem own : ownKnob Try.prog.godebug = none := by kernel_rfl
theorem laidOut : laidOutB Try.prog = true := by kernel_rfl
end Go.Proofs.Ytcckdpimimkejaa
