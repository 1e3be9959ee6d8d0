/- A part of the proof: see the last text. -/
import Derived.Test.YtjfjbkgkafgofaaRB
open Go Go.Eng Go.Proofs R2 R3 R4 RB
set_option maxRecDepth 100000
namespace RC
def spStr : Sp := .cons .str .nil
theorem sp23 : spOf Try.prog 6 23 = some (.cons (.slice 1 spStr) .nil) := by kernel_rfl
theorem sp24 : spOf Try.prog 6 24 = some (.cons (.slice 2 spPt) .nil) := by kernel_rfl
/-- Names. -/
structure Strs where
  n : Nat
  s : Nat → List UInt8
/-- Points. -/
structure Pts where
  n : Nat
  p : Nat → Int × Int
def strL (s : List UInt8) : SV := .cons (.str s) .nil
theorem sh_str {l : SV} (h : Sh spStr l) : ∃ s : List UInt8, l = strL s := by
  obtain ⟨_, _, rfl, ⟨s, rfl, _⟩, rfl⟩ := h
  exact ⟨s, rfl⟩
theorem sh_strs {E : Env} {a : SV} {vs : List Value} (h : Sh (.slice 1 spStr) a) (hr : R E a vs) : ∃ x : Strs, R E (.slice 1 x.n fun i => strL (x.s i)) vs ∧ x.n ≤ reachBytes := by
  obtain ⟨n, enc, rfl, hn, hall⟩ := h
  refine ⟨⟨n, fun i => if hi : i < n then (sh_str (hall i hi)).choose else []⟩, R_slice_congr hr (fun i hi => ?_), hn⟩
  simp only [hi, dif_pos]
  exact (sh_str (hall i hi)).choose_spec
theorem sh_pts {E : Env} {a : SV} {vs : List Value} (h : Sh (.slice 2 spPt) a) (hr : R E a vs) : ∃ x : Pts, R E (.slice 2 x.n fun i => ptL (x.p i)) vs ∧ x.n ≤ reachBytes := by
  obtain ⟨n, enc, rfl, hn, hall⟩ := h
  refine ⟨⟨n, fun i => if hi : i < n then (sh_pt (hall i hi)).choose else (0, 0)⟩, R_slice_congr hr (fun i hi => ?_), hn⟩
  simp only [hi, dif_pos]
  exact (sh_pt (hall i hi)).choose_spec
section
variable {H : Type} {enc : TypeId × Value → H} {W : World} {base : Nat} {sp : Nat → Bool} {held : Bool} {r : Reach} {b0 : Nat} {v : Value} {d : DataW H} {ps : List MemPlace}
theorem open23 (hval : Value.okWide Try.prog W r b0 23 v) (hd : DataW.Trod enc Try.prog W base sp held 23 v d ps) (hw : Light Try.prog 23 d) : ∃ x : Strs, R (envU (Wall W) W) (.slice 1 x.n fun i => strL (x.s i)) [v] ∧ x.n ≤ reachBytes := by
  obtain ⟨a, h1, h2⟩ := arg_one sp23 ⟨fun fs e => by rw [Try.underlying23] at e; (cases e), fun m k e => by rw [Try.underlying23] at e; (cases e)⟩ hval hd hw
  exact sh_strs h1 h2
theorem open24 (hval : Value.okWide Try.prog W r b0 24 v) (hd : DataW.Trod enc Try.prog W base sp held 24 v d ps) (hw : Light Try.prog 24 d) : ∃ x : Pts, R (envU (Wall W) W) (.slice 2 x.n fun i => ptL (x.p i)) [v] ∧ x.n ≤ reachBytes := by
  obtain ⟨a, h1, h2⟩ := arg_one sp24 ⟨fun fs e => by rw [Try.underlying24] at e; (cases e), fun m k e => by rw [Try.underlying24] at e; (cases e)⟩ hval hd hw
  exact sh_pts h1 h2
end
end RC
