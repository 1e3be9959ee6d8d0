/- PolygonCounts: twice the area of a valid ring is twice the number of points inside and that of those on the boundary less 2 (JB, by windings and the turning number); the contract of the law (G24) joined with the statement. -/
import Derived.Test.YtcckdpimimkejaaG24
import Derived.Test.YtcckdpimimkejaaRBG
namespace Go.Proofs.Ytcckdpimimkejaa
open Go Go.Eng Go.ChangeShapes Go.WideShapes Go.RowKit G1 G3 G24 RBG
set_option maxRecDepth 100000 in
theorem polygonCounts_lifted (os : Os) (started : os.Started) (H : Type) (enc : TypeId × Value → H) :
    ReturnsInHanded {} Try.checked os 6 .any (Rows.polygonCountsSpec.pre6 enc Try.prog Try.f6 Rows.polygonCountsRow.domain false) (Rows.polygonCountsSpec.post enc Try.prog Try.f6 false true false false) := by
  refine law_lifted (C := Try.checked) (tb := 4) started own (by kernel_rfl) Try.func6
    (ChangeSpec.witness6 (enc := enc) (C := Try.checked) false ⟨#[], #[.slice none 0 0], []⟩ 8 (by kernel_rfl) (by kernel_rfl) (by kernel_rfl) (by kernel_rfl))
    laidOut ?_ rfl (by kernel_rfl) Try.underlying4 ?_ ?_
  · rw [Try.params6]
    intro t ht
    simp only [List.mem_cons, List.not_mem_nil, or_false] at ht
    rcases ht with rfl
    exact ⟨by kernel_rfl, of_decide_eq_true (by kernel_rfl)⟩
  · intro ds hds
    rw [Try.params6] at hds
    match ds, hds with
    | [d1], _ => rfl
  · intro W base args ds p hval hA hw
    rw [Try.params6] at hval hA hw
    obtain ⟨v0, d0, rfl, rfl, h0⟩ := trodAll_1 hA
    obtain ⟨a, r0, b0⟩ := open22 (hval 0 22 v0 rfl rfl) h0 (hw 0 22 d0 rfl rfl)
    have hm := reach_le
    refine call_of_spec law6_ok (vs := [v0]) (x := a) (show (a.n : Int) ≤ 9223372036854775806 by omega) ?_ rfl
    exact ⟨v0, _, rfl, r0, rfl⟩
theorem polygonCounts_holds : Rows.PolygonCountsSaid :=
  OpenClaim.holds_of_wide 6 Try.f6 rfl rfl rfl rfl rfl rfl rfl ⟨rfl, rfl, rfl, rfl, rfl⟩ rfl rfl rfl rfl rfl (by kernel_rfl) Try.func6 (by kernel_rfl)
    (of_decide_eq_true (by kernel_rfl)) (by unfold Func.isWrapper; first | (rw [if_pos (by decide +kernel)]; kernel_rfl) | (rw [if_neg (by decide +kernel)]; exact ⟨rfl, rfl⟩))
    (fun os started H enc _ => polygonCounts_lifted os started H enc)
#print axioms polygonCounts_holds
end Go.Proofs.Ytcckdpimimkejaa
