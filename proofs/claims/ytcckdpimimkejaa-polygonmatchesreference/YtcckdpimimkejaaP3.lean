/- Matches: for every two rings and point, all functions agree with the reference implementation (at most 50 points). No further condition. -/
import Derived.Test.YtcckdpimimkejaaHB
import Derived.Test.YtcckdpimimkejaaRBG
namespace Go.Proofs.Ytcckdpimimkejaa
open Go Go.Eng Go.ChangeShapes Go.WideShapes Go.RowKit G1 G3 H12 RBG
set_option maxRecDepth 100000 in
theorem polygonMatchesReference_lifted (os : Os) (started : os.Started) (H : Type) (enc : TypeId × Value → H) :
    ReturnsInHanded {} Try.checked os 3 .any (Rows.polygonMatchesReferenceSpec.pre6 enc Try.prog Try.f3 Rows.polygonMatchesReferenceRow.domain false) (Rows.polygonMatchesReferenceSpec.post enc Try.prog Try.f3 false true false false) := by
  refine law_lifted (C := Try.checked) (tb := 4) started own (by kernel_rfl) Try.func3
    (ChangeSpec.witness6 (enc := enc) (C := Try.checked) false ⟨#[], #[.slice none 0 0, .slice none 0 0, .agg #[.int .i64 0, .int .i64 0]], []⟩ 8 (by kernel_rfl) (by kernel_rfl) (by kernel_rfl) (by kernel_rfl))
    laidOut ?_ rfl (by kernel_rfl) Try.underlying4 ?_ ?_
  · rw [Try.params3]
    intro t ht
    simp only [List.mem_cons, List.not_mem_nil, or_false] at ht
    rcases ht with rfl | rfl | rfl <;> exact ⟨by kernel_rfl, of_decide_eq_true (by kernel_rfl)⟩
  · intro ds hds
    rw [Try.params3] at hds
    match ds, hds with
    | [d1, d2, d3], _ => rfl
  · intro W base args ds p hval hA hw
    rw [Try.params3] at hval hA hw
    obtain ⟨v0, v1, v2, d0, d1, d2, p0, p1, p2, rfl, rfl, h0, h1, h2⟩ := trodAll_3 hA
    obtain ⟨a, r0, b0⟩ := open22 (hval 0 22 v0 rfl rfl) h0 (hw 0 22 d0 rfl rfl)
    obtain ⟨b, r1, b1⟩ := open22 (hval 1 22 v1 rfl rfl) h1 (hw 1 22 d1 rfl rfl)
    obtain ⟨q, r2⟩ := open24 (hval 2 24 v2 rfl rfl) h2 (hw 2 24 d2 rfl rfl)
    have hm := reach_le
    refine call_of_spec law3_ok (vs := [v0, v1, v2]) (x := ⟨a, b, q⟩) ⟨by dsimp only; omega, by dsimp only; omega⟩ ?_ rfl
    exact ⟨v0, _, rfl, r0, v1, _, rfl, r1, v2, _, rfl, r2, rfl⟩
theorem polygonMatchesReference_holds : Rows.PolygonMatchesReferenceSaid :=
  OpenClaim.holds_of_wide 3 Try.f3 rfl rfl rfl rfl rfl rfl rfl ⟨rfl, rfl, rfl, rfl, rfl⟩ rfl rfl rfl rfl rfl (by kernel_rfl) Try.func3 (by kernel_rfl)
    (of_decide_eq_true (by kernel_rfl)) (by unfold Func.isWrapper; first | (rw [if_pos (by decide +kernel)]; kernel_rfl) | (rw [if_neg (by decide +kernel)]; exact ⟨rfl, rfl⟩))
    (fun os started H enc _ => polygonMatchesReference_lifted os started H enc)
#print axioms polygonMatchesReference_holds
end Go.Proofs.Ytcckdpimimkejaa
