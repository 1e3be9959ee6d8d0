/- Apart: for every three valid rings (at most 50 points) and point, Apart does not depend on the order of two; if it holds, the point is not inside both; a ring within another one is not apart from it, but apart from each third one from which this is. No further condition. -/
import Derived.Test.YtcckdpimimkejaaG25
import Derived.Test.YtcckdpimimkejaaRBG
namespace Go.Proofs.Ytcckdpimimkejaa
open Go Go.Eng Go.ChangeShapes Go.WideShapes Go.RowKit G1 G3 G25 G25 RBG
set_option maxRecDepth 100000 in
theorem polygonApart_lifted (os : Os) (started : os.Started) (H : Type) (enc : TypeId × Value → H) :
    ReturnsInHanded {} Try.checked os 8 .any (Rows.polygonApartSpec.pre6 enc Try.prog Try.f8 Rows.polygonApartRow.domain false) (Rows.polygonApartSpec.post enc Try.prog Try.f8 false true false false) := by
  refine law_lifted (C := Try.checked) (tb := 4) started own (by kernel_rfl) Try.func8
    (ChangeSpec.witness6 (enc := enc) (C := Try.checked) false ⟨#[], #[.slice none 0 0, .slice none 0 0, .slice none 0 0, .agg #[.int .i64 0, .int .i64 0]], []⟩ 8 (by kernel_rfl) (by kernel_rfl) (by kernel_rfl) (by kernel_rfl))
    laidOut ?_ rfl (by kernel_rfl) Try.underlying4 ?_ ?_
  · rw [Try.params8]
    intro t ht
    simp only [List.mem_cons, List.not_mem_nil, or_false] at ht
    rcases ht with rfl | rfl | rfl | rfl <;> exact ⟨by kernel_rfl, of_decide_eq_true (by kernel_rfl)⟩
  · intro ds hds
    rw [Try.params8] at hds
    match ds, hds with
    | [d1, d2, d3, d4], _ => rfl
  · intro W base args ds p hval hA hw
    rw [Try.params8] at hval hA hw
    obtain ⟨v0, v1, v2, v3, d0, d1, d2, d3, p0, p1, p2, p3, rfl, rfl, h0, h1, h2, h3⟩ := trodAll_4 hA
    obtain ⟨a, r0, b0⟩ := open22 (hval 0 22 v0 rfl rfl) h0 (hw 0 22 d0 rfl rfl)
    obtain ⟨b, r1, b1⟩ := open22 (hval 1 22 v1 rfl rfl) h1 (hw 1 22 d1 rfl rfl)
    obtain ⟨c, r2, b2⟩ := open22 (hval 2 22 v2 rfl rfl) h2 (hw 2 22 d2 rfl rfl)
    obtain ⟨q, r3⟩ := open24 (hval 3 24 v3 rfl rfl) h3 (hw 3 24 d3 rfl rfl)
    have hm := reach_le
    refine call_of_spec law8_ok (vs := [v0, v1, v2, v3]) (x := ⟨a, b, c, q⟩) ⟨by dsimp only; omega, by dsimp only; omega, by dsimp only; omega⟩ ?_ rfl
    exact ⟨v0, _, rfl, r0, v1, _, rfl, r1, v2, _, rfl, r2, v3, _, rfl, r3, rfl⟩
theorem polygonApart_holds : Rows.PolygonApartSaid :=
  OpenClaim.holds_of_wide 8 Try.f8 rfl rfl rfl rfl rfl rfl rfl ⟨rfl, rfl, rfl, rfl, rfl⟩ rfl rfl rfl rfl rfl (by kernel_rfl) Try.func8 (by kernel_rfl)
    (of_decide_eq_true (by kernel_rfl)) (by unfold Func.isWrapper; first | (rw [if_pos (by decide +kernel)]; kernel_rfl) | (rw [if_neg (by decide +kernel)]; exact ⟨rfl, rfl⟩))
    (fun os started H enc _ => polygonApart_lifted os started H enc)
#print axioms polygonApart_holds
end Go.Proofs.Ytcckdpimimkejaa
