/- Cuts: for every valid ring (at most 50 points), two of its points and a point, if both rings into which it is cut between them are valid and within it, they are apart, their areas add up, and a point inside one of them is inside the ring. No further condition. -/
import Derived.Test.YtcckdpimimkejaaG28
import Derived.Test.YtcckdpimimkejaaRBG
namespace Go.Proofs.Ytcckdpimimkejaa
open Go Go.Eng Go.ChangeShapes Go.WideShapes Go.RowKit G1 G3 G28 RBG
set_option maxRecDepth 100000 in
theorem polygonCuts_lifted (os : Os) (started : os.Started) (H : Type) (enc : TypeId × Value → H) :
    ReturnsInHanded {} Try.checked os 10 .any (Rows.polygonCutsSpec.pre6 enc Try.prog Try.f10 Rows.polygonCutsRow.domain false) (Rows.polygonCutsSpec.post enc Try.prog Try.f10 false true false false) := by
  refine law_lifted (C := Try.checked) (tb := 4) started own (by kernel_rfl) Try.func10
    (ChangeSpec.witness6 (enc := enc) (C := Try.checked) false ⟨#[], #[.slice none 0 0, .int .u8 0, .int .u8 0, .agg #[.int .i64 0, .int .i64 0]], []⟩ 8 (by kernel_rfl) (by kernel_rfl) (by kernel_rfl) (by kernel_rfl))
    laidOut ?_ rfl (by kernel_rfl) Try.underlying4 ?_ ?_
  · rw [Try.params10]
    intro t ht
    simp only [List.mem_cons, List.not_mem_nil, or_false] at ht
    rcases ht with rfl | rfl | rfl | rfl <;> exact ⟨by kernel_rfl, of_decide_eq_true (by kernel_rfl)⟩
  · intro ds hds
    rw [Try.params10] at hds
    match ds, hds with
    | [d1, d2, d3, d4], _ => rfl
  · intro W base args ds p hval hA hw
    rw [Try.params10] at hval hA hw
    obtain ⟨v0, v1, v2, v3, d0, d1, d2, d3, p0, p1, p2, p3, rfl, rfl, h0, h1, h2, h3⟩ := trodAll_4 hA
    obtain ⟨a, r0, b0⟩ := open22 (hval 0 22 v0 rfl rfl) h0 (hw 0 22 d0 rfl rfl)
    obtain ⟨i, r1, c1, c2⟩ := open5 (hval 1 5 v1 rfl rfl) h1 (hw 1 5 d1 rfl rfl)
    obtain ⟨k, r2, c3, c4⟩ := open5 (hval 2 5 v2 rfl rfl) h2 (hw 2 5 d2 rfl rfl)
    obtain ⟨q, r3⟩ := open24 (hval 3 24 v3 rfl rfl) h3 (hw 3 24 d3 rfl rfl)
    have hm := reach_le
    refine call_of_spec law10_ok (vs := [v0, v1, v2, v3]) (x := ⟨a, i, k, q⟩) ⟨by dsimp only; omega, ⟨c1, c2⟩, c3, c4⟩ ?_ rfl
    exact ⟨v0, _, rfl, r0, v1, _, rfl, r1, v2, _, rfl, r2, v3, _, rfl, r3, rfl⟩
theorem polygonCuts_holds : Rows.PolygonCutsSaid :=
  OpenClaim.holds_of_wide 10 Try.f10 rfl rfl rfl rfl rfl rfl rfl ⟨rfl, rfl, rfl, rfl, rfl⟩ rfl rfl rfl rfl rfl (by kernel_rfl) Try.func10 (by kernel_rfl)
    (of_decide_eq_true (by kernel_rfl)) (by unfold Func.isWrapper; first | (rw [if_pos (by decide +kernel)]; kernel_rfl) | (rw [if_neg (by decide +kernel)]; exact ⟨rfl, rfl⟩))
    (fun os started H enc _ => polygonCuts_lifted os started H enc)
#print axioms polygonCuts_holds
end Go.Proofs.Ytcckdpimimkejaa
