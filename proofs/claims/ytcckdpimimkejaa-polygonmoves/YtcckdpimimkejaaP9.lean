/- PolygonMoves: two rings and a point that are moved or turned over answer as before; the contract of the law (G22) joined with the statement. -/
import Derived.Test.YtcckdpimimkejaaG22
import Derived.Test.YtcckdpimimkejaaRBG
namespace Go.Proofs.Ytcckdpimimkejaa
open Go Go.Eng Go.ChangeShapes Go.WideShapes Go.RowKit G1 G3 G22 RBG
set_option maxRecDepth 100000 in
theorem polygonMoves_lifted (os : Os) (started : os.Started) (H : Type) (enc : TypeId × Value → H) :
    ReturnsInHanded {} Try.checked os 9 .any (Rows.polygonMovesSpec.pre6 enc Try.prog Try.f9 Rows.polygonMovesRow.domain false) (Rows.polygonMovesSpec.post enc Try.prog Try.f9 false true false false) := by
  refine law_lifted (C := Try.checked) (tb := 4) started own (by kernel_rfl) Try.func9
    (ChangeSpec.witness6 (enc := enc) (C := Try.checked) false ⟨#[], #[.slice none 0 0, .slice none 0 0, .agg #[.int .i64 0, .int .i64 0], .int .i16 0, .int .i16 0, .bool false], []⟩ 8 (by kernel_rfl) (by kernel_rfl) (by kernel_rfl) (by kernel_rfl))
    laidOut ?_ rfl (by kernel_rfl) Try.underlying4 ?_ ?_
  · rw [Try.params9]
    intro t ht
    simp only [List.mem_cons, List.not_mem_nil, or_false] at ht
    rcases ht with rfl | rfl | rfl | rfl | rfl | rfl <;> exact ⟨by kernel_rfl, of_decide_eq_true (by kernel_rfl)⟩
  · intro ds hds
    rw [Try.params9] at hds
    match ds, hds with
    | [d1, d2, d3, d4, d5, d6], _ => rfl
  · intro W base args ds p hval hA hw
    rw [Try.params9] at hval hA hw
    obtain ⟨v0, v1, v2, v3, v4, v5, d0, d1, d2, d3, d4, d5, p0, p1, p2, p3, p4, p5, rfl, rfl, h0, h1, h2, h3, h4, h5⟩ := trodAll_6 hA
    obtain ⟨a, r0, b0⟩ := open22 (hval 0 22 v0 rfl rfl) h0 (hw 0 22 d0 rfl rfl)
    obtain ⟨b, r1, b1⟩ := open22 (hval 1 22 v1 rfl rfl) h1 (hw 1 22 d1 rfl rfl)
    obtain ⟨q, r2⟩ := open24 (hval 2 24 v2 rfl rfl) h2 (hw 2 24 d2 rfl rfl)
    obtain ⟨m, r3, c1, c2⟩ := open41 (hval 3 41 v3 rfl rfl) h3 (hw 3 41 d3 rfl rfl)
    obtain ⟨k, r4, c3, c4⟩ := open41 (hval 4 41 v4 rfl rfl) h4 (hw 4 41 d4 rfl rfl)
    obtain ⟨e, r5⟩ := open4 (hval 5 4 v5 rfl rfl) h5 (hw 5 4 d5 rfl rfl)
    have hm := reach_le
    refine call_of_spec law9_ok (vs := [v0, v1, v2, v3, v4, v5]) (x := ⟨a, b, q, m, k, e⟩) ⟨⟨by dsimp only; omega, by dsimp only; omega⟩, ⟨c1, c2⟩, c3, c4⟩ ?_ rfl
    exact ⟨v0, _, rfl, r0, v1, _, rfl, r1, v2, _, rfl, r2, v3, _, rfl, r3, v4, _, rfl, r4, v5, _, rfl, r5, rfl⟩
theorem polygonMoves_holds : Rows.PolygonMovesSaid :=
  OpenClaim.holds_of_wide 9 Try.f9 rfl rfl rfl rfl rfl rfl rfl ⟨rfl, rfl, rfl, rfl, rfl⟩ rfl rfl rfl rfl rfl (by kernel_rfl) Try.func9 (by kernel_rfl)
    (of_decide_eq_true (by kernel_rfl)) (by unfold Func.isWrapper; first | (rw [if_pos (by decide +kernel)]; kernel_rfl) | (rw [if_neg (by decide +kernel)]; exact ⟨rfl, rfl⟩))
    (fun os started H enc _ => polygonMoves_lifted os started H enc)
#print axioms polygonMoves_holds
end Go.Proofs.Ytcckdpimimkejaa
