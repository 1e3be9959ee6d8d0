/- The statement ReverseNearest: for every addresses, point and number the function returns true and leaves its arguments as they were. Conditions: none beyond those of the given row. -/
import Derived.Test.YtjfjbkgkafgofaaR20
import Derived.Test.YtjfjbkgkafgofaaRB
namespace Go.Proofs.Ytjfjbkgkafgofaa
open Go Go.Eng Go.ChangeShapes Go.WideShapes Go.RowKit R2 R4 R20 RB
set_option maxRecDepth 100000 in
theorem reverseNearest_lifted (os : Os) (started : os.Started) (H : Type) (enc : TypeId × Value → H) :
    ReturnsInHanded {} Try.checked os 4 .any (Rows.reverseNearestSpec.pre6 enc Try.prog Try.f4 Rows.reverseNearestRow.domain false) (Rows.reverseNearestSpec.post enc Try.prog Try.f4 false true false false) := by
  refine law_lifted (C := Try.checked) (tb := 4) started own (by kernel_rfl) Try.func4
    (ChangeSpec.witness6 (enc := enc) (C := Try.checked) false ⟨#[], #[.slice none 0 0, .agg #[.int .i64 0, .int .i64 0], .int .i64 0], []⟩ 8 (by kernel_rfl) (by kernel_rfl) (by kernel_rfl) (by kernel_rfl))
    laidOut ?_ rfl (by kernel_rfl) Try.underlying4 ?_ ?_
  · rw [Try.params4]
    intro t ht
    simp only [List.mem_cons, List.not_mem_nil, or_false] at ht
    rcases ht with rfl | rfl | rfl <;> exact ⟨by kernel_rfl, of_decide_eq_true (by kernel_rfl)⟩
  · intro ds hds
    rw [Try.params4] at hds
    match ds, hds with
    | [d1, d2, d3], _ => rfl
  · intro W base args ds p hval hA hw
    rw [Try.params4] at hval hA hw
    obtain ⟨v0, v1, v2, d0, d1, d2, p0, p1, p2, rfl, rfl, rfl, h0, h1, h2⟩ := trodAll_three hA
    obtain ⟨x, r0, b0, b1⟩ := open22 (hval 0 22 v0 rfl rfl) h0 (hw 0 22 d0 rfl rfl)
    obtain ⟨q, r1⟩ := open38 (hval 1 38 v1 rfl rfl) h1 (hw 1 38 d1 rfl rfl)
    obtain ⟨m, r2, _, _⟩ := open3 (hval 2 3 v2 rfl rfl) h2 (hw 2 3 d2 rfl rfl)
    have hm := reach_le
    refine call_of_spec law4_ok (vs := [v0, v1, v2]) (x := ⟨x, q, m⟩) ⟨by dsimp only; omega, fun i hi => ?_⟩ ?_ rfl
    · have := b1 i hi
      dsimp only
      omega
    · exact ⟨v0, _, rfl, r0, v1, _, rfl, r1, v2, _, rfl, r2, rfl⟩
theorem reverseNearest_holds : Rows.ReverseNearestSaid :=
  OpenClaim.holds_of_wide 4 Try.f4 rfl rfl rfl rfl rfl rfl rfl ⟨rfl, rfl, rfl, rfl, rfl⟩ rfl rfl rfl rfl rfl (by kernel_rfl) Try.func4 (by kernel_rfl)
    (of_decide_eq_true (by kernel_rfl)) (by unfold Func.isWrapper; first | (rw [if_pos (by decide +kernel)]; kernel_rfl) | (rw [if_neg (by decide +kernel)]; exact ⟨rfl, rfl⟩))
    (fun os started H enc _ => reverseNearest_lifted os started H enc)
#print axioms reverseNearest_holds
end Go.Proofs.Ytjfjbkgkafgofaa
