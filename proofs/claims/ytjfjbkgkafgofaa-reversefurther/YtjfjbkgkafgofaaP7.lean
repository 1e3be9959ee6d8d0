/- The statement ReverseFurther: for every addresses, further address, point and number the function returns true and leaves its arguments as they were. Conditions: none beyond those of the given row. -/
import Derived.Test.YtjfjbkgkafgofaaR23
import Derived.Test.YtjfjbkgkafgofaaRB
namespace Go.Proofs.Ytjfjbkgkafgofaa
open Go Go.Eng Go.ChangeShapes Go.WideShapes Go.RowKit R2 R4 R23 RB
set_option maxRecDepth 100000 in
theorem reverseFurther_lifted (os : Os) (started : os.Started) (H : Type) (enc : TypeId × Value → H) :
    ReturnsInHanded {} Try.checked os 7 .any (Rows.reverseFurtherSpec.pre6 enc Try.prog Try.f7 Rows.reverseFurtherRow.domain false) (Rows.reverseFurtherSpec.post enc Try.prog Try.f7 false true false false) := by
  refine law_lifted (C := Try.checked) (tb := 4) started own (by kernel_rfl) Try.func7
    (ChangeSpec.witness6 (enc := enc) (C := Try.checked) false ⟨#[], #[.slice none 0 0, .agg #[.string ⟨#[]⟩, .string ⟨#[]⟩, .string ⟨#[]⟩, .string ⟨#[]⟩, .string ⟨#[]⟩, .int .i64 0, .string ⟨#[]⟩, .int .i64 0, .int .i64 0, .int .i64 0, .int .i64 0], .agg #[.int .i64 0, .int .i64 0], .int .i64 0], []⟩ 8 (by kernel_rfl) (by kernel_rfl) (by kernel_rfl) (by kernel_rfl))
    laidOut ?_ rfl (by kernel_rfl) Try.underlying4 ?_ ?_
  · rw [Try.params7]
    intro t ht
    simp only [List.mem_cons, List.not_mem_nil, or_false] at ht
    rcases ht with rfl | rfl | rfl | rfl <;> exact ⟨by kernel_rfl, of_decide_eq_true (by kernel_rfl)⟩
  · intro ds hds
    rw [Try.params7] at hds
    match ds, hds with
    | [d1, d2, d3, d4], _ => rfl
  · intro W base args ds p hval hA hw
    rw [Try.params7] at hval hA hw
    obtain ⟨v0, v1, v2, v3, d0, d1, d2, d3, p0, p1, p2, p3, rfl, rfl, rfl, h0, h1, h2, h3⟩ := trodAll_four hA
    obtain ⟨x, r0, b0, b1⟩ := open22 (hval 0 22 v0 rfl rfl) h0 (hw 0 22 d0 rfl rfl)
    obtain ⟨a, r1, b2⟩ := open40 (hval 1 40 v1 rfl rfl) h1 (hw 1 40 d1 rfl rfl)
    obtain ⟨q, r2⟩ := open38 (hval 2 38 v2 rfl rfl) h2 (hw 2 38 d2 rfl rfl)
    obtain ⟨m, r3, _, _⟩ := open3 (hval 3 3 v3 rfl rfl) h3 (hw 3 3 d3 rfl rfl)
    have hm := reach_le
    refine call_of_spec law7_ok (vs := [v0, v1, v2, v3]) (x := ⟨x, a, q, m⟩) ⟨⟨by dsimp only; omega, fun i hi => ?_⟩, by dsimp only; omega⟩ ?_ rfl
    · have := b1 i hi
      dsimp only
      omega
    · exact ⟨v0, _, rfl, r0, v1, _, rfl, r1, v2, _, rfl, r2, v3, _, rfl, r3, rfl⟩
theorem reverseFurther_holds : Rows.ReverseFurtherSaid :=
  OpenClaim.holds_of_wide 7 Try.f7 rfl rfl rfl rfl rfl rfl rfl ⟨rfl, rfl, rfl, rfl, rfl⟩ rfl rfl rfl rfl rfl (by kernel_rfl) Try.func7 (by kernel_rfl)
    (of_decide_eq_true (by kernel_rfl)) (by unfold Func.isWrapper; first | (rw [if_pos (by decide +kernel)]; kernel_rfl) | (rw [if_neg (by decide +kernel)]; exact ⟨rfl, rfl⟩))
    (fun os started H enc _ => reverseFurther_lifted os started H enc)
#print axioms reverseFurther_holds
end Go.Proofs.Ytjfjbkgkafgofaa
