/- For every addresses, further ones, names, points and number, when the further ones are added and the addresses with these names removed, the index and the reference implementation give the same results; no conditions. -/
import Derived.Test.YtjfjbkgkafgofaaR26b
import Derived.Test.YtjfjbkgkafgofaaR27
import Derived.Test.YtjfjbkgkafgofaaRC
namespace Go.Proofs.Ytjfjbkgkafgofaa
open Go Go.Eng Go.ChangeShapes Go.WideShapes Go.RowKit R2 R4 R25 RB RC
theorem law3_ok : law3.Ok Try.prog 3 := R26.ok_split (p := R26.allOk) R26.law3a_ok R27.law3b_ok
theorem trodAll_five {H : Type} {enc : TypeId × Value → H} {P : Program} {w : World} {base : Nat} {spare : Nat → Bool} {held : Bool} {t t' t'' t3 t4 : TypeId} {args : Array Value} {ds : List (DataW H)} {ps : List MemPlace} (h : DataW.TrodAll enc P w base spare held [t, t', t'', t3, t4] args.toList ds ps) :
    ∃ v v' v'' v3 v4 d d' d'' d3 d4 p p' p'' p3 p4, args = #[v, v', v'', v3, v4] ∧ ds = [d, d', d'', d3, d4] ∧ ps = p ++ p' ++ p'' ++ p3 ++ p4 ∧
      DataW.Trod enc P w base spare held t v d p ∧ DataW.Trod enc P w base spare held t' v' d' p' ∧ DataW.Trod enc P w base spare held t'' v'' d'' p'' ∧ DataW.Trod enc P w base spare held t3 v3 d3 p3 ∧ DataW.Trod enc P w base spare held t4 v4 d4 p4 := by
  obtain ⟨v, vs, d, ds1, p, q, hargs, rfl, rfl, hd, hrest⟩ := trodAll_cons h
  obtain ⟨v', vs', d', ds2, p', q', rfl, rfl, rfl, hd', hrest'⟩ := trodAll_cons hrest
  obtain ⟨v'', vs'', d'', ds3, p'', q'', rfl, rfl, rfl, hd'', hrest''⟩ := trodAll_cons hrest'
  obtain ⟨v3, vs3, d3, ds4, p3, q3, rfl, rfl, rfl, hd3, hrest3⟩ := trodAll_cons hrest''
  obtain ⟨v4, vs4, d4, ds5, p4, q4, rfl, rfl, rfl, hd4, hrest4⟩ := trodAll_cons hrest3
  obtain ⟨rfl, rfl, rfl⟩ := trodAll_nil hrest4
  exact ⟨v, v', v'', v3, v4, d, d', d'', d3, d4, p, p', p'', p3, p4, by cases args; simp_all, rfl, by simp, hd, hd', hd'', hd3, hd4⟩
set_option maxRecDepth 100000 in
theorem reverseMatchesReference_lifted (os : Os) (started : os.Started) (H : Type) (enc : TypeId × Value → H) :
    ReturnsInHanded {} Try.checked os 3 .any (Rows.reverseMatchesReferenceSpec.pre6 enc Try.prog Try.f3 Rows.reverseMatchesReferenceRow.domain false) (Rows.reverseMatchesReferenceSpec.post enc Try.prog Try.f3 false true false false) := by
  refine law_lifted (C := Try.checked) (tb := 4) started own (by kernel_rfl) Try.func3
    (ChangeSpec.witness6 (enc := enc) (C := Try.checked) false ⟨#[], #[.slice none 0 0, .slice none 0 0, .slice none 0 0, .slice none 0 0, .int .i64 0], []⟩ 8 (by kernel_rfl) (by kernel_rfl) (by kernel_rfl) (by kernel_rfl))
    laidOut ?_ rfl (by kernel_rfl) Try.underlying4 ?_ ?_
  · rw [Try.params3]
    intro t ht
    simp only [List.mem_cons, List.not_mem_nil, or_false] at ht
    rcases ht with rfl | rfl | rfl | rfl | rfl <;> exact ⟨by kernel_rfl, of_decide_eq_true (by kernel_rfl)⟩
  · intro ds hds
    rw [Try.params3] at hds
    match ds, hds with
    | [d1, d2, d3, d4, d5], _ => rfl
  · intro W base args ds p hval hA hw
    rw [Try.params3] at hval hA hw
    obtain ⟨v0, v1, v2, v3, v4, d0, d1, d2, d3, d4, p0, p1, p2, p3, p4, rfl, rfl, rfl, h0, h1, h2, h3, h4⟩ := trodAll_five hA
    obtain ⟨x, r0, b0, b1⟩ := open22 (hval 0 22 v0 rfl rfl) h0 (hw 0 22 d0 rfl rfl)
    obtain ⟨y, r1, b2, b3⟩ := open22 (hval 1 22 v1 rfl rfl) h1 (hw 1 22 d1 rfl rfl)
    obtain ⟨s, r2, b4⟩ := open23 (hval 2 23 v2 rfl rfl) h2 (hw 2 23 d2 rfl rfl)
    obtain ⟨q, r3, b5⟩ := open24 (hval 3 24 v3 rfl rfl) h3 (hw 3 24 d3 rfl rfl)
    obtain ⟨m, r4, _, _⟩ := open3 (hval 4 3 v4 rfl rfl) h4 (hw 4 3 d4 rfl rfl)
    have hm := reach_le
    refine call_of_spec law3_ok (vs := [v0, v1, v2, v3, v4]) (x := ⟨x, y, s, q, m⟩) ⟨⟨by dsimp only; omega, fun i hi => ?_⟩, ⟨by dsimp only; omega, fun i hi => ?_⟩, by dsimp only; omega, by dsimp only; omega⟩ ?_ rfl
    · have := b1 i hi
      dsimp only
      omega
    · have := b3 i hi
      dsimp only
      omega
    · exact ⟨v0, _, rfl, r0, v1, _, rfl, r1, v2, _, rfl, r2, v3, _, rfl, r3, v4, _, rfl, r4, rfl⟩
theorem reverseMatchesReference_holds : Rows.ReverseMatchesReferenceSaid :=
  OpenClaim.holds_of_wide 3 Try.f3 rfl rfl rfl rfl rfl rfl rfl ⟨rfl, rfl, rfl, rfl, rfl⟩ rfl rfl rfl rfl rfl (by kernel_rfl) Try.func3 (by kernel_rfl)
    (of_decide_eq_true (by kernel_rfl)) (by unfold Func.isWrapper; first | (rw [if_pos (by decide +kernel)]; kernel_rfl) | (rw [if_neg (by decide +kernel)]; exact ⟨rfl, rfl⟩))
    (fun os started H enc _ => reverseMatchesReference_lifted os started H enc)
#print axioms reverseMatchesReference_holds
end Go.Proofs.Ytjfjbkgkafgofaa
