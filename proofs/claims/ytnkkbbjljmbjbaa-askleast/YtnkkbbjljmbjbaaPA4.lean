/- gazetteerlaw38.AskLeast answers true whatever the input, and leaves what it is handed as it was: where a plan is right, Make gives one that is no deeper. -/
import Derived.Test.YtnkkbbjljmbjbaaA25
import Derived.Test.YtnkkbbjljmbjbaaRBP
namespace Go.Proofs.Ytnkkbbjljmbjbaa
open Go Go.Eng Go.ChangeShapes Go.WideShapes Go.RowKit A0 A1 A7 A24 A25 RBA RBP
theorem trodAll_pair {H : Type} {enc : TypeId × Value → H} {P : Program} {w : World} {base : Nat} {spare : Nat → Bool} {held : Bool} {t t' : TypeId} {args : Array Value} {ds : List (DataW H)} {ps : List MemPlace} (h : DataW.TrodAll enc P w base spare held [t, t'] args.toList ds ps) :
    ∃ v v' d d' p p', args = #[v, v'] ∧ ds = [d, d'] ∧ ps = p ++ p' ∧
      DataW.Trod enc P w base spare held t v d p ∧ DataW.Trod enc P w base spare held t' v' d' p' := by
  obtain ⟨v, vs, d, ds1, p, q, hargs, rfl, rfl, hd, hrest⟩ := trodAll_cons h
  obtain ⟨v', vs', d', ds2, p', q', rfl, rfl, rfl, hd', hrest'⟩ := trodAll_cons hrest
  obtain ⟨rfl, rfl, rfl⟩ := trodAll_nil hrest'
  exact ⟨v, v', d, d', p, p', by cases args; simp_all, rfl, by simp, hd, hd'⟩
set_option maxRecDepth 100000 in
theorem askLeast_lifted (os : Os) (started : os.Started) (H : Type) (enc : TypeId × Value → H) :
    ReturnsInHanded {} Try.checked os 4 .any (Rows.askLeastSpec.pre6 enc Try.prog Try.f4 Rows.askLeastRow.domain false) (Rows.askLeastSpec.post enc Try.prog Try.f4 false true false false) := by
  refine law_lifted (C := Try.checked) (tb := 4) started own (by kernel_rfl) Try.func4
    (ChangeSpec.witness6 (enc := enc) (C := Try.checked) false ⟨#[], #[.slice none 0 0, .agg #[.int .i64 0, .int .i64 0, .slice none 0 0, .slice none 0 0]], []⟩ 8 (by kernel_rfl) (by kernel_rfl) (by kernel_rfl) (by kernel_rfl))
    laidOut ?_ rfl (by kernel_rfl) Try.underlying4 ?_ ?_
  · rw [Try.params4]
    intro t ht
    simp only [List.mem_cons, List.not_mem_nil, or_false] at ht
    rcases ht with rfl | rfl <;> exact ⟨by kernel_rfl, of_decide_eq_true (by kernel_rfl)⟩
  · intro ds hds
    rw [Try.params4] at hds
    match ds, hds with
    | [d1, d2], _ => rfl
  · intro W base args ds p hval hA hw
    rw [Try.params4] at hval hA hw
    obtain ⟨v0, v1, d0, d1, p0, p1, rfl, rfl, rfl, h0, h1⟩ := trodAll_pair hA
    obtain ⟨F, r0, b0, b1⟩ := open22 (hval 0 22 v0 rfl rfl) h0 (hw 0 22 d0 rfl rfl)
    obtain ⟨q, r1, b2⟩ := open28 (hval 1 28 v1 rfl rfl) h1 (hw 1 28 d1 rfl rfl)
    have hm := reach_le
    refine call_of_spec law4_ok (vs := [v0, v1]) (x := ⟨F, q⟩) ⟨⟨by dsimp only; omega, fun i hi => ?_⟩, b2⟩ ?_ rfl
    · have := b1 i hi
      dsimp only
      omega
    · exact ⟨v0, _, rfl, r0, v1, _, rfl, r1, rfl⟩
theorem askLeast_holds : Rows.AskLeastSaid :=
  OpenClaim.holds_of_wide 4 Try.f4 rfl rfl rfl rfl rfl rfl rfl ⟨rfl, rfl, rfl, rfl, rfl⟩ rfl rfl rfl rfl rfl (by kernel_rfl) Try.func4 (by kernel_rfl)
    (of_decide_eq_true (by kernel_rfl)) (by unfold Func.isWrapper; first | (rw [if_pos (by decide +kernel)]; kernel_rfl) | (rw [if_neg (by decide +kernel)]; exact ⟨rfl, rfl⟩))
    (fun os started H enc _ => askLeast_lifted os started H enc)
#print axioms askLeast_holds
end Go.Proofs.Ytnkkbbjljmbjbaa
