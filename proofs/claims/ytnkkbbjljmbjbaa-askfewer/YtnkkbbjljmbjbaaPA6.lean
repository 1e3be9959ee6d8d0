/- gazetteerlaw38.AskFewer answers true whatever the input, and leaves what it is handed as it was: fewer candidates or one more question need no more questions. -/
import Derived.Test.YtnkkbbjljmbjbaaA19
import Derived.Test.YtnkkbbjljmbjbaaRBA
namespace Go.Proofs.Ytnkkbbjljmbjbaa
open Go Go.Eng Go.ChangeShapes Go.WideShapes Go.RowKit A0 A1 A18 A19 RBA
theorem trodAll_three {H : Type} {enc : TypeId × Value → H} {P : Program} {w : World} {base : Nat} {spare : Nat → Bool} {held : Bool} {t t' t'' : TypeId} {args : Array Value} {ds : List (DataW H)} {ps : List MemPlace} (h : DataW.TrodAll enc P w base spare held [t, t', t''] args.toList ds ps) :
    ∃ v v' v'' d d' d'' p p' p'', args = #[v, v', v''] ∧ ds = [d, d', d''] ∧ ps = p ++ p' ++ p'' ∧
      DataW.Trod enc P w base spare held t v d p ∧ DataW.Trod enc P w base spare held t' v' d' p' ∧ DataW.Trod enc P w base spare held t'' v'' d'' p'' := by
  obtain ⟨v, vs, d, ds1, p, q, hargs, rfl, rfl, hd, hrest⟩ := trodAll_cons h
  obtain ⟨v', vs', d', ds2, p', q', rfl, rfl, rfl, hd', hrest'⟩ := trodAll_cons hrest
  obtain ⟨v'', vs'', d'', ds3, p'', q'', rfl, rfl, rfl, hd'', hrest''⟩ := trodAll_cons hrest'
  obtain ⟨rfl, rfl, rfl⟩ := trodAll_nil hrest''
  exact ⟨v, v', v'', d, d', d'', p, p', p'', by cases args; simp_all, rfl, by simp, hd, hd', hd''⟩
set_option maxRecDepth 100000 in
theorem askFewer_lifted (os : Os) (started : os.Started) (H : Type) (enc : TypeId × Value → H) :
    ReturnsInHanded {} Try.checked os 6 .any (Rows.askFewerSpec.pre6 enc Try.prog Try.f6 Rows.askFewerRow.domain false) (Rows.askFewerSpec.post enc Try.prog Try.f6 false true false false) := by
  refine law_lifted (C := Try.checked) (tb := 4) started own (by kernel_rfl) Try.func6
    (ChangeSpec.witness6 (enc := enc) (C := Try.checked) false ⟨#[], #[.slice none 0 0, .int .u8 0, .slice none 0 0], []⟩ 8 (by kernel_rfl) (by kernel_rfl) (by kernel_rfl) (by kernel_rfl))
    laidOut ?_ rfl (by kernel_rfl) Try.underlying4 ?_ ?_
  · rw [Try.params6]
    intro t ht
    simp only [List.mem_cons, List.not_mem_nil, or_false] at ht
    rcases ht with rfl | rfl | rfl <;> exact ⟨by kernel_rfl, of_decide_eq_true (by kernel_rfl)⟩
  · intro ds hds
    rw [Try.params6] at hds
    match ds, hds with
    | [d1, d2, d3], _ => rfl
  · intro W base args ds p hval hA hw
    rw [Try.params6] at hval hA hw
    obtain ⟨v0, v1, v2, d0, d1, d2, p0, p1, p2, rfl, rfl, rfl, h0, h1, h2⟩ := trodAll_three hA
    obtain ⟨F, r0, b0, b1⟩ := open22 (hval 0 22 v0 rfl rfl) h0 (hw 0 22 d0 rfl rfl)
    obtain ⟨m, r1, b2, b3⟩ := open5 (hval 1 5 v1 rfl rfl) h1 (hw 1 5 d1 rfl rfl)
    obtain ⟨t, r2, b4⟩ := open25 (hval 2 25 v2 rfl rfl) h2 (hw 2 25 d2 rfl rfl)
    have hm := reach_le
    refine call_of_spec law6_ok (vs := [v0, v1, v2]) (x := ⟨F, m, t⟩) ⟨⟨by dsimp only; omega, fun i hi => ?_⟩, ⟨b2, b3⟩, by dsimp only; omega⟩ ?_ rfl
    · have := b1 i hi
      dsimp only
      omega
    · exact ⟨v0, _, rfl, r0, v1, _, rfl, r1, v2, _, rfl, r2, rfl⟩
theorem askFewer_holds : Rows.AskFewerSaid :=
  OpenClaim.holds_of_wide 6 Try.f6 rfl rfl rfl rfl rfl rfl rfl ⟨rfl, rfl, rfl, rfl, rfl⟩ rfl rfl rfl rfl rfl (by kernel_rfl) Try.func6 (by kernel_rfl)
    (of_decide_eq_true (by kernel_rfl)) (by unfold Func.isWrapper; first | (rw [if_pos (by decide +kernel)]; kernel_rfl) | (rw [if_neg (by decide +kernel)]; exact ⟨rfl, rfl⟩))
    (fun os started H enc _ => askFewer_lifted os started H enc)
#print axioms askFewer_holds
end Go.Proofs.Ytnkkbbjljmbjbaa
