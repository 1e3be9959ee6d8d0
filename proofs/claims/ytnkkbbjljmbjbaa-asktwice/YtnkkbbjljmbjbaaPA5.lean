/- For every facts, Make finds a plan exactly if they are proper and no two candidates have all answers equal, and says which of the two fails; no conditions. -/
import Derived.Test.YtnkkbbjljmbjbaaRBA
namespace Go.Proofs.Ytnkkbbjljmbjbaa
open Go Go.Eng Go.ChangeShapes Go.WideShapes Go.RowKit A0 A1 A16 RBA
set_option maxRecDepth 100000 in
theorem askTwice_lifted (os : Os) (started : os.Started) (H : Type) (enc : TypeId × Value → H) :
    ReturnsInHanded {} Try.checked os 5 .any (Rows.askTwiceSpec.pre6 enc Try.prog Try.f5 Rows.askTwiceRow.domain false) (Rows.askTwiceSpec.post enc Try.prog Try.f5 false true false false) := by
  refine law_lifted (C := Try.checked) (tb := 4) started own (by kernel_rfl) Try.func5
    (ChangeSpec.witness6 (enc := enc) (C := Try.checked) false ⟨#[], #[.slice none 0 0], []⟩ 8 (by kernel_rfl) (by kernel_rfl) (by kernel_rfl) (by kernel_rfl))
    laidOut ?_ rfl (by kernel_rfl) Try.underlying4 ?_ ?_
  · rw [Try.params5]
    intro t ht
    simp only [List.mem_cons, List.not_mem_nil, or_false] at ht
    rcases ht with rfl
    exact ⟨by kernel_rfl, of_decide_eq_true (by kernel_rfl)⟩
  · intro ds hds
    rw [Try.params5] at hds
    match ds, hds with
    | [d1], _ => rfl
  · intro W base args ds p hval hA hw
    rw [Try.params5] at hval hA hw
    obtain ⟨v0, d0, rfl, rfl, h0⟩ := trodAll_one hA
    obtain ⟨F, r0, b0, b1⟩ := open22 (hval 0 22 v0 rfl rfl) h0 (hw 0 22 d0 rfl rfl)
    have hm := reach_le
    refine call_of_spec law5_ok (vs := [v0]) (x := F) ⟨by omega, fun i hi => ?_⟩ ?_ rfl
    · have := b1 i hi
      omega
    · exact ⟨v0, _, rfl, r0, rfl⟩
theorem askTwice_holds : Rows.AskTwiceSaid :=
  OpenClaim.holds_of_wide 5 Try.f5 rfl rfl rfl rfl rfl rfl rfl ⟨rfl, rfl, rfl, rfl, rfl⟩ rfl rfl rfl rfl rfl (by kernel_rfl) Try.func5 (by kernel_rfl)
    (of_decide_eq_true (by kernel_rfl)) (by unfold Func.isWrapper; first | (rw [if_pos (by decide +kernel)]; kernel_rfl) | (rw [if_neg (by decide +kernel)]; exact ⟨rfl, rfl⟩))
    (fun os started H enc _ => askTwice_lifted os started H enc)
#print axioms askTwice_holds
end Go.Proofs.Ytnkkbbjljmbjbaa
