/- A part of the proof. -/
import Derived.Test.YtpiolkcdfgiefaaGreatDoorX8
import Derived.Test.YtpiolkcdfgiefaaGreatDoorP8a
import Derived.Test.YtpiolkcdfgiefaaGreatDoorTie
namespace Go.Proofs.YtpiolkcdfgiefaaGreatDoor
open Go Go.Eng Go.ChangeShapes Go.WideShapes Go.RowKit VO VC VC2
theorem Ws:Rows.TrieNodesSaid :=
 OpenClaim.holds_of_wide 8 Tryz.f8 rfl rfl rfl rfl rfl rfl rfl ⟨rfl,rfl,rfl,rfl,rfl⟩ rfl rfl rfl rfl rfl (by kernel_rfl) Tryz.func8 (by kernel_rfl)
  (of_decide_eq_true (by kernel_rfl)) (by unfold Func.isWrapper; first|(rw [if_pos (by decide +kernel)]; kernel_rfl)|(rw [if_neg (by decide +kernel)]; exact ⟨rfl,rfl⟩))
  (fun os started H enc _=>Wr os started H enc)
end Go.Proofs.YtpiolkcdfgiefaaGreatDoor
