/- A part of the proof. -/
import Derived.Test.YtijddkljgihcnaaGreatDoorP8a
import Derived.Test.YtijddkljgihcnaaGreatDoorP8c
import Derived.Test.YtijddkljgihcnaaGreatDoorTie
namespace Go.Proofs.YtijddkljgihcnaaGreatDoor
open Go Go.Eng Go.ChangeShapes Go.WideShapes Go.RowKit VO VC
theorem oH:Rows.PlanTargetsSaid :=
 OpenClaim.holds_of_wide 8 Tryz.f8 rfl rfl rfl rfl rfl rfl rfl ⟨rfl,rfl,rfl,rfl,rfl⟩ rfl rfl rfl rfl rfl (by kernel_rfl) Tryz.func8 Fv
  (of_decide_eq_true (by kernel_rfl)) (by unfold Func.isWrapper; first|(rw [if_pos (by decide +kernel)]; kernel_rfl)|(rw [if_neg (by decide +kernel)]; exact ⟨rfl,rfl⟩))
  (fun os started H enc _=>nI os started H enc)
end Go.Proofs.YtijddkljgihcnaaGreatDoor
