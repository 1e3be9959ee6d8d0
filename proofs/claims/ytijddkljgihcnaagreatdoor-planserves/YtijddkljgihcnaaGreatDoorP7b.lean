/- A part of the proof. -/
import Derived.Test.YtijddkljgihcnaaGreatDoorX7
import Derived.Test.YtijddkljgihcnaaGreatDoorP7a
import Derived.Test.YtijddkljgihcnaaGreatDoorTie
namespace Go.Proofs.YtijddkljgihcnaaGreatDoor
open Go Go.Eng Go.ChangeShapes Go.WideShapes Go.RowKit VO VC
theorem Vr:Rows.PlanServesSaid :=
 OpenClaim.holds_of_wide 7 Tryz.f7 rfl rfl rfl rfl rfl rfl rfl ⟨rfl,rfl,rfl,rfl,rfl⟩ rfl rfl rfl rfl rfl (by kernel_rfl) Tryz.func7 (by kernel_rfl)
  (of_decide_eq_true (by kernel_rfl)) (by unfold Func.isWrapper; first|(rw [if_pos (by decide +kernel)]; kernel_rfl)|(rw [if_neg (by decide +kernel)]; exact ⟨rfl,rfl⟩))
  (fun os started H enc _=>Vq os started H enc)
end Go.Proofs.YtijddkljgihcnaaGreatDoor
