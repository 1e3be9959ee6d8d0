/- A part. -/
import Derived.Test.YtijddkljgihcnaaGreatDoorS34
import Derived.Test.YtijddkljgihcnaaGreatDoorP6a
import Derived.Test.YtijddkljgihcnaaGreatDoorTie
namespace Go.Proofs.YtijddkljgihcnaaGreatDoor
open Go Go.Eng Go.ChangeShapes Go.WideShapes Go.RowKit VO VC
theorem Vu:Rows.PlanLinesSaid :=
 OpenClaim.holds_of_wide 6 Tryz.f6 rfl rfl rfl rfl rfl rfl rfl ⟨rfl,rfl,rfl,rfl,rfl⟩ rfl rfl rfl rfl rfl (by kernel_rfl) Tryz.func6 (by kernel_rfl)
  (of_decide_eq_true (by kernel_rfl)) (by unfold Func.isWrapper; first|(rw [if_pos (by decide +kernel)]; kernel_rfl)|(rw [if_neg (by decide +kernel)]; exact ⟨rfl,rfl⟩))
  (fun os started H enc _=>Vt os started H enc)
end Go.Proofs.YtijddkljgihcnaaGreatDoor
