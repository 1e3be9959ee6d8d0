/- A part of the proof. -/
import Derived.Test.YtijddkljgihcnaaGreatDoorCards
import Derived.Test.YtijddkljgihcnaaGreatDoorTie
import Derived.Test.YtijddkljgihcnaaGreatDoorChecked
import Derived.JoinedOf
import Derived.KernelRfl
namespace Go.Proofs.YtijddkljgihcnaaGreatDoor
open Go
theorem Vs:(Rows.planTargetsRow.inPlace == Tryz.prog.inPlace 8)=true:=by kernel_rfl
theorem Vv:(Rows.planTargetsRow.unfollowed == Tryz.prog.unfollowed 8)=true:=by kernel_rfl
theorem Vu:(Rows.planTargetsRow.recurses == Tryz.prog.recurses 8)=true:=by kernel_rfl
theorem Vt:(Rows.planTargetsRow.named == Tryz.prog.varsNamed 8)=true:=by kernel_rfl
theorem Fv:joinedFacts Tryz.prog 8 Tryz.f8 Rows.planTargetsSpec Rows.planTargetsRow=true:=by
 unfold joinedFacts
 rw [Vs,Vv,Vu,Vt]
 kernel_rfl
end Go.Proofs.YtijddkljgihcnaaGreatDoor
