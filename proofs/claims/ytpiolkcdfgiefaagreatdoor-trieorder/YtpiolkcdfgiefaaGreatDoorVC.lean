/- A part of the proof. -/
import Derived.Test.YtpiolkcdfgiefaaGreatDoorEngCard
import Derived.Test.YtpiolkcdfgiefaaGreatDoorEngC
import Derived.Test.YtpiolkcdfgiefaaGreatDoorTie
import Derived.Stop.LaidErr
import Derived.Shelf.Vars
namespace VC
open Go Go.Eng Go.Proofs Go.RowKit Go.Proofs.YtpiolkcdfgiefaaGreatDoor
set_option maxRecDepth 100000
theorem own:ownKnob Tryz.prog.godebug=none:=by kernel_rfl
theorem laidOut:laidOutB Tryz.prog=true:=by kernel_rfl
theorem V9 : Tryz.prog.globalNamed "internal/strconv.uint64pow10" = some 0 := by kernel_rfl
theorem V8 : Tryz.prog.globalNamed "math/bits.deBruijn64tab" = some 7 := by kernel_rfl
theorem Wb : Tryz.prog.globalNamed "strconv.ErrSyntax" = some 4 := by kernel_rfl
theorem Wa : Tryz.prog.globalNamed "strconv.ErrRange" = some 5 := by kernel_rfl
theorem row214 (u : TypeId) (h : Tryz.prog.typeName? 3 u = some "*errors.errorString") : u = 214 :=
 typeName_ptr_named (nm := "errors.errorString") (by rw [show ("*" ++ "errors.errorString") = "*errors.errorString" from rfl]; kernel_rfl) (by kernel_rfl) (by decide) u (by rw [show ("*" ++ "errors.errorString") = "*errors.errorString" from rfl]; exact h)
theorem Da {P:Program} {W:World} {n:String} {g:Nat} {cs:Array Value} (hg:P.globalNamed n=some g) (hv:W.var? P n=some cs):∃ T fr,W.heap[g]?=some (.cells cs T fr):=by
 unfold World.var? at hv;rw [hg] at hv;simp only [eQ] at hv;split at hv
 ·rename_i c T fr he;cases hv;exact ⟨T,fr,he⟩
 ·cases hv
end VC
