/- A part of the proof. -/
import Derived.Test.YtpiolkcdfgiefaaGreatDoorEngCard
import Derived.Test.YtpiolkcdfgiefaaGreatDoorEngC
import Derived.Test.YtpiolkcdfgiefaaGreatDoorTie
import Derived.Stop.LaidErr
import Derived.Shelf.Vars
namespace VC
open Go Go.Eng Go.Proofs Go.RowKit Go.Proofs.YtpiolkcdfgiefaaGreatDoor
set_option maxRecDepth 100000
def Bo : List (String × DataW Unit) := [("math/bits.deBruijn32tab", Rows.laid_math_bits_deBruijn32tab), ("math/bits.deBruijn64tab", Rows.laid_math_bits_deBruijn64tab), ("internal/strconv.uint64pow10", Rows.laid_internal_strconv_uint64pow10), ("strconv.ErrRange", Rows.laid_strconv_ErrRange), ("strconv.ErrSyntax", Rows.laid_strconv_ErrSyntax)]
theorem own:ownKnob Tryz.prog.godebug=none:=by kernel_rfl
theorem laidOut:laidOutB Tryz.prog=true:=by kernel_rfl
theorem Qy : Tryz.prog.globalNamed "internal/strconv.uint64pow10" = some 0 := by kernel_rfl
theorem Qx : Tryz.prog.globalNamed "math/bits.deBruijn64tab" = some 7 := by kernel_rfl
theorem Q0 : Tryz.prog.globalNamed "strconv.ErrSyntax" = some 4 := by kernel_rfl
theorem Qz : Tryz.prog.globalNamed "strconv.ErrRange" = some 5 := by kernel_rfl
theorem row214 (u : TypeId) (h : Tryz.prog.typeName? 3 u = some "*errors.errorString") : u = 214 :=
 typeName_ptr_named (nm := "errors.errorString") (by rw [show ("*" ++ "errors.errorString") = "*errors.errorString" from rfl]; kernel_rfl) (by kernel_rfl) (by decide) u (by rw [show ("*" ++ "errors.errorString") = "*errors.errorString" from rfl]; exact h)
theorem xW {P:Program} {W:World} {n:String} {g:Nat} {cs:Array Value} (hg:P.globalNamed n=some g) (hv:W.var? P n=some cs):∃ T fr,W.heap[g]?=some (.cells cs T fr):=by
 unfold World.var? at hv
 rw [hg] at hv
 simp only [Option.bind_some] at hv
 split at hv
 ·rename_i c T fr he
  cases hv
  exact ⟨T,fr,he⟩
 ·cases hv
theorem Va {W:World} (hs:W.ShapedOpen Tryz.prog) (hl:laidMetH Tryz.prog Bo W):GV W:=by
 rw [MakeChecks.laidMetH_plain _ _ _ (by kernel_rfl)] at hl
 have l2:=hl.tail
 have l3:=l2.tail
 have l4:=l3.tail
 have l5:=l4.tail
 have hd : Lib.TabIs Tryz.prog W "math/bits.deBruijn64tab" .u8 dbr64 :=
  Lib.tabIs_of_head (zs:=dbr64) Qx (by kernel_rfl) Tryz.underlying212 Tryz.underlying5 (by kernel_rfl) (by kernel_rfl) l2
 have ht : Lib.TabIs Tryz.prog W "internal/strconv.uint64pow10" .u64 pow10 :=
  Lib.tabIs_of_head (zs:=pow10) Qy (by kernel_rfl) Tryz.underlying176 Tryz.underlying109 (by kernel_rfl) (by kernel_rfl) l3
 obtain ⟨ar,sr,vr,_⟩:=laid_sentinel l4 Qz (by kernel_rfl) Tryz.underlying91 row214 Tryz.underlying214 Tryz.underlying216 rfl rfl Tryz.underlying9 (by kernel_rfl) (by kernel_rfl)
 obtain ⟨ay,sy,vy,_⟩:=laid_sentinel l5 Q0 (by kernel_rfl) Tryz.underlying91 row214 Tryz.underlying214 Tryz.underlying216 rfl rfl Tryz.underlying9 (by kernel_rfl) (by kernel_rfl)
 refine ⟨xW Qy ht,?_,?_,?_,xW Qx hd⟩
 ·exact cell_of_shapedOpen_int (P:=Tryz.prog) (g:=3) (t:=3) (zero:=#[.int .i64 0]) hs (of_decide_eq_true (by kernel_rfl)) (by kernel_rfl) rfl (by kernel_rfl) (by kernel_rfl) Tryz.underlying3
 ·exact ⟨_,(by simpa using World.var?_cell Q0 vy 0:W.cell? ⟨4,0,none⟩=_),.inr ⟨_,_,rfl⟩⟩
 ·exact ⟨_,(by simpa using World.var?_cell Qz vr 0:W.cell? ⟨5,0,none⟩=_),.inr ⟨_,_,rfl⟩⟩
end VC
