/- A part of the proof. -/
import Derived.Test.YtijddkljgihcnaaGreatDoorEngCard
import Derived.Test.YtijddkljgihcnaaGreatDoorEV0
import Derived.Test.YtijddkljgihcnaaGreatDoorTie
import Derived.Stop.LaidErr
import Derived.Shelf.Vars
namespace VC
open Go Go.Eng Go.Proofs Go.RowKit Go.Proofs.YtijddkljgihcnaaGreatDoor
set_option maxRecDepth 100000
def yZ : List (String × DataW Unit) := [("math/bits.deBruijn32tab", Rows.laid_math_bits_deBruijn32tab), ("math/bits.deBruijn64tab", Rows.laid_math_bits_deBruijn64tab), ("internal/strconv.uint64pow10", Rows.laid_internal_strconv_uint64pow10), ("unicode/utf8.acceptRanges", Rows.laid_unicode_utf8_acceptRanges), ("strconv.ErrRange", Rows.laid_strconv_ErrRange), ("strconv.ErrSyntax", Rows.laid_strconv_ErrSyntax), ("unicode/utf8.first", Rows.laid_unicode_utf8_first)]
theorem own:ownKnob Tryz.prog.godebug=none:=by kernel_rfl
theorem laidOut:laidOutB Tryz.prog=true:=by kernel_rfl
theorem Oc : Tryz.prog.globalNamed "internal/strconv.uint64pow10" = some 3 := by kernel_rfl
theorem Oe : Tryz.prog.globalNamed "strconv.ErrSyntax" = some 1 := by kernel_rfl
theorem Od : Tryz.prog.globalNamed "strconv.ErrRange" = some 2 := by kernel_rfl
theorem row275 (u : TypeId) (h : Tryz.prog.typeName? 3 u = some "*errors.errorString") : u = 275 :=
 typeName_ptr_named (nm := "errors.errorString") (by rw [show ("*" ++ "errors.errorString") = "*errors.errorString" from rfl]; kernel_rfl) (by kernel_rfl) (by decide) u (by rw [show ("*" ++ "errors.errorString") = "*errors.errorString" from rfl]; exact h)
theorem Gn {P:Program} {W:World} {n:String} {g:Nat} {cs:Array Value} (hg:P.globalNamed n=some g) (hv:W.var? P n=some cs):∃ T fr,W.heap[g]?=some (.cells cs T fr):=by
 unfold World.var? at hv
 rw [hg] at hv
 simp only [Option.bind_some] at hv
 split at hv
 ·rename_i c T fr he
  cases hv
  exact ⟨T,fr,he⟩
 ·cases hv
theorem Uj {W:World} (hs:W.ShapedOpen Tryz.prog) (hl:laidMetH Tryz.prog yZ W):GV W:=by
 rw [MakeChecks.laidMetH_plain _ _ _ (by kernel_rfl)] at hl
 have l3:=hl.tail.tail
 have l5:=l3.tail.tail
 have l6:=l5.tail
 have ht : Lib.TabIs Tryz.prog W "internal/strconv.uint64pow10" .u64 pow10 :=
  Lib.tabIs_of_head (zs:=pow10) Oc (by kernel_rfl) Tryz.underlying290 Tryz.underlying190 (by kernel_rfl) (by kernel_rfl) l3
 obtain ⟨ar,sr,vr,_⟩:=laid_sentinel l5 Od (by kernel_rfl) Tryz.underlying170 row275 Tryz.underlying275 Tryz.underlying277 rfl rfl Tryz.underlying9 (by kernel_rfl) (by kernel_rfl)
 obtain ⟨ay,sy,vy,_⟩:=laid_sentinel l6 Oe (by kernel_rfl) Tryz.underlying170 row275 Tryz.underlying275 Tryz.underlying277 rfl rfl Tryz.underlying9 (by kernel_rfl) (by kernel_rfl)
 refine ⟨Gn Oc ht,?_,?_,?_⟩
 ·exact cell_of_shapedOpen_int (P:=Tryz.prog) (g:=0) (t:=3) (zero:=#[.int .i64 0]) hs (of_decide_eq_true (by kernel_rfl)) (by kernel_rfl) rfl (by kernel_rfl) (by kernel_rfl) Tryz.underlying3
 ·exact ⟨_,(by simpa using World.var?_cell Oe vy 0:W.cell? ⟨1,0,none⟩=_),.inr ⟨_,_,rfl⟩⟩
 ·exact ⟨_,(by simpa using World.var?_cell Od vr 0:W.cell? ⟨2,0,none⟩=_),.inr ⟨_,_,rfl⟩⟩
end VC
