/- A part of the proof. -/
import Derived.Test.YtpiolkcdfgiefaaGreatDoorVC
import Derived.Test.YtpiolkcdfgiefaaGreatDoorTie
import Derived.Stop.LaidErr
import Derived.Shelf.Vars
namespace VC2
open Go Go.Eng Go.Proofs Go.RowKit Go.Proofs.YtpiolkcdfgiefaaGreatDoor VC
set_option maxRecDepth 100000
def Ay : List (String × DataW Unit) := [("math/bits.deBruijn32tab", Rows.laid_math_bits_deBruijn32tab), ("math/bits.deBruijn64tab", Rows.laid_math_bits_deBruijn64tab), ("internal/strconv.uint64pow10", Rows.laid_internal_strconv_uint64pow10), ("unicode/utf8.acceptRanges", Rows.laid_unicode_utf8_acceptRanges), ("strconv.ErrRange", Rows.laid_strconv_ErrRange), ("strconv.ErrSyntax", Rows.laid_strconv_ErrSyntax), ("unicode/utf8.first", Rows.laid_unicode_utf8_first)]
theorem Yg {W:World} (hs:W.ShapedOpen Tryz.prog) (hl:laidMetH Tryz.prog Ay W):GV W:=by
 rw [MakeChecks.laidMetH_plain _ _ _ (by kernel_rfl)] at hl;have l2 := hl.tail;have l3 := l2.tail;have l4 := l3.tail.tail;have l5 := l4.tail;have hd : Lib.TabIs Tryz.prog W "math/bits.deBruijn64tab" .u8 dbr64 :=
  Lib.tabIs_of_head (zs:=dbr64) V8 (by kernel_rfl) Tryz.underlying212 Tryz.underlying5 (by kernel_rfl) (by kernel_rfl) l2
 have ht : Lib.TabIs Tryz.prog W "internal/strconv.uint64pow10" .u64 pow10 :=
  Lib.tabIs_of_head (zs:=pow10) V9 (by kernel_rfl) Tryz.underlying176 Tryz.underlying109 (by kernel_rfl) (by kernel_rfl) l3
 obtain ⟨ar,sr,vr,_⟩:=laid_sentinel l4 Wa (by kernel_rfl) Tryz.underlying91 row214 Tryz.underlying214 Tryz.underlying216 rfl rfl Tryz.underlying9 (by kernel_rfl) (by kernel_rfl);obtain ⟨ay,sy,vy,_⟩:=laid_sentinel l5 Wb (by kernel_rfl) Tryz.underlying91 row214 Tryz.underlying214 Tryz.underlying216 rfl rfl Tryz.underlying9 (by kernel_rfl) (by kernel_rfl);refine ⟨Da V9 ht,?_,?_,?_,Da V8 hd⟩
 ·exact cell_of_shapedOpen_int (P:=Tryz.prog) (g:=3) (t:=3) (zero:=#[.int .i64 0]) hs (of_decide_eq_true (by kernel_rfl)) (by kernel_rfl) rfl (by kernel_rfl) (by kernel_rfl) Tryz.underlying3
 ·exact ⟨_,(by simpa using World.var?_cell Wb vy 0:W.cell? ⟨4,0,none⟩=_),.inr ⟨_,_,rfl⟩⟩
 ·exact ⟨_,(by simpa using World.var?_cell Wa vr 0:W.cell? ⟨5,0,none⟩=_),.inr ⟨_,_,rfl⟩⟩
end VC2
