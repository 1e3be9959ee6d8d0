/- A part of the proof. -/
import Derived.Test.YtpiolkcdfgiefaaGreatDoorEngCard
import Derived.Test.YtpiolkcdfgiefaaGreatDoorVO
import Derived.Test.YtpiolkcdfgiefaaGreatDoorVC2
import Derived.Test.YtpiolkcdfgiefaaGreatDoorCards
import Derived.SevenTiedAt
import Derived.Test.YtpiolkcdfgiefaaGreatDoorTie
section
namespace Go.Proofs.YtpiolkcdfgiefaaGreatDoor
open Go Go.Eng Go.ChangeShapes Go.WideShapes Go.RowKit VO VC VC2
set_option maxRecDepth 100000 in
theorem yN (os:Os) (started:os.Started) (H:Type) (enc:TypeId×Value->H) :
  ReturnsInHanded {} Tryz.checked os 9 .any (fun w args=>(Rows.trieOrderSpec.pre enc Tryz.prog Tryz.f9 Rows.trieOrderRow.domain false w args/\laidMetH Tryz.prog Ay w)/\sizedMet enc Tryz.prog Tryz.f9 (OpenSpec.ofChange Rows.trieOrderSpec) false w args) (Rows.trieOrderSpec.post enc Tryz.prog Tryz.f9 false true false false):=by
 refine zJ (C:=Tryz.checked) (tb:=4) (laid:=Ay) started own (by kernel_rfl) Tryz.func9
  (ChangeSpec.witness_shaped (enc:=enc) (C:=Tryz.checked) (os:=os) (X:=fun w _=>laidMetH Tryz.prog Ay w) false (World.laidAll Tryz.prog os Ay)
   #[.slice none 0 0,.slice none 0 0] 8 (World.laidAll_os _ _ _)
   (World.shaped_of_ZipB (by kernel_rfl) (by kernel_rfl)) (by kernel_rfl) (by kernel_rfl) (by kernel_rfl)
   (by rw [MakeChecks.laidMetH_plain _ _ _ (by kernel_rfl)]; exact laidMet_laidAll _ (by kernel_rfl) (by kernel_rfl)))
  laidOut ?_ rfl (by kernel_rfl) Tryz.underlying4 ?_ ?_
 ·rw [Tryz.params9];intro t ht;simp only [aI,iO,or_false] at ht;rcases ht with rfl|rfl <;> exact ⟨by kernel_rfl,of_decide_eq_true (by kernel_rfl)⟩
 ·intro ds hds;rw [Tryz.params9] at hds
  match ds,hds with
  | [d1,d2],_=>rfl
 ·intro W base args ds p hval hA hw hsh hL;rw [Tryz.params9] at hval hA hw;obtain ⟨v0,v1,d0,d1,p0,p1,rfl,rfl,h0,h1⟩:=Pj hA;obtain ⟨e0,r0,b0⟩:=open29 (hval 0 29 v0 rfl rfl) h0 (hw 0 29 d0 rfl rfl);obtain ⟨e1,r1,b1⟩:=open22 (hval 1 22 v1 rfl rfl) h1 (hw 1 22 d1 rfl rfl);refine Dq T61.Ka (vs:=[v0,v1]) (x:=(e0,e1)) (Yg hsh hL) ⟨b0,b1⟩ ?_ rfl;exact ⟨v0,_,rfl,r0,v1,_,rfl,r1,rfl⟩
end Go.Proofs.YtpiolkcdfgiefaaGreatDoor
end
section
namespace Go.Proofs.YtpiolkcdfgiefaaGreatDoor
open Go Go.Eng Go.ChangeShapes Go.WideShapes Go.RowKit VO VC VC2
theorem zK:Rows.TrieOrderSaid :=
 OpenClaim.holds_of_wide 9 Tryz.f9 rfl rfl rfl rfl rfl rfl rfl ⟨rfl,rfl,rfl,rfl,rfl⟩ rfl rfl rfl rfl rfl (by kernel_rfl) Tryz.func9 (by kernel_rfl)
  (of_decide_eq_true (by kernel_rfl)) (by unfold Func.isWrapper; first|(rw [if_pos (by decide +kernel)]; kernel_rfl)|(rw [if_neg (by decide +kernel)]; exact ⟨rfl,rfl⟩))
  (fun os started H enc _=>yN os started H enc)
end Go.Proofs.YtpiolkcdfgiefaaGreatDoor
end
