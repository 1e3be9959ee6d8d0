/- A part of the proof. -/
import Derived.Test.YtpiolkcdfgiefaaGreatDoorX8
import Derived.Test.YtpiolkcdfgiefaaGreatDoorT42
import Derived.Test.YtpiolkcdfgiefaaGreatDoorVO
import Derived.Test.YtpiolkcdfgiefaaGreatDoorVC2
import Derived.Test.YtpiolkcdfgiefaaGreatDoorCards
import Derived.SevenTiedAt
namespace Go.Proofs.YtpiolkcdfgiefaaGreatDoor
open Go Go.Eng Go.ChangeShapes Go.WideShapes Go.RowKit VO VC VC2
set_option maxRecDepth 100000 in
theorem Wr (os:Os) (started:os.Started) (H:Type) (enc:TypeId×Value->H) :
  ReturnsInHanded {} Tryz.checked os 8 .any (fun w args=>(Rows.trieNodesSpec.pre enc Tryz.prog Tryz.f8 Rows.trieNodesRow.domain false w args/\laidMetH Tryz.prog Wt w)/\sizedMet enc Tryz.prog Tryz.f8 (OpenSpec.ofChange Rows.trieNodesSpec) false w args) (Rows.trieNodesSpec.post enc Tryz.prog Tryz.f8 false true false false):=by
 refine tJ (C:=Tryz.checked) (tb:=4) (laid:=Wt) started own (by kernel_rfl) Tryz.func8
  (ChangeSpec.witness_shaped (enc:=enc) (C:=Tryz.checked) (os:=os) (X:=fun w _=>laidMetH Tryz.prog Wt w) false (World.laidAll Tryz.prog os Wt)
   #[.slice none 0 0,.string ⟨#[]⟩] 8 (World.laidAll_os _ _ _)
   (World.shaped_of_ZipB (by kernel_rfl) (by kernel_rfl)) (by kernel_rfl) (by kernel_rfl) (by kernel_rfl)
   (by rw [MakeChecks.laidMetH_plain _ _ _ (by kernel_rfl)]; exact laidMet_laidAll _ (by kernel_rfl) (by kernel_rfl)))
  laidOut ?_ rfl (by kernel_rfl) Tryz.underlying4 ?_ ?_
 ·rw [Tryz.params8]
  intro t ht
  simp only [List.mem_cons,List.not_mem_nil,or_false] at ht
  rcases ht with rfl|rfl <;> exact ⟨by kernel_rfl,of_decide_eq_true (by kernel_rfl)⟩
 ·intro ds hds
  rw [Tryz.params8] at hds
  match ds,hds with
  | [d1,d2],_=>rfl
 ·intro W base args ds p hval hA hw hsh hL
  rw [Tryz.params8] at hval hA hw
  obtain ⟨v0,v1,d0,d1,p0,p1,rfl,rfl,h0,h1⟩:=Xf hA
  obtain ⟨e0,r0,b0⟩:=open29 (hval 0 29 v0 rfl rfl) h0 (hw 0 29 d0 rfl rfl)
  obtain ⟨e1,r1,b1⟩:=open9 (hval 1 9 v1 rfl rfl) h1 (hw 1 9 d1 rfl rfl)
  refine yL T42.Xj (vs:=[v0,v1]) (x:=(e0,e1)) (X0 hsh hL) ⟨b0,b1⟩ ?_ rfl
  exact ⟨v0,_,rfl,r0,v1,_,rfl,r1,rfl⟩
end Go.Proofs.YtpiolkcdfgiefaaGreatDoor
