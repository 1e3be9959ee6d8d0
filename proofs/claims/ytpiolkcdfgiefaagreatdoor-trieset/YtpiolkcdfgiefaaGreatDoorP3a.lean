/- A part of the proof. -/
import Derived.Test.YtpiolkcdfgiefaaGreatDoorT37
import Derived.Test.YtpiolkcdfgiefaaGreatDoorVO
import Derived.Test.YtpiolkcdfgiefaaGreatDoorCards
import Derived.SevenTiedAt
namespace Go.Proofs.YtpiolkcdfgiefaaGreatDoor
open Go Go.Eng Go.ChangeShapes Go.WideShapes Go.RowKit VO VC
set_option maxRecDepth 100000 in
theorem vS (os:Os) (started:os.Started) (H:Type) (enc:TypeId×Value->H) :
  ReturnsInHanded {} Tryz.checked os 3 .any (fun w args=>(Rows.trieSetSpec.pre enc Tryz.prog Tryz.f3 Rows.trieSetRow.domain false w args/\laidMetH Tryz.prog Bo w)/\sizedMet enc Tryz.prog Tryz.f3 (OpenSpec.ofChange Rows.trieSetSpec) false w args) (Rows.trieSetSpec.post enc Tryz.prog Tryz.f3 false true false false):=by
 refine tJ (C:=Tryz.checked) (tb:=4) (laid:=Bo) started own (by kernel_rfl) Tryz.func3
  (ChangeSpec.witness_shaped (enc:=enc) (C:=Tryz.checked) (os:=os) (X:=fun w _=>laidMetH Tryz.prog Bo w) false (World.laidAll Tryz.prog os Bo)
   #[.slice none 0 0] 8 (World.laidAll_os _ _ _)
   (World.shaped_of_ZipB (by kernel_rfl) (by kernel_rfl)) (by kernel_rfl) (by kernel_rfl) (by kernel_rfl)
   (by rw [MakeChecks.laidMetH_plain _ _ _ (by kernel_rfl)]; exact laidMet_laidAll _ (by kernel_rfl) (by kernel_rfl)))
  laidOut ?_ rfl (by kernel_rfl) Tryz.underlying4 ?_ ?_
 ·rw [Tryz.params3]
  intro t ht
  simp only [List.mem_cons,List.not_mem_nil,or_false] at ht
  rcases ht with rfl
  exact ⟨by kernel_rfl,of_decide_eq_true (by kernel_rfl)⟩
 ·intro ds hds
  rw [Tryz.params3] at hds
  match ds,hds with
  | [d1],_=>rfl
 ·intro W base args ds p hval hA hw hsh hL
  rw [Tryz.params3] at hval hA hw
  obtain ⟨v0,d0,rfl,rfl,h0⟩:=Ju hA
  obtain ⟨e0,r0,b0⟩:=open22 (hval 0 22 v0 rfl rfl) h0 (hw 0 22 d0 rfl rfl)
  refine yL T37.Fp (vs:=[v0]) (x:=e0) (Va hsh hL) b0 ?_ rfl
  exact ⟨v0,_,rfl,r0,rfl⟩
end Go.Proofs.YtpiolkcdfgiefaaGreatDoor
