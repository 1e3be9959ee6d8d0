/- A part of the proof. -/
import Derived.Test.YtijddkljgihcnaaGreatDoorX7
import Derived.Test.YtijddkljgihcnaaGreatDoorS44
import Derived.Test.YtijddkljgihcnaaGreatDoorVO
import Derived.Test.YtijddkljgihcnaaGreatDoorCards
import Derived.SevenTiedAt
namespace Go.Proofs.YtijddkljgihcnaaGreatDoor
open Go Go.Eng Go.ChangeShapes Go.WideShapes Go.RowKit VO VC
set_option maxRecDepth 100000 in
theorem Vq (os:Os) (started:os.Started) (H:Type) (enc:TypeId×Value->H) :
  ReturnsInHanded {} Tryz.checked os 7 .any (fun w args=>(Rows.planServesSpec.pre enc Tryz.prog Tryz.f7 Rows.planServesRow.domain false w args/\laidMetH Tryz.prog xZ w)/\sizedMet enc Tryz.prog Tryz.f7 (OpenSpec.ofChange Rows.planServesSpec) false w args) (Rows.planServesSpec.post enc Tryz.prog Tryz.f7 false true false false):=by
 refine qI (C:=Tryz.checked) (tb:=4) (laid:=xZ) started own (by kernel_rfl) Tryz.func7
  (ChangeSpec.witness_shaped (enc:=enc) (C:=Tryz.checked) (os:=os) (X:=fun w _=>laidMetH Tryz.prog xZ w) false (World.laidAll Tryz.prog os xZ)
   #[.slice none 0 0,.string ⟨#[]⟩] 8 (World.laidAll_os _ _ _)
   (World.shaped_of_ZipB (by kernel_rfl) (by kernel_rfl)) (by kernel_rfl) (by kernel_rfl) (by kernel_rfl)
   (by rw [MakeChecks.laidMetH_plain _ _ _ (by kernel_rfl)]; exact laidMet_laidAll _ (by kernel_rfl) (by kernel_rfl)))
  laidOut ?_ rfl (by kernel_rfl) Tryz.underlying4 ?_ ?_
 ·rw [Tryz.params7]
  intro t ht
  simp only [List.mem_cons,List.not_mem_nil,or_false] at ht
  rcases ht with rfl|rfl <;> exact ⟨by kernel_rfl,of_decide_eq_true (by kernel_rfl)⟩
 ·intro ds hds
  rw [Tryz.params7] at hds
  match ds,hds with
  | [d1,d2],_=>rfl
 ·intro W base args ds p hval hA hw hsh hL
  rw [Tryz.params7] at hval hA hw
  obtain ⟨v0,v1,d0,d1,p0,p1,rfl,rfl,h0,h1⟩:=Vu hA
  obtain ⟨e0,r0,b0⟩:=open22 (hval 0 22 v0 rfl rfl) h0 (hw 0 22 d0 rfl rfl)
  obtain ⟨e1,r1,b1⟩:=open9 (hval 1 9 v1 rfl rfl) h1 (hw 1 9 d1 rfl rfl)
  refine uR S44.Vz (vs:=[v0,v1]) (x:=(e0,e1)) (Su hsh hL) ⟨b0,b1⟩ ?_ rfl
  exact ⟨v0,_,rfl,r0,v1,_,rfl,r1,rfl⟩
end Go.Proofs.YtijddkljgihcnaaGreatDoor
