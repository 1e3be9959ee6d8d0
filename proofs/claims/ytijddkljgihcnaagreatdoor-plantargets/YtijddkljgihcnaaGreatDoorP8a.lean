/- A part of the proof. -/
import Derived.Test.YtijddkljgihcnaaGreatDoorS45
import Derived.Test.YtijddkljgihcnaaGreatDoorVO
import Derived.Test.YtijddkljgihcnaaGreatDoorCards
import Derived.SevenTiedAt
namespace Go.Proofs.YtijddkljgihcnaaGreatDoor
open Go Go.Eng Go.ChangeShapes Go.WideShapes Go.RowKit VO VC
set_option maxRecDepth 100000 in
theorem nI (os:Os) (started:os.Started) (H:Type) (enc:TypeId×Value->H) :
  ReturnsInHanded {} Tryz.checked os 8 .any (fun w args=>(Rows.planTargetsSpec.pre enc Tryz.prog Tryz.f8 Rows.planTargetsRow.domain false w args/\laidMetH Tryz.prog yZ w)/\sizedMet enc Tryz.prog Tryz.f8 (OpenSpec.ofChange Rows.planTargetsSpec) false w args) (Rows.planTargetsSpec.post enc Tryz.prog Tryz.f8 false true false false):=by
 refine rA (C:=Tryz.checked) (tb:=4) (laid:=yZ) started own (by kernel_rfl) Tryz.func8
  (ChangeSpec.witness_shaped (enc:=enc) (C:=Tryz.checked) (os:=os) (X:=fun w _=>laidMetH Tryz.prog yZ w) false (World.laidAll Tryz.prog os yZ)
   #[.slice none 0 0,.agg #[.slice none 0 0,.slice none 0 0,.slice none 0 0,.slice none 0 0,.slice none 0 0,.slice none 0 0,.slice none 0 0],.int .u8 0] 8 (World.laidAll_os _ _ _)
   (World.shaped_of_ZipB (by kernel_rfl) (by kernel_rfl)) (by kernel_rfl) (by kernel_rfl) (by kernel_rfl)
   (by rw [MakeChecks.laidMetH_plain _ _ _ (by kernel_rfl)]; exact laidMet_laidAll _ (by kernel_rfl) (by kernel_rfl)))
  laidOut ?_ rfl (by kernel_rfl) Tryz.underlying4 ?_ ?_
 ·rw [Tryz.params8]
  intro t ht
  simp only [List.mem_cons,List.not_mem_nil,or_false] at ht
  rcases ht with rfl|rfl|rfl <;> exact ⟨by kernel_rfl,of_decide_eq_true (by kernel_rfl)⟩
 ·intro ds hds
  rw [Tryz.params8] at hds
  match ds,hds with
  | [d1,d2,d3],_=>rfl
 ·intro W base args ds p hval hA hw hsh hL
  rw [Tryz.params8] at hval hA hw
  obtain ⟨v0,v1,v2,d0,d1,d2,p0,p1,p2,rfl,rfl,h0,h1,h2⟩:=Gm hA
  obtain ⟨e0,r0,b0⟩:=open22 (hval 0 22 v0 rfl rfl) h0 (hw 0 22 d0 rfl rfl)
  obtain ⟨e1,r1,b1⟩:=open30 (hval 1 30 v1 rfl rfl) h1 (hw 1 30 d1 rfl rfl)
  obtain ⟨e2,r2,b2⟩:=open5 (hval 2 5 v2 rfl rfl) h2 (hw 2 5 d2 rfl rfl)
  refine vP S45.Mp (vs:=[v0,v1,v2]) (x:=(e0,e1,e2)) (Uj hsh hL) ⟨b0,b1,b2⟩ ?_ rfl
  exact ⟨v0,_,rfl,r0,v1,_,rfl,r1,v2,_,rfl,r2,rfl⟩
end Go.Proofs.YtijddkljgihcnaaGreatDoor
