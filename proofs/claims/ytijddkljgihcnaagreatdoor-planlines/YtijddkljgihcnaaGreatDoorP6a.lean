/- A part. -/
import Derived.Test.YtijddkljgihcnaaGreatDoorS34
import Derived.Test.YtijddkljgihcnaaGreatDoorS43
import Derived.Test.YtijddkljgihcnaaGreatDoorVO
import Derived.Test.YtijddkljgihcnaaGreatDoorCards
import Derived.SevenTiedAt
namespace Go.Proofs.YtijddkljgihcnaaGreatDoor
open Go Go.Eng Go.ChangeShapes Go.WideShapes Go.RowKit VO VC
set_option maxRecDepth 100000 in
theorem Vt (os:Os) (started:os.Started) (H:Type) (enc:TypeId×Value->H) :
  ReturnsInHanded {} Tryz.checked os 6 .any (fun w args=>(Rows.planLinesSpec.pre enc Tryz.prog Tryz.f6 Rows.planLinesRow.domain false w args/\laidMetH Tryz.prog xZ w)/\sizedMet enc Tryz.prog Tryz.f6 (OpenSpec.ofChange Rows.planLinesSpec) false w args) (Rows.planLinesSpec.post enc Tryz.prog Tryz.f6 false true false false):=by
 refine qI (C:=Tryz.checked) (tb:=4) (laid:=xZ) started own (by kernel_rfl) Tryz.func6
  (ChangeSpec.witness_shaped (enc:=enc) (C:=Tryz.checked) (os:=os) (X:=fun w _=>laidMetH Tryz.prog xZ w) false (World.laidAll Tryz.prog os xZ)
   #[.slice none 0 0,.int .u8 0,.int .u8 0,.int .u8 0,.int .u8 0] 8 (World.laidAll_os _ _ _)
   (World.shaped_of_ZipB (by kernel_rfl) (by kernel_rfl)) (by kernel_rfl) (by kernel_rfl) (by kernel_rfl)
   (by rw [MakeChecks.laidMetH_plain _ _ _ (by kernel_rfl)]; exact laidMet_laidAll _ (by kernel_rfl) (by kernel_rfl)))
  laidOut ?_ rfl (by kernel_rfl) Tryz.underlying4 ?_ ?_
 ·rw [Tryz.params6]
  intro t ht
  simp only [List.mem_cons,List.not_mem_nil,or_false] at ht
  rcases ht with rfl|rfl|rfl|rfl|rfl <;> exact ⟨by kernel_rfl,of_decide_eq_true (by kernel_rfl)⟩
 ·intro ds hds
  rw [Tryz.params6] at hds
  match ds,hds with
  | [d1,d2,d3,d4,d5],_=>rfl
 ·intro W base args ds p hval hA hw hsh hL
  rw [Tryz.params6] at hval hA hw
  obtain ⟨v0,v1,v2,v3,v4,d0,d1,d2,d3,d4,p0,p1,p2,p3,p4,rfl,rfl,h0,h1,h2,h3,h4⟩:=V8 hA
  obtain ⟨e0,r0,b0⟩:=open22 (hval 0 22 v0 rfl rfl) h0 (hw 0 22 d0 rfl rfl)
  obtain ⟨e1,r1,b1⟩:=open5 (hval 1 5 v1 rfl rfl) h1 (hw 1 5 d1 rfl rfl)
  obtain ⟨e2,r2,b2⟩:=open5 (hval 2 5 v2 rfl rfl) h2 (hw 2 5 d2 rfl rfl)
  obtain ⟨e3,r3,b3⟩:=open5 (hval 3 5 v3 rfl rfl) h3 (hw 3 5 d3 rfl rfl)
  obtain ⟨e4,r4,b4⟩:=open5 (hval 4 5 v4 rfl rfl) h4 (hw 4 5 d4 rfl rfl)
  refine uR S43.Wc (vs:=[v0,v1,v2,v3,v4]) (x:=(e0,e1,e2,e3,e4)) (Su hsh hL) ⟨b0,b1,b2,b3,b4⟩ ?_ rfl
  exact ⟨v0,_,rfl,r0,v1,_,rfl,r1,v2,_,rfl,r2,v3,_,rfl,r3,v4,_,rfl,r4,rfl⟩
end Go.Proofs.YtijddkljgihcnaaGreatDoor
