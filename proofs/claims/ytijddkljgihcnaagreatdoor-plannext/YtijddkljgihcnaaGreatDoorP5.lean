/- For every valid offices and two different ones: the next one is a neighbour that is nearer by 1, and no lesser neighbour is; going on leads to the other office after as many steps as the distance; the condition: the sizes of the statement. -/
import Derived.Test.YtijddkljgihcnaaGreatDoorS46
import Derived.Test.YtijddkljgihcnaaGreatDoorP5b
namespace Go.Proofs.YtijddkljgihcnaaGreatDoor
open Go Go.Eng Go.ChangeShapes Go.WideShapes Go.RowKit VO VC
theorem planNext_card:Rows.PlanNextCardSaid :=
 Claim7.holds_tied_plain_at .later [] [.data, .data, .data, .data, .sentinel, .sentinel, .pinned] true (true, "68dd701d730ada086798851fb44013755f0f22fd0f660ef1010d31d463429499") true Vr (fun _ h => by cases h) (by kernel_rfl) (fun _ h => by cases h) planNext_row_tie rfl ⟨rfl, rfl⟩ (by kernel_rfl) rfl
  (fun f fn hf hfn=>by
   obtain rfl : f = 5 := Option.some.inj ((show Tryz.prog.funcNamed "gazetteer/gazetteerlaw47.PlanNext" = some 5 by kernel_rfl).symm.trans hf) |>.symm
   obtain rfl:fn=Tryz.f5:=(Option.some.inj (Tryz.func5.symm.trans hfn)).symm
   exact ⟨by kernel_rfl,fun j t ht=>by
    rw [Tryz.params5] at ht
    have hm:t∈[22,5,5]:=by simpa using Array.mem_of_getElem? ht
    have hall:([22,5,5].all fun u=>!Tryz.prog.wantsStandIn u)=true:=by kernel_rfl
    exact (show Tryz.prog.wantsStandIn t=false by simpa using List.all_eq_true.1 hall t hm)⟩)
  (by kernel_rfl)
#print axioms planNext_card
end Go.Proofs.YtijddkljgihcnaaGreatDoor
