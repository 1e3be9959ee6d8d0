/- For every valid offices, proper state and entrance: the office of an entrance is as the statement says. -/
import Derived.Test.YtijddkljgihcnaaGreatDoorP8b
namespace Go.Proofs.YtijddkljgihcnaaGreatDoor
open Go Go.Eng Go.ChangeShapes Go.WideShapes Go.RowKit VO VC
theorem planTargets_card:Rows.PlanTargetsCardSaid :=
 Claim7.holds_tied_plain_at .later [] [.data, .data, .data, .data, .sentinel, .sentinel, .pinned] true (true, "68dd701d730ada086798851fb44013755f0f22fd0f660ef1010d31d463429499") true oH (fun _ h => by cases h) (by kernel_rfl) (fun _ h => by cases h) planTargets_row_tie rfl ⟨rfl, rfl⟩ (by kernel_rfl) rfl
  (fun f fn hf hfn=>by
   obtain rfl : f = 8 := Option.some.inj ((show Tryz.prog.funcNamed "gazetteer/gazetteerlaw47.PlanTargets" = some 8 by kernel_rfl).symm.trans hf) |>.symm
   obtain rfl:fn=Tryz.f8:=(Option.some.inj (Tryz.func8.symm.trans hfn)).symm
   exact ⟨by kernel_rfl,fun j t ht=>by
    rw [Tryz.params8] at ht
    have hm:t∈[22,30,5]:=by simpa using Array.mem_of_getElem? ht
    have hall:([22,30,5].all fun u=>!Tryz.prog.wantsStandIn u)=true:=by kernel_rfl
    exact (show Tryz.prog.wantsStandIn t=false by simpa using List.all_eq_true.1 hall t hm)⟩)
  (by kernel_rfl)
#print axioms planTargets_card
end Go.Proofs.YtijddkljgihcnaaGreatDoor
