/- Valid offices with a new line are valid, and no distance grows; condition: the sizes of the statement. -/
import Derived.Test.YtijddkljgihcnaaGreatDoorS34
import Derived.Test.YtijddkljgihcnaaGreatDoorP6b
namespace Go.Proofs.YtijddkljgihcnaaGreatDoor
open Go Go.Eng Go.ChangeShapes Go.WideShapes Go.RowKit VO VC
theorem planLines_card:Rows.PlanLinesCardSaid :=
 Claim7.holds_tied_plain_at .later [] [.data, .data, .data, .data, .sentinel, .sentinel, .pinned] true (true, "68dd701d730ada086798851fb44013755f0f22fd0f660ef1010d31d463429499") true Vu (fun _ h => by cases h) (by kernel_rfl) (fun _ h => by cases h) planLines_row_tie rfl ⟨rfl, rfl⟩ (by kernel_rfl) rfl
  (fun f fn hf hfn=>by
   obtain rfl : f = 6 := Option.some.inj ((show Tryz.prog.funcNamed "gazetteer/gazetteerlaw47.PlanLines" = some 6 by kernel_rfl).symm.trans hf) |>.symm
   obtain rfl:fn=Tryz.f6:=(Option.some.inj (Tryz.func6.symm.trans hfn)).symm
   exact ⟨by kernel_rfl,fun j t ht=>by
    rw [Tryz.params6] at ht
    have hm:t∈[22,5,5,5,5]:=by simpa using Array.mem_of_getElem? ht
    have hall:([22,5,5,5,5].all fun u=>!Tryz.prog.wantsStandIn u)=true:=by kernel_rfl
    exact (show Tryz.prog.wantsStandIn t=false by simpa using List.all_eq_true.1 hall t hm)⟩)
  (by kernel_rfl)
end Go.Proofs.YtijddkljgihcnaaGreatDoor
