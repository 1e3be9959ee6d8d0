/- For every valid offices and code, the office that serves it has it, and no lesser one has it; if none serves it, none has it; without it there, another one serves it, or none; the condition: the sizes of the statement. -/
import Derived.Test.YtijddkljgihcnaaGreatDoorX7
import Derived.Test.YtijddkljgihcnaaGreatDoorP7b
namespace Go.Proofs.YtijddkljgihcnaaGreatDoor
open Go Go.Eng Go.ChangeShapes Go.WideShapes Go.RowKit VO VC
theorem planServes_card:Rows.PlanServesCardSaid :=
 Claim7.holds_tied_plain_at .later [] [.data, .data, .data, .data, .sentinel, .sentinel, .pinned] true (true, "68dd701d730ada086798851fb44013755f0f22fd0f660ef1010d31d463429499") true Vr (fun _ h => by cases h) (by kernel_rfl) (fun _ h => by cases h) planServes_row_tie rfl ⟨rfl, rfl⟩ (by kernel_rfl) rfl
  (fun f fn hf hfn=>by
   obtain rfl : f = 7 := Option.some.inj ((show Tryz.prog.funcNamed "gazetteer/gazetteerlaw47.PlanServes" = some 7 by kernel_rfl).symm.trans hf) |>.symm
   obtain rfl:fn=Tryz.f7:=(Option.some.inj (Tryz.func7.symm.trans hfn)).symm
   exact ⟨by kernel_rfl,fun j t ht=>by
    rw [Tryz.params7] at ht
    have hm:t∈[22,9]:=by simpa using Array.mem_of_getElem? ht
    have hall:([22,9].all fun u=>!Tryz.prog.wantsStandIn u)=true:=by kernel_rfl
    exact (show Tryz.prog.wantsStandIn t=false by simpa using List.all_eq_true.1 hall t hm)⟩)
  (by kernel_rfl)
#print axioms planServes_card
end Go.Proofs.YtijddkljgihcnaaGreatDoor
