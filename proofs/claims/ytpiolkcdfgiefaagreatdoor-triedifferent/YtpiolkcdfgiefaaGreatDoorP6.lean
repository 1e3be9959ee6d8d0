/- TrieDifferent holds: two tries with one root and different keys have nodes that are different and have one digest. -/
import Derived.Test.YtpiolkcdfgiefaaGreatDoorT38
import Derived.Test.YtpiolkcdfgiefaaGreatDoorP6b
namespace Go.Proofs.YtpiolkcdfgiefaaGreatDoor
open Go Go.Eng Go.ChangeShapes Go.WideShapes Go.RowKit VO VC
theorem trieDifferent_card:Rows.TrieDifferentCardSaid :=
 Claim7.holds_tied_plain_at .later [] [.data, .data, .data, .sentinel, .sentinel] true (true, "39ff9711f9df8791627111e468abf1f774f593c845284af9d5469325d33aad67") true Wq (fun _ h => by cases h) (by kernel_rfl) (fun _ h => by cases h) trieDifferent_row_tie rfl ⟨rfl, rfl⟩ (by kernel_rfl) rfl
  (fun f fn hf hfn=>by
   obtain rfl : f = 6 := Option.some.inj ((show Tryz.prog.funcNamed "gazetteer/gazetteerlaw19.TrieDifferent" = some 6 by kernel_rfl).symm.trans hf) |>.symm
   obtain rfl:fn=Tryz.f6:=(Option.some.inj (Tryz.func6.symm.trans hfn)).symm
   exact ⟨by kernel_rfl,fun j t ht=>by
    rw [Tryz.params6] at ht
    have hm:t∈[29,29]:=by simpa using Array.mem_of_getElem? ht
    have hall:([29,29].all fun u=>!Tryz.prog.wantsStandIn u)=true:=by kernel_rfl
    exact (show Tryz.prog.wantsStandIn t=false by simpa using List.all_eq_true.1 hall t hm)⟩)
  (by kernel_rfl)
#print axioms trieDifferent_card
end Go.Proofs.YtpiolkcdfgiefaaGreatDoor
