/- TrieCopies holds: changing what was given to a trie and what it returned makes no difference. -/
import Derived.Test.YtpiolkcdfgiefaaGreatDoorX7
import Derived.Test.YtpiolkcdfgiefaaGreatDoorP7b
namespace Go.Proofs.YtpiolkcdfgiefaaGreatDoor
open Go Go.Eng Go.ChangeShapes Go.WideShapes Go.RowKit VO VC
theorem trieCopies_card:Rows.TrieCopiesCardSaid :=
 Claim7.holds_tied_plain_at .later [] [.data, .data, .data, .sentinel, .sentinel] true (true, "39ff9711f9df8791627111e468abf1f774f593c845284af9d5469325d33aad67") true Wq (fun _ h => by cases h) (by kernel_rfl) (fun _ h => by cases h) trieCopies_row_tie rfl ⟨rfl, rfl⟩ (by kernel_rfl) rfl
  (fun f fn hf hfn=>by
   obtain rfl : f = 7 := Option.some.inj ((show Tryz.prog.funcNamed "gazetteer/gazetteerlaw19.TrieCopies" = some 7 by kernel_rfl).symm.trans hf) |>.symm
   obtain rfl:fn=Tryz.f7:=(Option.some.inj (Tryz.func7.symm.trans hfn)).symm
   exact ⟨by kernel_rfl,fun j t ht=>by
    rw [Tryz.params7] at ht
    have hm:t∈[29,9]:=by simpa using Array.mem_of_getElem? ht
    have hall:([29,9].all fun u=>!Tryz.prog.wantsStandIn u)=true:=by kernel_rfl
    exact (show Tryz.prog.wantsStandIn t=false by simpa using List.all_eq_true.1 hall t hm)⟩)
  (by kernel_rfl)
#print axioms trieCopies_card
end Go.Proofs.YtpiolkcdfgiefaaGreatDoor
