/- TrieBack holds: a key put and dropped, or dropped and put, leaves the root as it was. -/
import Derived.Test.YtpiolkcdfgiefaaGreatDoorP5b
namespace Go.Proofs.YtpiolkcdfgiefaaGreatDoor
open Go Go.Eng Go.ChangeShapes Go.WideShapes Go.RowKit VO VC
theorem trieBack_card:Rows.TrieBackCardSaid :=
 Claim7.holds_tied_plain_at .later [] [.data, .data, .data, .sentinel, .sentinel] true (true, "39ff9711f9df8791627111e468abf1f774f593c845284af9d5469325d33aad67") true vS (fun _ h => by cases h) (by kernel_rfl) (fun _ h => by cases h) trieBack_row_tie rfl ⟨rfl, rfl⟩ (by kernel_rfl) rfl
  (fun f fn hf hfn=>by
   obtain rfl : f = 5 := Option.some.inj ((show Tryz.prog.funcNamed "gazetteer/gazetteerlaw19.TrieBack" = some 5 by kernel_rfl).symm.trans hf) |>.symm
   obtain rfl:fn=Tryz.f5:=(Option.some.inj (Tryz.func5.symm.trans hfn)).symm
   exact ⟨by kernel_rfl,fun j t ht=>by
    rw [Tryz.params5] at ht
    have hm:t∈[29,32]:=by simpa using Array.mem_of_getElem? ht
    have hall:([29,32].all fun u=>!Tryz.prog.wantsStandIn u)=true:=by kernel_rfl
    exact (show Tryz.prog.wantsStandIn t=false by simpa using List.all_eq_true.1 hall t hm)⟩)
  (by kernel_rfl)
#print axioms trieBack_card
end Go.Proofs.YtpiolkcdfgiefaaGreatDoor
