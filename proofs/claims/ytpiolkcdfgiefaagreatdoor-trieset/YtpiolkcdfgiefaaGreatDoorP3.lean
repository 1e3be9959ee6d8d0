/- TrieSet holds: the keys are those that were put and not dropped, in order. -/
import Derived.Test.YtpiolkcdfgiefaaGreatDoorP3b
namespace Go.Proofs.YtpiolkcdfgiefaaGreatDoor
open Go Go.Eng Go.ChangeShapes Go.WideShapes Go.RowKit VO VC
theorem trieSet_card:Rows.TrieSetCardSaid :=
 Claim7.holds_tied_plain_at .later [] [.data, .data, .data, .sentinel, .sentinel] true (true, "39ff9711f9df8791627111e468abf1f774f593c845284af9d5469325d33aad67") true wF (fun _ h => by cases h) (by kernel_rfl) (fun _ h => by cases h) trieSet_row_tie rfl ⟨rfl, rfl⟩ (by kernel_rfl) rfl
  (fun f fn hf hfn=>by
   obtain rfl : f = 3 := Option.some.inj ((show Tryz.prog.funcNamed "gazetteer/gazetteerlaw19.TrieSet" = some 3 by kernel_rfl).symm.trans hf) |>.symm
   obtain rfl:fn=Tryz.f3:=(Option.some.inj (Tryz.func3.symm.trans hfn)).symm
   exact ⟨by kernel_rfl,fun j t ht=>by
    rw [Tryz.params3] at ht
    have hm:t∈[22]:=by simpa using Array.mem_of_getElem? ht
    have hall:([22].all fun u=>!Tryz.prog.wantsStandIn u)=true:=by kernel_rfl
    exact (show Tryz.prog.wantsStandIn t=false by simpa using List.all_eq_true.1 hall t hm)⟩)
  (by kernel_rfl)
#print axioms trieSet_card
end Go.Proofs.YtpiolkcdfgiefaaGreatDoor
