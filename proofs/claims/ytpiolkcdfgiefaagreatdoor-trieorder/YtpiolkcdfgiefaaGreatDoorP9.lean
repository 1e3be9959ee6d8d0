/- The order in which a trie is given its keys makes no difference. -/
import Derived.Test.YtpiolkcdfgiefaaGreatDoorP9b
namespace Go.Proofs.YtpiolkcdfgiefaaGreatDoor
open Go Go.Eng Go.ChangeShapes Go.WideShapes Go.RowKit VO VC VC2
theorem trieOrder_card:Rows.TrieOrderCardSaid :=
 Claim7.holds_tied_plain_at .later [] [.data, .data, .data, .data, .sentinel, .sentinel, .pinned] true (true, "39ff9711f9df8791627111e468abf1f774f593c845284af9d5469325d33aad67") true zK (fun _ h => by cases h) (by kernel_rfl) (fun _ h => by cases h) trieOrder_row_tie rfl ⟨rfl, rfl⟩ (by kernel_rfl) rfl
  (fun f fn hf hfn=>by
   obtain rfl : f = 9 := Option.some.inj ((show Tryz.prog.funcNamed "gazetteer/gazetteerlaw19.TrieOrder" = some 9 by kernel_rfl).symm.trans hf) |>.symm;obtain rfl : fn = Tryz.f9 := (Option.some.inj (Tryz.func9.symm.trans hfn)).symm;exact ⟨by kernel_rfl, fun j t ht => by
    rw [Tryz.params9] at ht;have hm:t∈[29,22]:=by simpa using Array.mem_of_getElem? ht
    have hall:([29,22].all fun u=>!Tryz.prog.wantsStandIn u)=true:=by kernel_rfl
    exact (show Tryz.prog.wantsStandIn t=false by simpa using fI.1 hall t hm)⟩)
  (by kernel_rfl)
#print axioms trieOrder_card
end Go.Proofs.YtpiolkcdfgiefaaGreatDoor
