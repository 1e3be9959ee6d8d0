/- TrieNodes holds: a node of a trie is what its keys say. -/
import Derived.Test.YtpiolkcdfgiefaaGreatDoorX8
import Derived.Test.YtpiolkcdfgiefaaGreatDoorP8b
namespace Go.Proofs.YtpiolkcdfgiefaaGreatDoor
open Go Go.Eng Go.ChangeShapes Go.WideShapes Go.RowKit VO VC VC2
theorem trieNodes_card:Rows.TrieNodesCardSaid :=
 Claim7.holds_tied_plain_at .later [] [.data, .data, .data, .data, .sentinel, .sentinel, .pinned] true (true, "39ff9711f9df8791627111e468abf1f774f593c845284af9d5469325d33aad67") true Ws (fun _ h => by cases h) (by kernel_rfl) (fun _ h => by cases h) trieNodes_row_tie rfl ⟨rfl, rfl⟩ (by kernel_rfl) rfl
  (fun f fn hf hfn=>by
   obtain rfl : f = 8 := Option.some.inj ((show Tryz.prog.funcNamed "gazetteer/gazetteerlaw19.TrieNodes" = some 8 by kernel_rfl).symm.trans hf) |>.symm
   obtain rfl:fn=Tryz.f8:=(Option.some.inj (Tryz.func8.symm.trans hfn)).symm
   exact ⟨by kernel_rfl,fun j t ht=>by
    rw [Tryz.params8] at ht
    have hm:t∈[29,9]:=by simpa using Array.mem_of_getElem? ht
    have hall:([29,9].all fun u=>!Tryz.prog.wantsStandIn u)=true:=by kernel_rfl
    exact (show Tryz.prog.wantsStandIn t=false by simpa using List.all_eq_true.1 hall t hm)⟩)
  (by kernel_rfl)
#print axioms trieNodes_card
end Go.Proofs.YtpiolkcdfgiefaaGreatDoor
