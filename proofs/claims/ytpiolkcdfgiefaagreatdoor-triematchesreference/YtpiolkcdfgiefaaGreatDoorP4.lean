/- For all keys, operations, texts and nodes of a moderate bulk the results of tries agree with those of the reference; without conditions beyond those of the statement. -/
import Derived.Test.YtpiolkcdfgiefaaGreatDoorP4b
set_option maxHeartbeats 10000000
namespace Go.Proofs.YtpiolkcdfgiefaaGreatDoor
open Go Go.Eng Go.ChangeShapes Go.WideShapes Go.RowKit VOU VCU
theorem trieMatchesReference_card:Rows.TrieMatchesReferenceUptoCardSaid :=
 Claim7.holds_tied_plain_at .later [] [.data, .data, .data, .sentinel, .sentinel] true (true, "39ff9711f9df8791627111e468abf1f774f593c845284af9d5469325d33aad67") true Bw (by grind) (by kernel_rfl) (by grind) trieMatchesReferenceUpto_row_tie rfl ⟨rfl, rfl⟩ (by kernel_rfl) rfl
  (λf fn hf hfn=>by
   obtain rfl : f = 4 := Option.some.inj ((show Tryz.prog.funcNamed "gazetteer/gazetteerlaw19.TrieMatchesReference" = some 4 by kernel_rfl).symm.trans hf) |>.symm;obtain rfl : fn = Tryz.f4 := (Option.some.inj (Tryz.func4.symm.trans hfn)).symm;exact ⟨by kernel_rfl, fun j t ht => by
    rw[Tryz.params4]at ht;have hm:t∈[29,22,9,39]:=by grind
    have hall:([29,22,9,39].all λu=>!Tryz.prog.wantsStandIn u)=true:=by kernel_rfl
    exact(show Tryz.prog.wantsStandIn t=false by simpa using dI.1 hall t hm)⟩)
  (by kernel_rfl)
#print axioms trieMatchesReference_card
end Go.Proofs.YtpiolkcdfgiefaaGreatDoor
