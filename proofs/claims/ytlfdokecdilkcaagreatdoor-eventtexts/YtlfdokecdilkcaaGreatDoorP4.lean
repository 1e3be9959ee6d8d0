/- For every two events and text that are small: Parse returns a formed event for its text; different formed events have different texts; others have ErrArg; what Parse accepts is the text of what it returns. -/
import Derived.Test.YtlfdokecdilkcaaGreatDoorF32
import Derived.Test.YtlfdokecdilkcaaGreatDoorVO
import Derived.Test.YtlfdokecdilkcaaGreatDoorCards
import Derived.SevenTiedAt
namespace Go.Proofs.YtlfdokecdilkcaaGreatDoor
open Go Go.Eng Go.ChangeShapes Go.WideShapes Go.RowKit VO VC
set_option maxRecDepth 100000 in
theorem oJ (os:Os) (started:os.Started) (H:Type) (enc:TypeId×Value->H) :
  ReturnsInHanded {} Tryz.checked os 4 .any (fun w args=>(Rows.eventTextsSpec.pre enc Tryz.prog Tryz.f4 Rows.eventTextsRow.domain false w args/\laidMetH Tryz.prog zV w)/\sizedMet enc Tryz.prog Tryz.f4 (OpenSpec.ofChange Rows.eventTextsSpec) false w args) (Rows.eventTextsSpec.post enc Tryz.prog Tryz.f4 false true false false):=by
 refine rF (C:=Tryz.checked) (tb:=4) (laid:=zV) started own (by kernel_rfl) Tryz.func4
  (ChangeSpec.witness_shaped (enc:=enc) (C:=Tryz.checked) (os:=os) (X:=fun w _=>laidMetH Tryz.prog zV w) false (World.laidAll Tryz.prog os zV)
   #[.agg #[.int .i64 0,.int .i64 0,.int .i64 0,.int .i64 0,.int .i64 0,.string ⟨#[]⟩,.string ⟨#[]⟩,.string ⟨#[]⟩,.slice none 0 0,.slice none 0 0,.int .i64 0,.string ⟨#[]⟩,.int .i64 0,.int .i64 0,.int .i64 0,.int .i64 0,.slice none 0 0,.slice none 0 0],.agg #[.int .i64 0,.int .i64 0,.int .i64 0,.int .i64 0,.int .i64 0,.string ⟨#[]⟩,.string ⟨#[]⟩,.string ⟨#[]⟩,.slice none 0 0,.slice none 0 0,.int .i64 0,.string ⟨#[]⟩,.int .i64 0,.int .i64 0,.int .i64 0,.int .i64 0,.slice none 0 0,.slice none 0 0],.string ⟨#[]⟩] 8 (World.laidAll_os _ _ _)
   (World.shaped_of_ZipB (by kernel_rfl) (by kernel_rfl)) (by kernel_rfl) (by kernel_rfl) (by kernel_rfl)
   (by rw [MakeChecks.laidMetH_plain _ _ _ (by kernel_rfl)]; exact laidMet_laidAll _ (by kernel_rfl) (by kernel_rfl)))
  laidOut ?_ rfl (by kernel_rfl) Tryz.underlying4 ?_ ?_
 ·rw [Tryz.params4]
  intro t ht
  simp only [List.mem_cons,List.not_mem_nil,or_false] at ht
  rcases ht with rfl|rfl|rfl <;> exact ⟨by kernel_rfl,of_decide_eq_true (by kernel_rfl)⟩
 ·intro ds hds
  rw [Tryz.params4] at hds
  match ds,hds with
  | [d1,d2,d3],_=>rfl
 ·intro W base args ds p hval hA hw hsh hL
  rw [Tryz.params4] at hval hA hw
  obtain ⟨v0,v1,v2,d0,d1,d2,p0,p1,p2,rfl,rfl,h0,h1,h2⟩:=Hm hA
  obtain ⟨e0,r0,b0⟩:=open31 (hval 0 31 v0 rfl rfl) h0 (hw 0 31 d0 rfl rfl)
  obtain ⟨e1,r1,b1⟩:=open31 (hval 1 31 v1 rfl rfl) h1 (hw 1 31 d1 rfl rfl)
  obtain ⟨e2,r2,b2⟩:=open9 (hval 2 9 v2 rfl rfl) h2 (hw 2 9 d2 rfl rfl)
  refine wK F32.Nc (vs:=[v0,v1,v2]) (x:=(e0,e1,e2)) (Ua hsh hL) ⟨b0,b1,Nat.le_trans b2 (Nat.le_of_ble_eq_true (by kernel_rfl))⟩ ?_ rfl
  exact ⟨v0,_,rfl,r0,v1,_,rfl,r1,v2,_,rfl,r2,rfl⟩
theorem pR:Rows.EventTextsSaid :=
 OpenClaim.holds_of_wide 4 Tryz.f4 rfl rfl rfl rfl rfl rfl rfl ⟨rfl,rfl,rfl,rfl,rfl⟩ rfl rfl rfl rfl rfl (by kernel_rfl) Tryz.func4 (by kernel_rfl)
  (of_decide_eq_true (by kernel_rfl)) (by unfold Func.isWrapper; first|(rw [if_pos (by decide +kernel)]; kernel_rfl)|(rw [if_neg (by decide +kernel)]; exact ⟨rfl,rfl⟩))
  (fun os started H enc _=>oJ os started H enc)
theorem eventTexts_card:Rows.EventTextsCardSaid :=
 Claim7.holds_tied_plain_at .later [] [.data, .data, .data, .data, .sentinel, .sentinel, .pinned] true (true, "609f4d8f1512ec9e27152b34bfb5aa448ceb741530a74a58adaaf57f007821d2") true pR (fun _ h => by cases h) (by kernel_rfl) (fun _ h => by cases h) eventTexts_row_tie rfl ⟨rfl, rfl⟩ (by kernel_rfl) rfl
  (fun f fn hf hfn=>by
   obtain rfl : f = 4 := Option.some.inj ((show Tryz.prog.funcNamed "gazetteer/gazetteerlaw26.EventTexts" = some 4 by kernel_rfl).symm.trans hf) |>.symm
   obtain rfl:fn=Tryz.f4:=(Option.some.inj (Tryz.func4.symm.trans hfn)).symm
   exact ⟨by kernel_rfl,fun j t ht=>by
    rw [Tryz.params4] at ht
    have hm:t∈[31,31,9]:=by simpa using Array.mem_of_getElem? ht
    have hall:([31,31,9].all fun u=>!Tryz.prog.wantsStandIn u)=true:=by kernel_rfl
    exact (show Tryz.prog.wantsStandIn t=false by simpa using List.all_eq_true.1 hall t hm)⟩)
  (by kernel_rfl)
#print axioms eventTexts_card
end Go.Proofs.YtlfdokecdilkcaaGreatDoor
