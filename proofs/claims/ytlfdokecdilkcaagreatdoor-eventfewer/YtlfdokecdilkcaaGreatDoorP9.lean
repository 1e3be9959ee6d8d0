/- Gazetteer, layer 26, EventFewer: for every event and number the law returns true, and the arguments read behind the call as they read before; condition: the package-level variables that the row lists hold at the beginning what the program text lays. -/
import Derived.Test.YtlfdokecdilkcaaGreatDoorRT10
import Derived.Test.YtlfdokecdilkcaaGreatDoorF31
import Derived.Test.YtlfdokecdilkcaaGreatDoorVO
import Derived.Test.YtlfdokecdilkcaaGreatDoorCards
import Derived.SevenTiedAt
namespace Go.Proofs.YtlfdokecdilkcaaGreatDoor
open Go Go.Eng Go.ChangeShapes Go.WideShapes Go.RowKit VO VC
set_option maxRecDepth 100000 in
theorem eventFewer_lifted (os : Os) (started : os.Started) (H : Type) (enc : TypeId × Value -> H) :
  ReturnsInHanded {} Tryz.checked os 9 .any (fun w args => (Rows.eventFewerSpec.pre enc Tryz.prog Tryz.f9 Rows.eventFewerRow.domain false w args /\ laidMetH Tryz.prog laidL w) /\ sizedMet enc Tryz.prog Tryz.f9 (OpenSpec.ofChange Rows.eventFewerSpec) false w args) (Rows.eventFewerSpec.post enc Tryz.prog Tryz.f9 false true false false) := by
 refine law_lifted_laid (C := Tryz.checked) (tb := 4) (laid := laidL) started own (by kernel_rfl) Tryz.func9
  (ChangeSpec.witness_shaped (enc := enc) (C := Tryz.checked) (os := os) (X := fun w _ => laidMetH Tryz.prog laidL w) false (World.laidAll Tryz.prog os laidL)
   #[.agg #[.int .i64 0, .int .i64 0, .int .i64 0, .int .i64 0, .int .i64 0, .string ⟨#[]⟩, .string ⟨#[]⟩, .string ⟨#[]⟩, .slice none 0 0, .slice none 0 0, .int .i64 0, .string ⟨#[]⟩, .int .i64 0, .int .i64 0, .int .i64 0, .int .i64 0, .slice none 0 0, .slice none 0 0], .int .u8 0] 8 (World.laidAll_os _ _ _)
   (World.shaped_of_ZipB (by kernel_rfl) (by kernel_rfl)) (by kernel_rfl) (by kernel_rfl) (by kernel_rfl)
   (by rw [MakeChecks.laidMetH_plain _ _ _ (by kernel_rfl)]; exact laidMet_laidAll _ (by kernel_rfl) (by kernel_rfl)))
  laidOut ?_ rfl (by kernel_rfl) Tryz.underlying4 ?_ ?_
 ·rw [Tryz.params9]
  intro t ht
  simp only [List.mem_cons, List.not_mem_nil, or_false] at ht
  rcases ht with rfl | rfl <;> exact ⟨by kernel_rfl, of_decide_eq_true (by kernel_rfl)⟩
 ·intro ds hds
  rw [Tryz.params9] at hds
  match ds, hds with
  | [d1, d2], _ => rfl
 ·intro W base args ds p hval hA hw hsh hL
  rw [Tryz.params9] at hval hA hw
  obtain ⟨v0, v1, d0, d1, p0, p1, rfl, rfl, h0, h1⟩ := trodAll_2 hA
  obtain ⟨e0, r0, b0⟩ := open31 (hval 0 31 v0 rfl rfl) h0 (hw 0 31 d0 rfl rfl)
  obtain ⟨e1, r1, b1⟩ := open5 (hval 1 5 v1 rfl rfl) h1 (hw 1 5 d1 rfl rfl)
  refine call_of_spec F31.law9_ok (vs := [v0, v1]) (x := (e0, e1)) (gv_of hsh hL) ⟨b0, b1⟩ ?_ rfl
  exact ⟨v0, _, rfl, r0, v1, _, rfl, r1, rfl⟩
theorem eventFewer_holds : Rows.EventFewerSaid :=
 OpenClaim.holds_of_wide 9 Tryz.f9 rfl rfl rfl rfl rfl rfl rfl ⟨rfl, rfl, rfl, rfl, rfl⟩ rfl rfl rfl rfl rfl (by kernel_rfl) Tryz.func9 (by kernel_rfl)
  (of_decide_eq_true (by kernel_rfl)) (by unfold Func.isWrapper; first | (rw [if_pos (by decide +kernel)]; kernel_rfl) | (rw [if_neg (by decide +kernel)]; exact ⟨rfl, rfl⟩))
  (fun os started H enc _ => eventFewer_lifted os started H enc)
theorem eventFewer_card : Rows.EventFewerCardSaid :=
 Claim7.holds_tied_plain_at .later [] [.data, .data, .data, .data, .sentinel, .sentinel, .pinned] true (true, "609f4d8f1512ec9e27152b34bfb5aa448ceb741530a74a58adaaf57f007821d2") true eventFewer_holds (fun _ h => by cases h) (by kernel_rfl) (fun _ h => by cases h) eventFewer_row_tie rfl ⟨rfl, rfl⟩ (by kernel_rfl) rfl
  (fun f fn hf hfn => by
   obtain rfl : f = 9 := Option.some.inj ((show Tryz.prog.funcNamed "gazetteer/gazetteerlaw26.EventFewer" = some 9 by kernel_rfl).symm.trans hf) |>.symm
   obtain rfl : fn = Tryz.f9 := (Option.some.inj (Tryz.func9.symm.trans hfn)).symm
   exact ⟨by kernel_rfl, fun j t ht => by
    rw [Tryz.params9] at ht
    have hm : t ∈ [31, 5] := by simpa using Array.mem_of_getElem? ht
    have hall : ([31, 5].all fun u => !Tryz.prog.wantsStandIn u) = true := by kernel_rfl
    exact (show Tryz.prog.wantsStandIn t = false by simpa using List.all_eq_true.1 hall t hm)⟩)
  (by kernel_rfl)
#print axioms eventFewer_card
end Go.Proofs.YtlfdokecdilkcaaGreatDoor
