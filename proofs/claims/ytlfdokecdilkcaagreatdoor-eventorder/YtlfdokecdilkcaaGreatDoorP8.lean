/- Gazetteer, layer 26, EventOrder: for every event the law returns true, and the event reads behind the call as it read before; condition: the package-level variables that the row lists hold at the beginning what the program text lays. -/
import Derived.Test.YtlfdokecdilkcaaGreatDoorF30
import Derived.Test.YtlfdokecdilkcaaGreatDoorVO
import Derived.Test.YtlfdokecdilkcaaGreatDoorCards
import Derived.SevenTiedAt
namespace Go.Proofs.YtlfdokecdilkcaaGreatDoor
open Go Go.Eng Go.ChangeShapes Go.WideShapes Go.RowKit VO VC
set_option maxRecDepth 100000 in
theorem eventOrder_lifted (os : Os) (started : os.Started) (H : Type) (enc : TypeId × Value -> H) :
  ReturnsInHanded {} Tryz.checked os 8 .any (fun w args => (Rows.eventOrderSpec.pre enc Tryz.prog Tryz.f8 Rows.eventOrderRow.domain false w args /\ laidMetH Tryz.prog laidL w) /\ sizedMet enc Tryz.prog Tryz.f8 (OpenSpec.ofChange Rows.eventOrderSpec) false w args) (Rows.eventOrderSpec.post enc Tryz.prog Tryz.f8 false true false false) := by
 refine law_lifted_laid (C := Tryz.checked) (tb := 4) (laid := laidL) started own (by kernel_rfl) Tryz.func8
  (ChangeSpec.witness_shaped (enc := enc) (C := Tryz.checked) (os := os) (X := fun w _ => laidMetH Tryz.prog laidL w) false (World.laidAll Tryz.prog os laidL)
   #[.agg #[.int .i64 0, .int .i64 0, .int .i64 0, .int .i64 0, .int .i64 0, .string ⟨#[]⟩, .string ⟨#[]⟩, .string ⟨#[]⟩, .slice none 0 0, .slice none 0 0, .int .i64 0, .string ⟨#[]⟩, .int .i64 0, .int .i64 0, .int .i64 0, .int .i64 0, .slice none 0 0, .slice none 0 0]] 8 (World.laidAll_os _ _ _)
   (World.shaped_of_ZipB (by kernel_rfl) (by kernel_rfl)) (by kernel_rfl) (by kernel_rfl) (by kernel_rfl)
   (by rw [MakeChecks.laidMetH_plain _ _ _ (by kernel_rfl)]; exact laidMet_laidAll _ (by kernel_rfl) (by kernel_rfl)))
  laidOut ?_ rfl (by kernel_rfl) Tryz.underlying4 ?_ ?_
 ·rw [Tryz.params8]
  intro t ht
  simp only [List.mem_cons, List.not_mem_nil, or_false] at ht
  rcases ht with rfl
  exact ⟨by kernel_rfl, of_decide_eq_true (by kernel_rfl)⟩
 ·intro ds hds
  rw [Tryz.params8] at hds
  match ds, hds with
  | [d1], _ => rfl
 ·intro W base args ds p hval hA hw hsh hL
  rw [Tryz.params8] at hval hA hw
  obtain ⟨v0, d0, rfl, rfl, h0⟩ := trodAll_1 hA
  obtain ⟨e0, r0, b0⟩ := open31 (hval 0 31 v0 rfl rfl) h0 (hw 0 31 d0 rfl rfl)
  refine call_of_spec F30.law8_ok (vs := [v0]) (x := e0) (gv_of hsh hL) b0 ?_ rfl
  exact ⟨v0, _, rfl, r0, rfl⟩
theorem eventOrder_holds : Rows.EventOrderSaid :=
 OpenClaim.holds_of_wide 8 Tryz.f8 rfl rfl rfl rfl rfl rfl rfl ⟨rfl, rfl, rfl, rfl, rfl⟩ rfl rfl rfl rfl rfl (by kernel_rfl) Tryz.func8 (by kernel_rfl)
  (of_decide_eq_true (by kernel_rfl)) (by unfold Func.isWrapper; first | (rw [if_pos (by decide +kernel)]; kernel_rfl) | (rw [if_neg (by decide +kernel)]; exact ⟨rfl, rfl⟩))
  (fun os started H enc _ => eventOrder_lifted os started H enc)
theorem eventOrder_card : Rows.EventOrderCardSaid :=
 Claim7.holds_tied_plain_at .later [] [.data, .data, .data, .data, .sentinel, .sentinel, .pinned] true (true, "609f4d8f1512ec9e27152b34bfb5aa448ceb741530a74a58adaaf57f007821d2") true eventOrder_holds (fun _ h => by cases h) (by kernel_rfl) (fun _ h => by cases h) eventOrder_row_tie rfl ⟨rfl, rfl⟩ (by kernel_rfl) rfl
  (fun f fn hf hfn => by
   obtain rfl : f = 8 := Option.some.inj ((show Tryz.prog.funcNamed "gazetteer/gazetteerlaw26.EventOrder" = some 8 by kernel_rfl).symm.trans hf) |>.symm
   obtain rfl : fn = Tryz.f8 := (Option.some.inj (Tryz.func8.symm.trans hfn)).symm
   exact ⟨by kernel_rfl, fun j t ht => by
    rw [Tryz.params8] at ht
    have hm : t ∈ [31] := by simpa using Array.mem_of_getElem? ht
    have hall : ([31].all fun u => !Tryz.prog.wantsStandIn u) = true := by kernel_rfl
    exact (show Tryz.prog.wantsStandIn t = false by simpa using List.all_eq_true.1 hall t hm)⟩)
  (by kernel_rfl)
#print axioms eventOrder_card
end Go.Proofs.YtlfdokecdilkcaaGreatDoor
