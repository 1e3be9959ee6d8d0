/-
  DERIVED. GIVEN WITH THE SEED: THE CARDS: each row of YtlfdokecdilkcaaGreatDoorRows.lean that lists a variable, with what it lists TIED to the program's text (the seventh form; the later family's looks); each row that meets fmt, with fmt's text TOLD by the authors' own Lean function (tested against real Go, not proved from fmt's source: count such statements apart). THE CARD IS WHAT COUNTS. Prove the row's statement (the work); the ties are given (YtlfdokecdilkcaaGreatDoorTie.lean); close each card by the builder's one call (the guide's Derived/Test/ToyasCard.lean, 'card_holds'). Laid BY PROGRAM, IN A SANDBOX (cutbox-door.mjs). By AI agents, Wed Nov 11 2026. No macro, syntax, notation, axiom, sorry.
-/
import Derived.Test.YtlfdokecdilkcaaGreatDoorRows
import GoSem.ClaimSeven
namespace Go.Proofs.YtlfdokecdilkcaaGreatDoor
namespace Rows

/-- THE TIED CARD OF 'gazetteerlaw26.EventMatchesReference'. -/
def eventMatchesReferenceCard : Claim7 := { stood := { row := eventMatchesReferenceRow, standIns := [], harness := (true, "609f4d8f1512ec9e27152b34bfb5aa448ceb741530a74a58adaaf57f007821d2"), looks := true }, kinds := [], alts := [], laidByText := true, laidKinds := [.data, .data, .data, .data, .sentinel, .sentinel, .pinned], laidTests := true, laidLooks := .later }
def EventMatchesReferenceCardSaid : Prop := Claim7.holds Tryz.pinned (.plain (OpenSpec.ofChange eventMatchesReferenceSpec)) eventMatchesReferenceCard

/-- THE TIED CARD OF 'gazetteerlaw26.EventTexts'. -/
def eventTextsCard : Claim7 := { stood := { row := eventTextsRow, standIns := [], harness := (true, "609f4d8f1512ec9e27152b34bfb5aa448ceb741530a74a58adaaf57f007821d2"), looks := true }, kinds := [], alts := [], laidByText := true, laidKinds := [.data, .data, .data, .data, .sentinel, .sentinel, .pinned], laidTests := true, laidLooks := .later }
def EventTextsCardSaid : Prop := Claim7.holds Tryz.pinned (.plain (OpenSpec.ofChange eventTextsSpec)) eventTextsCard

/-- THE TIED CARD OF 'gazetteerlaw26.EventFields'. -/
def eventFieldsCard : Claim7 := { stood := { row := eventFieldsRow, standIns := [], harness := (true, "609f4d8f1512ec9e27152b34bfb5aa448ceb741530a74a58adaaf57f007821d2"), looks := true }, kinds := [], alts := [], laidByText := true, laidKinds := [.data, .data, .data, .data, .sentinel, .sentinel, .pinned], laidTests := true, laidLooks := .later }
def EventFieldsCardSaid : Prop := Claim7.holds Tryz.pinned (.plain (OpenSpec.ofChange eventFieldsSpec)) eventFieldsCard

/-- THE TIED CARD OF 'gazetteerlaw26.EventDays'. -/
def eventDaysCard : Claim7 := { stood := { row := eventDaysRow, standIns := [], harness := (true, "609f4d8f1512ec9e27152b34bfb5aa448ceb741530a74a58adaaf57f007821d2"), looks := true }, kinds := [], alts := [], laidByText := true, laidKinds := [.data, .data, .data, .data, .sentinel, .sentinel, .pinned], laidTests := true, laidLooks := .later }
def EventDaysCardSaid : Prop := Claim7.holds Tryz.pinned (.plain (OpenSpec.ofChange eventDaysSpec)) eventDaysCard

/-- THE TIED CARD OF 'gazetteerlaw26.EventPlaces'. -/
def eventPlacesCard : Claim7 := { stood := { row := eventPlacesRow, standIns := [], harness := (true, "609f4d8f1512ec9e27152b34bfb5aa448ceb741530a74a58adaaf57f007821d2"), looks := true }, kinds := [], alts := [], laidByText := true, laidKinds := [.data, .data, .data, .data, .sentinel, .sentinel, .pinned], laidTests := true, laidLooks := .later }
def EventPlacesCardSaid : Prop := Claim7.holds Tryz.pinned (.plain (OpenSpec.ofChange eventPlacesSpec)) eventPlacesCard

/-- THE TIED CARD OF 'gazetteerlaw26.EventOrder'. -/
def eventOrderCard : Claim7 := { stood := { row := eventOrderRow, standIns := [], harness := (true, "609f4d8f1512ec9e27152b34bfb5aa448ceb741530a74a58adaaf57f007821d2"), looks := true }, kinds := [], alts := [], laidByText := true, laidKinds := [.data, .data, .data, .data, .sentinel, .sentinel, .pinned], laidTests := true, laidLooks := .later }
def EventOrderCardSaid : Prop := Claim7.holds Tryz.pinned (.plain (OpenSpec.ofChange eventOrderSpec)) eventOrderCard

/-- THE TIED CARD OF 'gazetteerlaw26.EventFewer'. -/
def eventFewerCard : Claim7 := { stood := { row := eventFewerRow, standIns := [], harness := (true, "609f4d8f1512ec9e27152b34bfb5aa448ceb741530a74a58adaaf57f007821d2"), looks := true }, kinds := [], alts := [], laidByText := true, laidKinds := [.data, .data, .data, .data, .sentinel, .sentinel, .pinned], laidTests := true, laidLooks := .later }
def EventFewerCardSaid : Prop := Claim7.holds Tryz.pinned (.plain (OpenSpec.ofChange eventFewerSpec)) eventFewerCard

/-- THE SECOND FORM's CARD OF 'gazetteerlaw26.EventMatchesReference'. -/
def eventMatchesReferenceUptoCard : Claim7 := { stood := { row := eventMatchesReferenceUptoRow, standIns := [], harness := (true, "609f4d8f1512ec9e27152b34bfb5aa448ceb741530a74a58adaaf57f007821d2"), looks := true }, kinds := [], alts := [], laidByText := true, laidKinds := [.data, .data, .data, .data, .sentinel, .sentinel, .pinned], laidTests := true, laidLooks := .later }
def EventMatchesReferenceUptoCardSaid : Prop := Claim7.holds Tryz.pinned (.plain (OpenSpec.upto eventMatchesReferenceSpec)) eventMatchesReferenceUptoCard

/-- THE SECOND FORM's CARD OF 'gazetteerlaw26.EventTexts'. -/
def eventTextsUptoCard : Claim7 := { stood := { row := eventTextsUptoRow, standIns := [], harness := (true, "609f4d8f1512ec9e27152b34bfb5aa448ceb741530a74a58adaaf57f007821d2"), looks := true }, kinds := [], alts := [], laidByText := true, laidKinds := [.data, .data, .data, .data, .sentinel, .sentinel, .pinned], laidTests := true, laidLooks := .later }
def EventTextsUptoCardSaid : Prop := Claim7.holds Tryz.pinned (.plain (OpenSpec.upto eventTextsSpec)) eventTextsUptoCard

/-- THE SECOND FORM's CARD OF 'gazetteerlaw26.EventFields'. -/
def eventFieldsUptoCard : Claim7 := { stood := { row := eventFieldsUptoRow, standIns := [], harness := (true, "609f4d8f1512ec9e27152b34bfb5aa448ceb741530a74a58adaaf57f007821d2"), looks := true }, kinds := [], alts := [], laidByText := true, laidKinds := [.data, .data, .data, .data, .sentinel, .sentinel, .pinned], laidTests := true, laidLooks := .later }
def EventFieldsUptoCardSaid : Prop := Claim7.holds Tryz.pinned (.plain (OpenSpec.upto eventFieldsSpec)) eventFieldsUptoCard

/-- THE SECOND FORM's CARD OF 'gazetteerlaw26.EventDays'. -/
def eventDaysUptoCard : Claim7 := { stood := { row := eventDaysUptoRow, standIns := [], harness := (true, "609f4d8f1512ec9e27152b34bfb5aa448ceb741530a74a58adaaf57f007821d2"), looks := true }, kinds := [], alts := [], laidByText := true, laidKinds := [.data, .data, .data, .data, .sentinel, .sentinel, .pinned], laidTests := true, laidLooks := .later }
def EventDaysUptoCardSaid : Prop := Claim7.holds Tryz.pinned (.plain (OpenSpec.upto eventDaysSpec)) eventDaysUptoCard

/-- THE SECOND FORM's CARD OF 'gazetteerlaw26.EventPlaces'. -/
def eventPlacesUptoCard : Claim7 := { stood := { row := eventPlacesUptoRow, standIns := [], harness := (true, "609f4d8f1512ec9e27152b34bfb5aa448ceb741530a74a58adaaf57f007821d2"), looks := true }, kinds := [], alts := [], laidByText := true, laidKinds := [.data, .data, .data, .data, .sentinel, .sentinel, .pinned], laidTests := true, laidLooks := .later }
def EventPlacesUptoCardSaid : Prop := Claim7.holds Tryz.pinned (.plain (OpenSpec.upto eventPlacesSpec)) eventPlacesUptoCard

/-- THE SECOND FORM's CARD OF 'gazetteerlaw26.EventOrder'. -/
def eventOrderUptoCard : Claim7 := { stood := { row := eventOrderUptoRow, standIns := [], harness := (true, "609f4d8f1512ec9e27152b34bfb5aa448ceb741530a74a58adaaf57f007821d2"), looks := true }, kinds := [], alts := [], laidByText := true, laidKinds := [.data, .data, .data, .data, .sentinel, .sentinel, .pinned], laidTests := true, laidLooks := .later }
def EventOrderUptoCardSaid : Prop := Claim7.holds Tryz.pinned (.plain (OpenSpec.upto eventOrderSpec)) eventOrderUptoCard

/-- THE SECOND FORM's CARD OF 'gazetteerlaw26.EventFewer'. -/
def eventFewerUptoCard : Claim7 := { stood := { row := eventFewerUptoRow, standIns := [], harness := (true, "609f4d8f1512ec9e27152b34bfb5aa448ceb741530a74a58adaaf57f007821d2"), looks := true }, kinds := [], alts := [], laidByText := true, laidKinds := [.data, .data, .data, .data, .sentinel, .sentinel, .pinned], laidTests := true, laidLooks := .later }
def EventFewerUptoCardSaid : Prop := Claim7.holds Tryz.pinned (.plain (OpenSpec.upto eventFewerSpec)) eventFewerUptoCard
end Rows
end Go.Proofs.YtlfdokecdilkcaaGreatDoor
