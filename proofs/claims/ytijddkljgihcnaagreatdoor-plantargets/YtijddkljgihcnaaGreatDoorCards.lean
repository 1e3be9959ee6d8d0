/-
  DERIVED. GIVEN WITH THE SEED: THE CARDS: each row of YtijddkljgihcnaaGreatDoorRows.lean that lists a variable, with what it lists TIED to the program's text (the seventh form; the later family's looks); each row that meets fmt, with fmt's text TOLD by the authors' own Lean function (tested against real Go, not proved from fmt's source: count such statements apart). THE CARD IS WHAT COUNTS. Prove the row's statement (the work); the ties are given (YtijddkljgihcnaaGreatDoorTie.lean); close each card by the builder's one call (the guide's Derived/Test/ToyasCard.lean, 'card_holds'). Laid BY PROGRAM, IN A SANDBOX (cutbox-door.mjs). By AI agents, Wed Nov 11 2026. No macro, syntax, notation, axiom, sorry.
-/
import Derived.Test.YtijddkljgihcnaaGreatDoorRows
import GoSem.ClaimSeven
namespace Go.Proofs.YtijddkljgihcnaaGreatDoor
namespace Rows

/-- THE TIED CARD OF 'gazetteerlaw47.PlanMatchesReference'. -/
def planMatchesReferenceCard : Claim7 := { stood := { row := planMatchesReferenceRow, standIns := [], harness := (true, "68dd701d730ada086798851fb44013755f0f22fd0f660ef1010d31d463429499"), looks := true }, kinds := [], alts := [], laidByText := true, laidKinds := [.data, .data, .data, .data, .sentinel, .sentinel, .pinned], laidTests := true, laidLooks := .later }
def PlanMatchesReferenceCardSaid : Prop := Claim7.holds Tryz.pinned (.plain (OpenSpec.ofChange planMatchesReferenceSpec)) planMatchesReferenceCard

/-- THE TIED CARD OF 'gazetteerlaw47.PlanHops'. -/
def planHopsCard : Claim7 := { stood := { row := planHopsRow, standIns := [], harness := (true, "68dd701d730ada086798851fb44013755f0f22fd0f660ef1010d31d463429499"), looks := true }, kinds := [], alts := [], laidByText := true, laidKinds := [.data, .data, .data, .data, .sentinel, .sentinel, .pinned], laidTests := true, laidLooks := .later }
def PlanHopsCardSaid : Prop := Claim7.holds Tryz.pinned (.plain (OpenSpec.ofChange planHopsSpec)) planHopsCard

/-- THE TIED CARD OF 'gazetteerlaw47.PlanNext'. -/
def planNextCard : Claim7 := { stood := { row := planNextRow, standIns := [], harness := (true, "68dd701d730ada086798851fb44013755f0f22fd0f660ef1010d31d463429499"), looks := true }, kinds := [], alts := [], laidByText := true, laidKinds := [.data, .data, .data, .data, .sentinel, .sentinel, .pinned], laidTests := true, laidLooks := .later }
def PlanNextCardSaid : Prop := Claim7.holds Tryz.pinned (.plain (OpenSpec.ofChange planNextSpec)) planNextCard

/-- THE TIED CARD OF 'gazetteerlaw47.PlanLines'. -/
def planLinesCard : Claim7 := { stood := { row := planLinesRow, standIns := [], harness := (true, "68dd701d730ada086798851fb44013755f0f22fd0f660ef1010d31d463429499"), looks := true }, kinds := [], alts := [], laidByText := true, laidKinds := [.data, .data, .data, .data, .sentinel, .sentinel, .pinned], laidTests := true, laidLooks := .later }
def PlanLinesCardSaid : Prop := Claim7.holds Tryz.pinned (.plain (OpenSpec.ofChange planLinesSpec)) planLinesCard

/-- THE TIED CARD OF 'gazetteerlaw47.PlanServes'. -/
def planServesCard : Claim7 := { stood := { row := planServesRow, standIns := [], harness := (true, "68dd701d730ada086798851fb44013755f0f22fd0f660ef1010d31d463429499"), looks := true }, kinds := [], alts := [], laidByText := true, laidKinds := [.data, .data, .data, .data, .sentinel, .sentinel, .pinned], laidTests := true, laidLooks := .later }
def PlanServesCardSaid : Prop := Claim7.holds Tryz.pinned (.plain (OpenSpec.ofChange planServesSpec)) planServesCard

/-- THE TIED CARD OF 'gazetteerlaw47.PlanTargets'. -/
def planTargetsCard : Claim7 := { stood := { row := planTargetsRow, standIns := [], harness := (true, "68dd701d730ada086798851fb44013755f0f22fd0f660ef1010d31d463429499"), looks := true }, kinds := [], alts := [], laidByText := true, laidKinds := [.data, .data, .data, .data, .sentinel, .sentinel, .pinned], laidTests := true, laidLooks := .later }
def PlanTargetsCardSaid : Prop := Claim7.holds Tryz.pinned (.plain (OpenSpec.ofChange planTargetsSpec)) planTargetsCard

/-- THE SECOND FORM's CARD OF 'gazetteerlaw47.PlanMatchesReference'. -/
def planMatchesReferenceUptoCard : Claim7 := { stood := { row := planMatchesReferenceUptoRow, standIns := [], harness := (true, "68dd701d730ada086798851fb44013755f0f22fd0f660ef1010d31d463429499"), looks := true }, kinds := [], alts := [], laidByText := true, laidKinds := [.data, .data, .data, .data, .sentinel, .sentinel, .pinned], laidTests := true, laidLooks := .later }
def PlanMatchesReferenceUptoCardSaid : Prop := Claim7.holds Tryz.pinned (.plain (OpenSpec.upto planMatchesReferenceSpec)) planMatchesReferenceUptoCard

/-- THE SECOND FORM's CARD OF 'gazetteerlaw47.PlanHops'. -/
def planHopsUptoCard : Claim7 := { stood := { row := planHopsUptoRow, standIns := [], harness := (true, "68dd701d730ada086798851fb44013755f0f22fd0f660ef1010d31d463429499"), looks := true }, kinds := [], alts := [], laidByText := true, laidKinds := [.data, .data, .data, .data, .sentinel, .sentinel, .pinned], laidTests := true, laidLooks := .later }
def PlanHopsUptoCardSaid : Prop := Claim7.holds Tryz.pinned (.plain (OpenSpec.upto planHopsSpec)) planHopsUptoCard

/-- THE SECOND FORM's CARD OF 'gazetteerlaw47.PlanNext'. -/
def planNextUptoCard : Claim7 := { stood := { row := planNextUptoRow, standIns := [], harness := (true, "68dd701d730ada086798851fb44013755f0f22fd0f660ef1010d31d463429499"), looks := true }, kinds := [], alts := [], laidByText := true, laidKinds := [.data, .data, .data, .data, .sentinel, .sentinel, .pinned], laidTests := true, laidLooks := .later }
def PlanNextUptoCardSaid : Prop := Claim7.holds Tryz.pinned (.plain (OpenSpec.upto planNextSpec)) planNextUptoCard

/-- THE SECOND FORM's CARD OF 'gazetteerlaw47.PlanLines'. -/
def planLinesUptoCard : Claim7 := { stood := { row := planLinesUptoRow, standIns := [], harness := (true, "68dd701d730ada086798851fb44013755f0f22fd0f660ef1010d31d463429499"), looks := true }, kinds := [], alts := [], laidByText := true, laidKinds := [.data, .data, .data, .data, .sentinel, .sentinel, .pinned], laidTests := true, laidLooks := .later }
def PlanLinesUptoCardSaid : Prop := Claim7.holds Tryz.pinned (.plain (OpenSpec.upto planLinesSpec)) planLinesUptoCard

/-- THE SECOND FORM's CARD OF 'gazetteerlaw47.PlanServes'. -/
def planServesUptoCard : Claim7 := { stood := { row := planServesUptoRow, standIns := [], harness := (true, "68dd701d730ada086798851fb44013755f0f22fd0f660ef1010d31d463429499"), looks := true }, kinds := [], alts := [], laidByText := true, laidKinds := [.data, .data, .data, .data, .sentinel, .sentinel, .pinned], laidTests := true, laidLooks := .later }
def PlanServesUptoCardSaid : Prop := Claim7.holds Tryz.pinned (.plain (OpenSpec.upto planServesSpec)) planServesUptoCard

/-- THE SECOND FORM's CARD OF 'gazetteerlaw47.PlanTargets'. -/
def planTargetsUptoCard : Claim7 := { stood := { row := planTargetsUptoRow, standIns := [], harness := (true, "68dd701d730ada086798851fb44013755f0f22fd0f660ef1010d31d463429499"), looks := true }, kinds := [], alts := [], laidByText := true, laidKinds := [.data, .data, .data, .data, .sentinel, .sentinel, .pinned], laidTests := true, laidLooks := .later }
def PlanTargetsUptoCardSaid : Prop := Claim7.holds Tryz.pinned (.plain (OpenSpec.upto planTargetsSpec)) planTargetsUptoCard
end Rows
end Go.Proofs.YtijddkljgihcnaaGreatDoor
