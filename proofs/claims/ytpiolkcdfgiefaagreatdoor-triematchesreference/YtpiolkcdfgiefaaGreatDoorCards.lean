/-
  DERIVED. GIVEN WITH THE SEED: THE CARDS: each row of YtpiolkcdfgiefaaGreatDoorRows.lean that lists a variable, with what it lists TIED to the program's text (the seventh form; the later family's looks); each row that meets fmt, with fmt's text TOLD by the authors' own Lean function (tested against real Go, not proved from fmt's source: count such statements apart). THE CARD IS WHAT COUNTS. Prove the row's statement (the work); the ties are given (YtpiolkcdfgiefaaGreatDoorTie.lean); close each card by the builder's one call (the guide's Derived/Test/ToyasCard.lean, 'card_holds'). Laid BY PROGRAM, IN A SANDBOX (cutbox-door.mjs). By AI agents, Wed Nov 11 2026. No macro, syntax, notation, axiom, sorry.
-/
import Derived.Test.YtpiolkcdfgiefaaGreatDoorRows
import GoSem.ClaimSeven
namespace Go.Proofs.YtpiolkcdfgiefaaGreatDoor
namespace Rows

/-- THE TIED CARD OF 'gazetteerlaw19.TrieSet'. -/
def trieSetCard : Claim7 := { stood := { row := trieSetRow, standIns := [], harness := (true, "39ff9711f9df8791627111e468abf1f774f593c845284af9d5469325d33aad67"), looks := true }, kinds := [], alts := [], laidByText := true, laidKinds := [.data, .data, .data, .sentinel, .sentinel], laidTests := true, laidLooks := .later }
def TrieSetCardSaid : Prop := Claim7.holds Tryz.pinned (.plain (OpenSpec.ofChange trieSetSpec)) trieSetCard

/-- THE TIED CARD OF 'gazetteerlaw19.TrieMatchesReference'. -/
def trieMatchesReferenceCard : Claim7 := { stood := { row := trieMatchesReferenceRow, standIns := [], harness := (true, "39ff9711f9df8791627111e468abf1f774f593c845284af9d5469325d33aad67"), looks := true }, kinds := [], alts := [], laidByText := true, laidKinds := [.data, .data, .data, .sentinel, .sentinel], laidTests := true, laidLooks := .later }
def TrieMatchesReferenceCardSaid : Prop := Claim7.holds Tryz.pinned (.plain (OpenSpec.ofChange trieMatchesReferenceSpec)) trieMatchesReferenceCard

/-- THE TIED CARD OF 'gazetteerlaw19.TrieBack'. -/
def trieBackCard : Claim7 := { stood := { row := trieBackRow, standIns := [], harness := (true, "39ff9711f9df8791627111e468abf1f774f593c845284af9d5469325d33aad67"), looks := true }, kinds := [], alts := [], laidByText := true, laidKinds := [.data, .data, .data, .sentinel, .sentinel], laidTests := true, laidLooks := .later }
def TrieBackCardSaid : Prop := Claim7.holds Tryz.pinned (.plain (OpenSpec.ofChange trieBackSpec)) trieBackCard

/-- THE TIED CARD OF 'gazetteerlaw19.TrieDifferent'. -/
def trieDifferentCard : Claim7 := { stood := { row := trieDifferentRow, standIns := [], harness := (true, "39ff9711f9df8791627111e468abf1f774f593c845284af9d5469325d33aad67"), looks := true }, kinds := [], alts := [], laidByText := true, laidKinds := [.data, .data, .data, .sentinel, .sentinel], laidTests := true, laidLooks := .later }
def TrieDifferentCardSaid : Prop := Claim7.holds Tryz.pinned (.plain (OpenSpec.ofChange trieDifferentSpec)) trieDifferentCard

/-- THE TIED CARD OF 'gazetteerlaw19.TrieCopies'. -/
def trieCopiesCard : Claim7 := { stood := { row := trieCopiesRow, standIns := [], harness := (true, "39ff9711f9df8791627111e468abf1f774f593c845284af9d5469325d33aad67"), looks := true }, kinds := [], alts := [], laidByText := true, laidKinds := [.data, .data, .data, .sentinel, .sentinel], laidTests := true, laidLooks := .later }
def TrieCopiesCardSaid : Prop := Claim7.holds Tryz.pinned (.plain (OpenSpec.ofChange trieCopiesSpec)) trieCopiesCard

/-- THE TIED CARD OF 'gazetteerlaw19.TrieNodes'. -/
def trieNodesCard : Claim7 := { stood := { row := trieNodesRow, standIns := [], harness := (true, "39ff9711f9df8791627111e468abf1f774f593c845284af9d5469325d33aad67"), looks := true }, kinds := [], alts := [], laidByText := true, laidKinds := [.data, .data, .data, .data, .sentinel, .sentinel, .pinned], laidTests := true, laidLooks := .later }
def TrieNodesCardSaid : Prop := Claim7.holds Tryz.pinned (.plain (OpenSpec.ofChange trieNodesSpec)) trieNodesCard

/-- THE TIED CARD OF 'gazetteerlaw19.TrieOrder'. -/
def trieOrderCard : Claim7 := { stood := { row := trieOrderRow, standIns := [], harness := (true, "39ff9711f9df8791627111e468abf1f774f593c845284af9d5469325d33aad67"), looks := true }, kinds := [], alts := [], laidByText := true, laidKinds := [.data, .data, .data, .data, .sentinel, .sentinel, .pinned], laidTests := true, laidLooks := .later }
def TrieOrderCardSaid : Prop := Claim7.holds Tryz.pinned (.plain (OpenSpec.ofChange trieOrderSpec)) trieOrderCard

/-- THE SECOND FORM's CARD OF 'gazetteerlaw19.TrieSet'. -/
def trieSetUptoCard : Claim7 := { stood := { row := trieSetUptoRow, standIns := [], harness := (true, "39ff9711f9df8791627111e468abf1f774f593c845284af9d5469325d33aad67"), looks := true }, kinds := [], alts := [], laidByText := true, laidKinds := [.data, .data, .data, .sentinel, .sentinel], laidTests := true, laidLooks := .later }
def TrieSetUptoCardSaid : Prop := Claim7.holds Tryz.pinned (.plain (OpenSpec.upto trieSetSpec)) trieSetUptoCard

/-- THE SECOND FORM's CARD OF 'gazetteerlaw19.TrieMatchesReference'. -/
def trieMatchesReferenceUptoCard : Claim7 := { stood := { row := trieMatchesReferenceUptoRow, standIns := [], harness := (true, "39ff9711f9df8791627111e468abf1f774f593c845284af9d5469325d33aad67"), looks := true }, kinds := [], alts := [], laidByText := true, laidKinds := [.data, .data, .data, .sentinel, .sentinel], laidTests := true, laidLooks := .later }
def TrieMatchesReferenceUptoCardSaid : Prop := Claim7.holds Tryz.pinned (.plain (OpenSpec.upto trieMatchesReferenceSpec)) trieMatchesReferenceUptoCard

/-- THE SECOND FORM's CARD OF 'gazetteerlaw19.TrieBack'. -/
def trieBackUptoCard : Claim7 := { stood := { row := trieBackUptoRow, standIns := [], harness := (true, "39ff9711f9df8791627111e468abf1f774f593c845284af9d5469325d33aad67"), looks := true }, kinds := [], alts := [], laidByText := true, laidKinds := [.data, .data, .data, .sentinel, .sentinel], laidTests := true, laidLooks := .later }
def TrieBackUptoCardSaid : Prop := Claim7.holds Tryz.pinned (.plain (OpenSpec.upto trieBackSpec)) trieBackUptoCard

/-- THE SECOND FORM's CARD OF 'gazetteerlaw19.TrieDifferent'. -/
def trieDifferentUptoCard : Claim7 := { stood := { row := trieDifferentUptoRow, standIns := [], harness := (true, "39ff9711f9df8791627111e468abf1f774f593c845284af9d5469325d33aad67"), looks := true }, kinds := [], alts := [], laidByText := true, laidKinds := [.data, .data, .data, .sentinel, .sentinel], laidTests := true, laidLooks := .later }
def TrieDifferentUptoCardSaid : Prop := Claim7.holds Tryz.pinned (.plain (OpenSpec.upto trieDifferentSpec)) trieDifferentUptoCard

/-- THE SECOND FORM's CARD OF 'gazetteerlaw19.TrieCopies'. -/
def trieCopiesUptoCard : Claim7 := { stood := { row := trieCopiesUptoRow, standIns := [], harness := (true, "39ff9711f9df8791627111e468abf1f774f593c845284af9d5469325d33aad67"), looks := true }, kinds := [], alts := [], laidByText := true, laidKinds := [.data, .data, .data, .sentinel, .sentinel], laidTests := true, laidLooks := .later }
def TrieCopiesUptoCardSaid : Prop := Claim7.holds Tryz.pinned (.plain (OpenSpec.upto trieCopiesSpec)) trieCopiesUptoCard

/-- THE SECOND FORM's CARD OF 'gazetteerlaw19.TrieNodes'. -/
def trieNodesUptoCard : Claim7 := { stood := { row := trieNodesUptoRow, standIns := [], harness := (true, "39ff9711f9df8791627111e468abf1f774f593c845284af9d5469325d33aad67"), looks := true }, kinds := [], alts := [], laidByText := true, laidKinds := [.data, .data, .data, .data, .sentinel, .sentinel, .pinned], laidTests := true, laidLooks := .later }
def TrieNodesUptoCardSaid : Prop := Claim7.holds Tryz.pinned (.plain (OpenSpec.upto trieNodesSpec)) trieNodesUptoCard

/-- THE SECOND FORM's CARD OF 'gazetteerlaw19.TrieOrder'. -/
def trieOrderUptoCard : Claim7 := { stood := { row := trieOrderUptoRow, standIns := [], harness := (true, "39ff9711f9df8791627111e468abf1f774f593c845284af9d5469325d33aad67"), looks := true }, kinds := [], alts := [], laidByText := true, laidKinds := [.data, .data, .data, .data, .sentinel, .sentinel, .pinned], laidTests := true, laidLooks := .later }
def TrieOrderUptoCardSaid : Prop := Claim7.holds Tryz.pinned (.plain (OpenSpec.upto trieOrderSpec)) trieOrderUptoCard
end Rows
end Go.Proofs.YtpiolkcdfgiefaaGreatDoor
