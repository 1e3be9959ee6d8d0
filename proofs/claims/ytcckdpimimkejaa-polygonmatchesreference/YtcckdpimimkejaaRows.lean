/-
  No cell of these rows narrows 'for every input' (looked for: loops, veiled, ifaces, maps, wideKeys, modest, calm, conditions, laid).
  DERIVED. THE GIVEN ROWS OF THIS SEAT. 8 by the template 'for every input the law returns true; each argument reads behind the call as it read before'; 0 by the template 'total and deterministic' (their statements: YtcckdpimimkejaaTotals.lean).
  GIVEN WITH THE SEED: the statements are not yours to turn. If you find one false, say at which input.
  Laid BY PROGRAM, IN A SANDBOX (cutbox-rows.mjs): the forced cells as the released guide's own fill.sh prints them over the translation b93abe6ccf4f295a… (all of the seat's roots in one cut). By AI agents, Wed Nov 11 2026. No macro, syntax, notation, axiom, sorry.
-/
import Derived.Test.YtcckdpimimkejaaChecked
import GoSem.Claim
import GoSem.ClaimJoined
import GoSem.ClaimMapViews
import Derived.JoinedTies
import Derived.KernelRfl
namespace Go.Proofs.Ytcckdpimimkejaa
/- THE CELL 'sum', in the pinned program and in every row, IS THE sha256 OF THE DUMP (.gsa) THAT YtcckdpimimkejaaProg.lean LOADS. Nothing in Lean hashes anything: it is a label: what it is worth is what the hold of that sum in a sandbox is worth. -/
noncomputable def Try.pinned : Pinned := { name := "ytcckdpimimkejaa", sum := "b93abe6ccf4f295a094fa136346283807c23be3015f05df135fae7cf98e543f8", checked := Try.checked }
namespace Rows
def none {H : Type} : Left H := { results := [], args := [] }

/-- 'gazetteerlaw08.PolygonMatchesReference': WHATEVER THE INPUT: true; the input reads as it did. -/
def polygonMatchesReferenceSpec : ChangeSpec := { name := "polygonMatchesReference", fn := fun _ => fun
  | [d1, d2, d3] => { results := [.lit (.bool true)], args := [d1, d2, d3] }
  | _ => none }
def polygonMatchesReferenceRow : OpenClaim := { program := "ytcckdpimimkejaa", sum := "b93abe6ccf4f295a094fa136346283807c23be3015f05df135fae7cf98e543f8", func := "gazetteer/gazetteerlaw08.PolygonMatchesReference", spec := "polygonMatchesReference", unfollowed := true, recurses := true, apart := false }
def PolygonMatchesReferenceSaid : Prop := polygonMatchesReferenceRow.holds Try.pinned (OpenSpec.ofChange polygonMatchesReferenceSpec)

/-- ITS FALSE NEIGHBOUR: 'it returns false'. Refute it at one input. -/
def polygonMatchesReferenceWrong : ChangeSpec := { name := "polygonMatchesReference", fn := fun _ => fun
  | [d1, d2, d3] => { results := [.lit (.bool false)], args := [d1, d2, d3] }
  | _ => none }
def PolygonMatchesReferenceWrongFalsely : Prop := polygonMatchesReferenceRow.holds Try.pinned (OpenSpec.ofChange polygonMatchesReferenceWrong)

/-- 'gazetteerlaw08.PolygonBegins': WHATEVER THE INPUT: true; the input reads as it did. -/
def polygonBeginsSpec : ChangeSpec := { name := "polygonBegins", fn := fun _ => fun
  | [d1, d2, d3, d4] => { results := [.lit (.bool true)], args := [d1, d2, d3, d4] }
  | _ => none }
def polygonBeginsRow : OpenClaim := { program := "ytcckdpimimkejaa", sum := "b93abe6ccf4f295a094fa136346283807c23be3015f05df135fae7cf98e543f8", func := "gazetteer/gazetteerlaw08.PolygonBegins", spec := "polygonBegins", unfollowed := true, recurses := true, apart := false }
def PolygonBeginsSaid : Prop := polygonBeginsRow.holds Try.pinned (OpenSpec.ofChange polygonBeginsSpec)

/-- ITS FALSE NEIGHBOUR: 'it returns false'. Refute it at one input. -/
def polygonBeginsWrong : ChangeSpec := { name := "polygonBegins", fn := fun _ => fun
  | [d1, d2, d3, d4] => { results := [.lit (.bool false)], args := [d1, d2, d3, d4] }
  | _ => none }
def PolygonBeginsWrongFalsely : Prop := polygonBeginsRow.holds Try.pinned (OpenSpec.ofChange polygonBeginsWrong)

/-- 'gazetteerlaw08.PolygonBoxes': WHATEVER THE INPUT: true; the input reads as it did. -/
def polygonBoxesSpec : ChangeSpec := { name := "polygonBoxes", fn := fun _ => fun
  | [d1, d2, d3] => { results := [.lit (.bool true)], args := [d1, d2, d3] }
  | _ => none }
def polygonBoxesRow : OpenClaim := { program := "ytcckdpimimkejaa", sum := "b93abe6ccf4f295a094fa136346283807c23be3015f05df135fae7cf98e543f8", func := "gazetteer/gazetteerlaw08.PolygonBoxes", spec := "polygonBoxes", unfollowed := true, recurses := true, apart := false }
def PolygonBoxesSaid : Prop := polygonBoxesRow.holds Try.pinned (OpenSpec.ofChange polygonBoxesSpec)

/-- ITS FALSE NEIGHBOUR: 'it returns false'. Refute it at one input. -/
def polygonBoxesWrong : ChangeSpec := { name := "polygonBoxes", fn := fun _ => fun
  | [d1, d2, d3] => { results := [.lit (.bool false)], args := [d1, d2, d3] }
  | _ => none }
def PolygonBoxesWrongFalsely : Prop := polygonBoxesRow.holds Try.pinned (OpenSpec.ofChange polygonBoxesWrong)

/-- 'gazetteerlaw08.PolygonCounts': WHATEVER THE INPUT: true; the input reads as it did. -/
def polygonCountsSpec : ChangeSpec := { name := "polygonCounts", fn := fun _ => fun
  | [d] => { results := [.lit (.bool true)], args := [d] }
  | _ => none }
def polygonCountsRow : OpenClaim := { program := "ytcckdpimimkejaa", sum := "b93abe6ccf4f295a094fa136346283807c23be3015f05df135fae7cf98e543f8", func := "gazetteer/gazetteerlaw08.PolygonCounts", spec := "polygonCounts", unfollowed := true, recurses := true, apart := false }
def PolygonCountsSaid : Prop := polygonCountsRow.holds Try.pinned (OpenSpec.ofChange polygonCountsSpec)

/-- ITS FALSE NEIGHBOUR: 'it returns false'. Refute it at one input. -/
def polygonCountsWrong : ChangeSpec := { name := "polygonCounts", fn := fun _ => fun
  | [d] => { results := [.lit (.bool false)], args := [d] }
  | _ => none }
def PolygonCountsWrongFalsely : Prop := polygonCountsRow.holds Try.pinned (OpenSpec.ofChange polygonCountsWrong)

/-- 'gazetteerlaw08.PolygonWithin': WHATEVER THE INPUT: true; the input reads as it did. -/
def polygonWithinSpec : ChangeSpec := { name := "polygonWithin", fn := fun _ => fun
  | [d1, d2, d3, d4] => { results := [.lit (.bool true)], args := [d1, d2, d3, d4] }
  | _ => none }
def polygonWithinRow : OpenClaim := { program := "ytcckdpimimkejaa", sum := "b93abe6ccf4f295a094fa136346283807c23be3015f05df135fae7cf98e543f8", func := "gazetteer/gazetteerlaw08.PolygonWithin", spec := "polygonWithin", unfollowed := true, recurses := true, apart := false }
def PolygonWithinSaid : Prop := polygonWithinRow.holds Try.pinned (OpenSpec.ofChange polygonWithinSpec)

/-- ITS FALSE NEIGHBOUR: 'it returns false'. Refute it at one input. -/
def polygonWithinWrong : ChangeSpec := { name := "polygonWithin", fn := fun _ => fun
  | [d1, d2, d3, d4] => { results := [.lit (.bool false)], args := [d1, d2, d3, d4] }
  | _ => none }
def PolygonWithinWrongFalsely : Prop := polygonWithinRow.holds Try.pinned (OpenSpec.ofChange polygonWithinWrong)

/-- 'gazetteerlaw08.PolygonApart': WHATEVER THE INPUT: true; the input reads as it did. -/
def polygonApartSpec : ChangeSpec := { name := "polygonApart", fn := fun _ => fun
  | [d1, d2, d3, d4] => { results := [.lit (.bool true)], args := [d1, d2, d3, d4] }
  | _ => none }
def polygonApartRow : OpenClaim := { program := "ytcckdpimimkejaa", sum := "b93abe6ccf4f295a094fa136346283807c23be3015f05df135fae7cf98e543f8", func := "gazetteer/gazetteerlaw08.PolygonApart", spec := "polygonApart", unfollowed := true, recurses := true, apart := false }
def PolygonApartSaid : Prop := polygonApartRow.holds Try.pinned (OpenSpec.ofChange polygonApartSpec)

/-- ITS FALSE NEIGHBOUR: 'it returns false'. Refute it at one input. -/
def polygonApartWrong : ChangeSpec := { name := "polygonApart", fn := fun _ => fun
  | [d1, d2, d3, d4] => { results := [.lit (.bool false)], args := [d1, d2, d3, d4] }
  | _ => none }
def PolygonApartWrongFalsely : Prop := polygonApartRow.holds Try.pinned (OpenSpec.ofChange polygonApartWrong)

/-- 'gazetteerlaw08.PolygonMoves': WHATEVER THE INPUT: true; the input reads as it did. -/
def polygonMovesSpec : ChangeSpec := { name := "polygonMoves", fn := fun _ => fun
  | [d1, d2, d3, d4, d5, d6] => { results := [.lit (.bool true)], args := [d1, d2, d3, d4, d5, d6] }
  | _ => none }
def polygonMovesRow : OpenClaim := { program := "ytcckdpimimkejaa", sum := "b93abe6ccf4f295a094fa136346283807c23be3015f05df135fae7cf98e543f8", func := "gazetteer/gazetteerlaw08.PolygonMoves", spec := "polygonMoves", unfollowed := true, recurses := true, apart := false }
def PolygonMovesSaid : Prop := polygonMovesRow.holds Try.pinned (OpenSpec.ofChange polygonMovesSpec)

/-- ITS FALSE NEIGHBOUR: 'it returns false'. Refute it at one input. -/
def polygonMovesWrong : ChangeSpec := { name := "polygonMoves", fn := fun _ => fun
  | [d1, d2, d3, d4, d5, d6] => { results := [.lit (.bool false)], args := [d1, d2, d3, d4, d5, d6] }
  | _ => none }
def PolygonMovesWrongFalsely : Prop := polygonMovesRow.holds Try.pinned (OpenSpec.ofChange polygonMovesWrong)

/-- 'gazetteerlaw08.PolygonCuts': WHATEVER THE INPUT: true; the input reads as it did. -/
def polygonCutsSpec : ChangeSpec := { name := "polygonCuts", fn := fun _ => fun
  | [d1, d2, d3, d4] => { results := [.lit (.bool true)], args := [d1, d2, d3, d4] }
  | _ => none }
def polygonCutsRow : OpenClaim := { program := "ytcckdpimimkejaa", sum := "b93abe6ccf4f295a094fa136346283807c23be3015f05df135fae7cf98e543f8", func := "gazetteer/gazetteerlaw08.PolygonCuts", spec := "polygonCuts", unfollowed := true, recurses := true, apart := false }
def PolygonCutsSaid : Prop := polygonCutsRow.holds Try.pinned (OpenSpec.ofChange polygonCutsSpec)

/-- ITS FALSE NEIGHBOUR: 'it returns false'. Refute it at one input. -/
def polygonCutsWrong : ChangeSpec := { name := "polygonCuts", fn := fun _ => fun
  | [d1, d2, d3, d4] => { results := [.lit (.bool false)], args := [d1, d2, d3, d4] }
  | _ => none }
def PolygonCutsWrongFalsely : Prop := polygonCutsRow.holds Try.pinned (OpenSpec.ofChange polygonCutsWrong)

/- THE SECOND FORM. 'bulk': how many values and letters a reading holds, each counted each time it is reached (what is shared counts as often as it is met; a slice's spare places count too). A statement '..UptoSaid' is the law's where the arguments, and the package variables that the reading takes, are together of bulk at most 1048576: NARROWER than '..Said'. Prove '..Said' where nothing that the law and all that it calls make is longer than what came in: it says more and counts as full. Else prove '..UptoSaid'. A law counts once. -/
mutual
def uptoBulk {H : Type} : DataW H → Nat
  | .lit (.string bytes) => bytes.length + 1
  | .lit _ => 1
  | .nil => 1
  | .ptr d => uptoBulk d + 1
  | .slice elems spare => uptoBulkAll elems + uptoBulkAll spare + 1
  | .agg parts => uptoBulkAll parts + 1
  | .iface _ d => uptoBulk d + 1
  | .map entries => uptoBulkEntries entries + 1
  | .held _ => 1
def uptoBulkAll {H : Type} : List (DataW H) → Nat
  | [] => 0
  | d :: r => uptoBulk d + uptoBulkAll r
def uptoBulkEntries {H : Type} : List (Lit × DataW H) → Nat
  | [] => 0
  | x :: r => uptoBulkEntry x + uptoBulkEntries r
def uptoBulkEntry {H : Type} : Lit × DataW H → Nat
  | (.string bytes, d) => bytes.length + uptoBulk d + 1
  | (_, d) => uptoBulk d + 1
 end
def uptoSmall : (H : Type) → List (DataW H) → Bool := fun _ ds => decide (uptoBulkAll ds ≤ 1048576)
def OpenSpec.upto (s : _root_.Go.ChangeSpec) : _root_.Go.OpenSpec := { _root_.Go.OpenSpec.ofChange s with cond := some uptoSmall }

/-- 'gazetteerlaw08.PolygonMatchesReference', WHERE WHAT IT READS IS OF BULK AT MOST 1048576: true; the input reads as it did. -/
def polygonMatchesReferenceUptoRow : OpenClaim := { program := "ytcckdpimimkejaa", sum := "b93abe6ccf4f295a094fa136346283807c23be3015f05df135fae7cf98e543f8", func := "gazetteer/gazetteerlaw08.PolygonMatchesReference", spec := "polygonMatchesReference", unfollowed := true, recurses := true, apart := false, narrowed := true }
def PolygonMatchesReferenceUptoSaid : Prop := polygonMatchesReferenceUptoRow.holds Try.pinned (OpenSpec.upto polygonMatchesReferenceSpec)

/-- 'gazetteerlaw08.PolygonBegins', WHERE WHAT IT READS IS OF BULK AT MOST 1048576: true; the input reads as it did. -/
def polygonBeginsUptoRow : OpenClaim := { program := "ytcckdpimimkejaa", sum := "b93abe6ccf4f295a094fa136346283807c23be3015f05df135fae7cf98e543f8", func := "gazetteer/gazetteerlaw08.PolygonBegins", spec := "polygonBegins", unfollowed := true, recurses := true, apart := false, narrowed := true }
def PolygonBeginsUptoSaid : Prop := polygonBeginsUptoRow.holds Try.pinned (OpenSpec.upto polygonBeginsSpec)

/-- 'gazetteerlaw08.PolygonBoxes', WHERE WHAT IT READS IS OF BULK AT MOST 1048576: true; the input reads as it did. -/
def polygonBoxesUptoRow : OpenClaim := { program := "ytcckdpimimkejaa", sum := "b93abe6ccf4f295a094fa136346283807c23be3015f05df135fae7cf98e543f8", func := "gazetteer/gazetteerlaw08.PolygonBoxes", spec := "polygonBoxes", unfollowed := true, recurses := true, apart := false, narrowed := true }
def PolygonBoxesUptoSaid : Prop := polygonBoxesUptoRow.holds Try.pinned (OpenSpec.upto polygonBoxesSpec)

/-- 'gazetteerlaw08.PolygonCounts', WHERE WHAT IT READS IS OF BULK AT MOST 1048576: true; the input reads as it did. -/
def polygonCountsUptoRow : OpenClaim := { program := "ytcckdpimimkejaa", sum := "b93abe6ccf4f295a094fa136346283807c23be3015f05df135fae7cf98e543f8", func := "gazetteer/gazetteerlaw08.PolygonCounts", spec := "polygonCounts", unfollowed := true, recurses := true, apart := false, narrowed := true }
def PolygonCountsUptoSaid : Prop := polygonCountsUptoRow.holds Try.pinned (OpenSpec.upto polygonCountsSpec)

/-- 'gazetteerlaw08.PolygonWithin', WHERE WHAT IT READS IS OF BULK AT MOST 1048576: true; the input reads as it did. -/
def polygonWithinUptoRow : OpenClaim := { program := "ytcckdpimimkejaa", sum := "b93abe6ccf4f295a094fa136346283807c23be3015f05df135fae7cf98e543f8", func := "gazetteer/gazetteerlaw08.PolygonWithin", spec := "polygonWithin", unfollowed := true, recurses := true, apart := false, narrowed := true }
def PolygonWithinUptoSaid : Prop := polygonWithinUptoRow.holds Try.pinned (OpenSpec.upto polygonWithinSpec)

/-- 'gazetteerlaw08.PolygonApart', WHERE WHAT IT READS IS OF BULK AT MOST 1048576: true; the input reads as it did. -/
def polygonApartUptoRow : OpenClaim := { program := "ytcckdpimimkejaa", sum := "b93abe6ccf4f295a094fa136346283807c23be3015f05df135fae7cf98e543f8", func := "gazetteer/gazetteerlaw08.PolygonApart", spec := "polygonApart", unfollowed := true, recurses := true, apart := false, narrowed := true }
def PolygonApartUptoSaid : Prop := polygonApartUptoRow.holds Try.pinned (OpenSpec.upto polygonApartSpec)

/-- 'gazetteerlaw08.PolygonMoves', WHERE WHAT IT READS IS OF BULK AT MOST 1048576: true; the input reads as it did. -/
def polygonMovesUptoRow : OpenClaim := { program := "ytcckdpimimkejaa", sum := "b93abe6ccf4f295a094fa136346283807c23be3015f05df135fae7cf98e543f8", func := "gazetteer/gazetteerlaw08.PolygonMoves", spec := "polygonMoves", unfollowed := true, recurses := true, apart := false, narrowed := true }
def PolygonMovesUptoSaid : Prop := polygonMovesUptoRow.holds Try.pinned (OpenSpec.upto polygonMovesSpec)

/-- 'gazetteerlaw08.PolygonCuts', WHERE WHAT IT READS IS OF BULK AT MOST 1048576: true; the input reads as it did. -/
def polygonCutsUptoRow : OpenClaim := { program := "ytcckdpimimkejaa", sum := "b93abe6ccf4f295a094fa136346283807c23be3015f05df135fae7cf98e543f8", func := "gazetteer/gazetteerlaw08.PolygonCuts", spec := "polygonCuts", unfollowed := true, recurses := true, apart := false, narrowed := true }
def PolygonCutsUptoSaid : Prop := polygonCutsUptoRow.holds Try.pinned (OpenSpec.upto polygonCutsSpec)

end Rows
end Go.Proofs.Ytcckdpimimkejaa
