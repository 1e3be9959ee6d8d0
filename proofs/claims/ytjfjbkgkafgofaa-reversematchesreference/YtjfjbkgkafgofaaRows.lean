/-
  No cell of these rows narrows 'for every input' (looked for: loops, veiled, ifaces, maps, wideKeys, modest, calm, conditions, laid).
  DERIVED. THE GIVEN ROWS OF THIS SEAT. 5 by the template 'for every input the law returns true; each argument reads behind the call as it read before'; 0 by the template 'total and deterministic' (their statements: YtjfjbkgkafgofaaTotals.lean).
  GIVEN WITH THE SEED: the statements are not yours to turn. If you find one false, say at which input.
  Laid BY PROGRAM, IN A SANDBOX (cutbox-rows.mjs): the forced cells as the released guide's own fill.sh prints them over the translation f8211bb11a302c16… (all of the seat's roots in one cut). By AI agents, Wed Nov 11 2026. No macro, syntax, notation, axiom, sorry.
-/
import Derived.Test.YtjfjbkgkafgofaaChecked
import GoSem.Claim
import GoSem.ClaimJoined
import GoSem.ClaimMapViews
import Derived.JoinedTies
import Derived.KernelRfl
namespace Go.Proofs.Ytjfjbkgkafgofaa
/- THE CELL 'sum', in the pinned program and in every row, IS THE sha256 OF THE DUMP (.gsa) THAT YtjfjbkgkafgofaaProg.lean LOADS. Nothing in Lean hashes anything: it is a label: what it is worth is what the hold of that sum in a sandbox is worth. -/
noncomputable def Try.pinned : Pinned := { name := "ytjfjbkgkafgofaa", sum := "f8211bb11a302c16376a194de3b2d7645eaf064dba602e4a52f6d27ff86c1ab1", checked := Try.checked }
namespace Rows
def none {H : Type} : Left H := { results := [], args := [] }

/-- 'gazetteerlaw39.ReverseMatchesReference': WHATEVER THE INPUT: true; the input reads as it did. -/
def reverseMatchesReferenceSpec : ChangeSpec := { name := "reverseMatchesReference", fn := fun _ => fun
  | [d1, d2, d3, d4, d5] => { results := [.lit (.bool true)], args := [d1, d2, d3, d4, d5] }
  | _ => none }
def reverseMatchesReferenceRow : OpenClaim := { program := "ytjfjbkgkafgofaa", sum := "f8211bb11a302c16376a194de3b2d7645eaf064dba602e4a52f6d27ff86c1ab1", func := "gazetteer/gazetteerlaw39.ReverseMatchesReference", spec := "reverseMatchesReference", unfollowed := true, recurses := true, plainKeys := false, apart := false }
def ReverseMatchesReferenceSaid : Prop := reverseMatchesReferenceRow.holds Try.pinned (OpenSpec.ofChange reverseMatchesReferenceSpec)

/-- ITS FALSE NEIGHBOUR: 'it returns false'. Refute it at one input. -/
def reverseMatchesReferenceWrong : ChangeSpec := { name := "reverseMatchesReference", fn := fun _ => fun
  | [d1, d2, d3, d4, d5] => { results := [.lit (.bool false)], args := [d1, d2, d3, d4, d5] }
  | _ => none }
def ReverseMatchesReferenceWrongFalsely : Prop := reverseMatchesReferenceRow.holds Try.pinned (OpenSpec.ofChange reverseMatchesReferenceWrong)

/-- 'gazetteerlaw39.ReverseNearest': WHATEVER THE INPUT: true; the input reads as it did. -/
def reverseNearestSpec : ChangeSpec := { name := "reverseNearest", fn := fun _ => fun
  | [d1, d2, d3] => { results := [.lit (.bool true)], args := [d1, d2, d3] }
  | _ => none }
def reverseNearestRow : OpenClaim := { program := "ytjfjbkgkafgofaa", sum := "f8211bb11a302c16376a194de3b2d7645eaf064dba602e4a52f6d27ff86c1ab1", func := "gazetteer/gazetteerlaw39.ReverseNearest", spec := "reverseNearest", unfollowed := true, recurses := true, plainKeys := false, apart := false }
def ReverseNearestSaid : Prop := reverseNearestRow.holds Try.pinned (OpenSpec.ofChange reverseNearestSpec)

/-- ITS FALSE NEIGHBOUR: 'it returns false'. Refute it at one input. -/
def reverseNearestWrong : ChangeSpec := { name := "reverseNearest", fn := fun _ => fun
  | [d1, d2, d3] => { results := [.lit (.bool false)], args := [d1, d2, d3] }
  | _ => none }
def ReverseNearestWrongFalsely : Prop := reverseNearestRow.holds Try.pinned (OpenSpec.ofChange reverseNearestWrong)

/-- 'gazetteerlaw39.ReverseMore': WHATEVER THE INPUT: true; the input reads as it did. -/
def reverseMoreSpec : ChangeSpec := { name := "reverseMore", fn := fun _ => fun
  | [d1, d2, d3, d4] => { results := [.lit (.bool true)], args := [d1, d2, d3, d4] }
  | _ => none }
def reverseMoreRow : OpenClaim := { program := "ytjfjbkgkafgofaa", sum := "f8211bb11a302c16376a194de3b2d7645eaf064dba602e4a52f6d27ff86c1ab1", func := "gazetteer/gazetteerlaw39.ReverseMore", spec := "reverseMore", unfollowed := true, recurses := true, plainKeys := false, apart := false }
def ReverseMoreSaid : Prop := reverseMoreRow.holds Try.pinned (OpenSpec.ofChange reverseMoreSpec)

/-- ITS FALSE NEIGHBOUR: 'it returns false'. Refute it at one input. -/
def reverseMoreWrong : ChangeSpec := { name := "reverseMore", fn := fun _ => fun
  | [d1, d2, d3, d4] => { results := [.lit (.bool false)], args := [d1, d2, d3, d4] }
  | _ => none }
def ReverseMoreWrongFalsely : Prop := reverseMoreRow.holds Try.pinned (OpenSpec.ofChange reverseMoreWrong)

/-- 'gazetteerlaw39.ReverseOrder': WHATEVER THE INPUT: true; the input reads as it did. -/
def reverseOrderSpec : ChangeSpec := { name := "reverseOrder", fn := fun _ => fun
  | [d1, d2, d3, d4] => { results := [.lit (.bool true)], args := [d1, d2, d3, d4] }
  | _ => none }
def reverseOrderRow : OpenClaim := { program := "ytjfjbkgkafgofaa", sum := "f8211bb11a302c16376a194de3b2d7645eaf064dba602e4a52f6d27ff86c1ab1", func := "gazetteer/gazetteerlaw39.ReverseOrder", spec := "reverseOrder", unfollowed := true, recurses := true, plainKeys := false, apart := false }
def ReverseOrderSaid : Prop := reverseOrderRow.holds Try.pinned (OpenSpec.ofChange reverseOrderSpec)

/-- ITS FALSE NEIGHBOUR: 'it returns false'. Refute it at one input. -/
def reverseOrderWrong : ChangeSpec := { name := "reverseOrder", fn := fun _ => fun
  | [d1, d2, d3, d4] => { results := [.lit (.bool false)], args := [d1, d2, d3, d4] }
  | _ => none }
def ReverseOrderWrongFalsely : Prop := reverseOrderRow.holds Try.pinned (OpenSpec.ofChange reverseOrderWrong)

/-- 'gazetteerlaw39.ReverseFurther': WHATEVER THE INPUT: true; the input reads as it did. -/
def reverseFurtherSpec : ChangeSpec := { name := "reverseFurther", fn := fun _ => fun
  | [d1, d2, d3, d4] => { results := [.lit (.bool true)], args := [d1, d2, d3, d4] }
  | _ => none }
def reverseFurtherRow : OpenClaim := { program := "ytjfjbkgkafgofaa", sum := "f8211bb11a302c16376a194de3b2d7645eaf064dba602e4a52f6d27ff86c1ab1", func := "gazetteer/gazetteerlaw39.ReverseFurther", spec := "reverseFurther", unfollowed := true, recurses := true, plainKeys := false, apart := false }
def ReverseFurtherSaid : Prop := reverseFurtherRow.holds Try.pinned (OpenSpec.ofChange reverseFurtherSpec)

/-- ITS FALSE NEIGHBOUR: 'it returns false'. Refute it at one input. -/
def reverseFurtherWrong : ChangeSpec := { name := "reverseFurther", fn := fun _ => fun
  | [d1, d2, d3, d4] => { results := [.lit (.bool false)], args := [d1, d2, d3, d4] }
  | _ => none }
def ReverseFurtherWrongFalsely : Prop := reverseFurtherRow.holds Try.pinned (OpenSpec.ofChange reverseFurtherWrong)

/- THE SECOND FORM. 'bulk': how many values and letters a reading holds, each counted each time it is reached (what is shared counts as often as it is met; a slice's spare places count too). A statement '..UptoSaid' is the law's where the arguments, and the package variables that the reading takes, are together of bulk at most 1048576: NARROWER than '..Said'. Prove '..Said' where nothing that the law and all that it calls make is longer than what came in: it says more and counts as full. Else prove '..UptoSaid'. A law counts once. -/
mutual
def uptoBulk {H : Type} : DataW H → Nat
  | .lit (.string bytes) => bytes.length + 1
  | .lit _ => 1
  | .nil => 1
  | .ptr d => uptoBulk d + 1
  | .slice elems spare => uptoBulkAll elems + uptoBulkAll spare + 1
  | .agg parts => uptoBulkAll parts + 1
  | .iface _ d => uptoBulk d + 1
  | .map entries => uptoBulkEntries entries + 1
  | .held _ => 1
def uptoBulkAll {H : Type} : List (DataW H) → Nat
  | [] => 0
  | d :: r => uptoBulk d + uptoBulkAll r
def uptoBulkEntries {H : Type} : List (Lit × DataW H) → Nat
  | [] => 0
  | x :: r => uptoBulkEntry x + uptoBulkEntries r
def uptoBulkEntry {H : Type} : Lit × DataW H → Nat
  | (.string bytes, d) => bytes.length + uptoBulk d + 1
  | (_, d) => uptoBulk d + 1
 end
def uptoSmall : (H : Type) → List (DataW H) → Bool := fun _ ds => decide (uptoBulkAll ds ≤ 1048576)
def OpenSpec.upto (s : _root_.Go.ChangeSpec) : _root_.Go.OpenSpec := { _root_.Go.OpenSpec.ofChange s with cond := some uptoSmall }

/-- 'gazetteerlaw39.ReverseMatchesReference', WHERE WHAT IT READS IS OF BULK AT MOST 1048576: true; the input reads as it did. -/
def reverseMatchesReferenceUptoRow : OpenClaim := { program := "ytjfjbkgkafgofaa", sum := "f8211bb11a302c16376a194de3b2d7645eaf064dba602e4a52f6d27ff86c1ab1", func := "gazetteer/gazetteerlaw39.ReverseMatchesReference", spec := "reverseMatchesReference", unfollowed := true, recurses := true, plainKeys := false, apart := false, narrowed := true }
def ReverseMatchesReferenceUptoSaid : Prop := reverseMatchesReferenceUptoRow.holds Try.pinned (OpenSpec.upto reverseMatchesReferenceSpec)

/-- 'gazetteerlaw39.ReverseNearest', WHERE WHAT IT READS IS OF BULK AT MOST 1048576: true; the input reads as it did. -/
def reverseNearestUptoRow : OpenClaim := { program := "ytjfjbkgkafgofaa", sum := "f8211bb11a302c16376a194de3b2d7645eaf064dba602e4a52f6d27ff86c1ab1", func := "gazetteer/gazetteerlaw39.ReverseNearest", spec := "reverseNearest", unfollowed := true, recurses := true, plainKeys := false, apart := false, narrowed := true }
def ReverseNearestUptoSaid : Prop := reverseNearestUptoRow.holds Try.pinned (OpenSpec.upto reverseNearestSpec)

/-- 'gazetteerlaw39.ReverseMore', WHERE WHAT IT READS IS OF BULK AT MOST 1048576: true; the input reads as it did. -/
def reverseMoreUptoRow : OpenClaim := { program := "ytjfjbkgkafgofaa", sum := "f8211bb11a302c16376a194de3b2d7645eaf064dba602e4a52f6d27ff86c1ab1", func := "gazetteer/gazetteerlaw39.ReverseMore", spec := "reverseMore", unfollowed := true, recurses := true, plainKeys := false, apart := false, narrowed := true }
def ReverseMoreUptoSaid : Prop := reverseMoreUptoRow.holds Try.pinned (OpenSpec.upto reverseMoreSpec)

/-- 'gazetteerlaw39.ReverseOrder', WHERE WHAT IT READS IS OF BULK AT MOST 1048576: true; the input reads as it did. -/
def reverseOrderUptoRow : OpenClaim := { program := "ytjfjbkgkafgofaa", sum := "f8211bb11a302c16376a194de3b2d7645eaf064dba602e4a52f6d27ff86c1ab1", func := "gazetteer/gazetteerlaw39.ReverseOrder", spec := "reverseOrder", unfollowed := true, recurses := true, plainKeys := false, apart := false, narrowed := true }
def ReverseOrderUptoSaid : Prop := reverseOrderUptoRow.holds Try.pinned (OpenSpec.upto reverseOrderSpec)

/-- 'gazetteerlaw39.ReverseFurther', WHERE WHAT IT READS IS OF BULK AT MOST 1048576: true; the input reads as it did. -/
def reverseFurtherUptoRow : OpenClaim := { program := "ytjfjbkgkafgofaa", sum := "f8211bb11a302c16376a194de3b2d7645eaf064dba602e4a52f6d27ff86c1ab1", func := "gazetteer/gazetteerlaw39.ReverseFurther", spec := "reverseFurther", unfollowed := true, recurses := true, plainKeys := false, apart := false, narrowed := true }
def ReverseFurtherUptoSaid : Prop := reverseFurtherUptoRow.holds Try.pinned (OpenSpec.upto reverseFurtherSpec)

end Rows
end Go.Proofs.Ytjfjbkgkafgofaa
