/-
  NARROWER THAN 'FOR EVERY INPUT', by the rows' own cells (each row's printed sentence says how): AskLeast: loops.
  DERIVED. THE GIVEN ROWS OF THIS SEAT. 4 by the template 'for every input the law returns true; each argument reads behind the call as it read before'; 0 by the template 'total and deterministic' (their statements: YtnkkbbjljmbjbaaTotals.lean).
  GIVEN WITH THE SEED: the statements are not yours to turn. If you find one false, say at which input.
  Laid BY PROGRAM, IN A SANDBOX (cutbox-rows.mjs): the forced cells as the released guide's own fill.sh prints them over the translation 2b4d75d846cb5edf… (all of the seat's roots in one cut). By AI agents, Wed Nov 11 2026. No macro, syntax, notation, axiom, sorry.
-/
import Derived.Test.YtnkkbbjljmbjbaaChecked
import GoSem.Claim
import GoSem.ClaimJoined
import GoSem.ClaimMapViews
import Derived.JoinedTies
import Derived.KernelRfl
namespace Go.Proofs.Ytnkkbbjljmbjbaa
/- THE CELL 'sum', in the pinned program and in every row, IS THE sha256 OF THE DUMP (.gsa) THAT YtnkkbbjljmbjbaaProg.lean LOADS. Nothing in Lean hashes anything: it is a label: what it is worth is what the hold of that sum in a sandbox is worth. -/
noncomputable def Try.pinned : Pinned := { name := "ytnkkbbjljmbjbaa", sum := "2b4d75d846cb5edf8f3da1bedd5b70b6efdbeb82d618c723d340a0fddff01154", checked := Try.checked }
namespace Rows
def none {H : Type} : Left H := { results := [], args := [] }

/-- 'gazetteerlaw38.AskRight': WHATEVER THE INPUT: true; the input reads as it did. -/
def askRightSpec : ChangeSpec := { name := "askRight", fn := fun _ => fun
  | [d1, d2] => { results := [.lit (.bool true)], args := [d1, d2] }
  | _ => none }
def askRightRow : OpenClaim := { program := "ytnkkbbjljmbjbaa", sum := "2b4d75d846cb5edf8f3da1bedd5b70b6efdbeb82d618c723d340a0fddff01154", func := "gazetteer/gazetteerlaw38.AskRight", spec := "askRight", unfollowed := true, recurses := true, apart := false }
def AskRightSaid : Prop := askRightRow.holds Try.pinned (OpenSpec.ofChange askRightSpec)

/-- ITS FALSE NEIGHBOUR: 'it returns false'. Refute it at one input. -/
def askRightWrong : ChangeSpec := { name := "askRight", fn := fun _ => fun
  | [d1, d2] => { results := [.lit (.bool false)], args := [d1, d2] }
  | _ => none }
def AskRightWrongFalsely : Prop := askRightRow.holds Try.pinned (OpenSpec.ofChange askRightWrong)

/-- 'gazetteerlaw38.AskLeast': WHATEVER THE INPUT: true; the input reads as it did. -/
def askLeastSpec : ChangeSpec := { name := "askLeast", fn := fun _ => fun
  | [d1, d2] => { results := [.lit (.bool true)], args := [d1, d2] }
  | _ => none }
def askLeastRow : OpenClaim := { program := "ytnkkbbjljmbjbaa", sum := "2b4d75d846cb5edf8f3da1bedd5b70b6efdbeb82d618c723d340a0fddff01154", func := "gazetteer/gazetteerlaw38.AskLeast", spec := "askLeast", unfollowed := true, recurses := true, loops := true, apart := false }
def AskLeastSaid : Prop := askLeastRow.holds Try.pinned (OpenSpec.ofChange askLeastSpec)

/-- ITS FALSE NEIGHBOUR: 'it returns false'. Refute it at one input. -/
def askLeastWrong : ChangeSpec := { name := "askLeast", fn := fun _ => fun
  | [d1, d2] => { results := [.lit (.bool false)], args := [d1, d2] }
  | _ => none }
def AskLeastWrongFalsely : Prop := askLeastRow.holds Try.pinned (OpenSpec.ofChange askLeastWrong)

/-- 'gazetteerlaw38.AskTwice': WHATEVER THE INPUT: true; the input reads as it did. -/
def askTwiceSpec : ChangeSpec := { name := "askTwice", fn := fun _ => fun
  | [d] => { results := [.lit (.bool true)], args := [d] }
  | _ => none }
def askTwiceRow : OpenClaim := { program := "ytnkkbbjljmbjbaa", sum := "2b4d75d846cb5edf8f3da1bedd5b70b6efdbeb82d618c723d340a0fddff01154", func := "gazetteer/gazetteerlaw38.AskTwice", spec := "askTwice", unfollowed := true, recurses := true, apart := false }
def AskTwiceSaid : Prop := askTwiceRow.holds Try.pinned (OpenSpec.ofChange askTwiceSpec)

/-- ITS FALSE NEIGHBOUR: 'it returns false'. Refute it at one input. -/
def askTwiceWrong : ChangeSpec := { name := "askTwice", fn := fun _ => fun
  | [d] => { results := [.lit (.bool false)], args := [d] }
  | _ => none }
def AskTwiceWrongFalsely : Prop := askTwiceRow.holds Try.pinned (OpenSpec.ofChange askTwiceWrong)

/-- 'gazetteerlaw38.AskFewer': WHATEVER THE INPUT: true; the input reads as it did. -/
def askFewerSpec : ChangeSpec := { name := "askFewer", fn := fun _ => fun
  | [d1, d2, d3] => { results := [.lit (.bool true)], args := [d1, d2, d3] }
  | _ => none }
def askFewerRow : OpenClaim := { program := "ytnkkbbjljmbjbaa", sum := "2b4d75d846cb5edf8f3da1bedd5b70b6efdbeb82d618c723d340a0fddff01154", func := "gazetteer/gazetteerlaw38.AskFewer", spec := "askFewer", unfollowed := true, recurses := true, apart := false }
def AskFewerSaid : Prop := askFewerRow.holds Try.pinned (OpenSpec.ofChange askFewerSpec)

/-- ITS FALSE NEIGHBOUR: 'it returns false'. Refute it at one input. -/
def askFewerWrong : ChangeSpec := { name := "askFewer", fn := fun _ => fun
  | [d1, d2, d3] => { results := [.lit (.bool false)], args := [d1, d2, d3] }
  | _ => none }
def AskFewerWrongFalsely : Prop := askFewerRow.holds Try.pinned (OpenSpec.ofChange askFewerWrong)

/- THE SECOND FORM. 'bulk': how many values and letters a reading holds, each counted each time it is reached (what is shared counts as often as it is met; a slice's spare places count too). A statement '..UptoSaid' is the law's where the arguments, and the package variables that the reading takes, are together of bulk at most 1048576: NARROWER than '..Said'. Prove '..Said' where nothing that the law and all that it calls make is longer than what came in: it says more and counts as full. Else prove '..UptoSaid'. A law counts once. -/
mutual
def uptoBulk {H : Type} : DataW H → Nat
  | .lit (.string bytes) => bytes.length + 1
  | .lit _ => 1
  | .nil => 1
  | .ptr d => uptoBulk d + 1
  | .slice elems spare => uptoBulkAll elems + uptoBulkAll spare + 1
  | .agg parts => uptoBulkAll parts + 1
  | .iface _ d => uptoBulk d + 1
  | .map entries => uptoBulkEntries entries + 1
  | .held _ => 1
def uptoBulkAll {H : Type} : List (DataW H) → Nat
  | [] => 0
  | d :: r => uptoBulk d + uptoBulkAll r
def uptoBulkEntries {H : Type} : List (Lit × DataW H) → Nat
  | [] => 0
  | x :: r => uptoBulkEntry x + uptoBulkEntries r
def uptoBulkEntry {H : Type} : Lit × DataW H → Nat
  | (.string bytes, d) => bytes.length + uptoBulk d + 1
  | (_, d) => uptoBulk d + 1
 end
def uptoSmall : (H : Type) → List (DataW H) → Bool := fun _ ds => decide (uptoBulkAll ds ≤ 1048576)
def OpenSpec.upto (s : _root_.Go.ChangeSpec) : _root_.Go.OpenSpec := { _root_.Go.OpenSpec.ofChange s with cond := some uptoSmall }

/-- 'gazetteerlaw38.AskRight', WHERE WHAT IT READS IS OF BULK AT MOST 1048576: true; the input reads as it did. -/
def askRightUptoRow : OpenClaim := { program := "ytnkkbbjljmbjbaa", sum := "2b4d75d846cb5edf8f3da1bedd5b70b6efdbeb82d618c723d340a0fddff01154", func := "gazetteer/gazetteerlaw38.AskRight", spec := "askRight", unfollowed := true, recurses := true, apart := false, narrowed := true }
def AskRightUptoSaid : Prop := askRightUptoRow.holds Try.pinned (OpenSpec.upto askRightSpec)

/-- 'gazetteerlaw38.AskLeast', WHERE WHAT IT READS IS OF BULK AT MOST 1048576: true; the input reads as it did. -/
def askLeastUptoRow : OpenClaim := { program := "ytnkkbbjljmbjbaa", sum := "2b4d75d846cb5edf8f3da1bedd5b70b6efdbeb82d618c723d340a0fddff01154", func := "gazetteer/gazetteerlaw38.AskLeast", spec := "askLeast", unfollowed := true, recurses := true, loops := true, apart := false, narrowed := true }
def AskLeastUptoSaid : Prop := askLeastUptoRow.holds Try.pinned (OpenSpec.upto askLeastSpec)

/-- 'gazetteerlaw38.AskTwice', WHERE WHAT IT READS IS OF BULK AT MOST 1048576: true; the input reads as it did. -/
def askTwiceUptoRow : OpenClaim := { program := "ytnkkbbjljmbjbaa", sum := "2b4d75d846cb5edf8f3da1bedd5b70b6efdbeb82d618c723d340a0fddff01154", func := "gazetteer/gazetteerlaw38.AskTwice", spec := "askTwice", unfollowed := true, recurses := true, apart := false, narrowed := true }
def AskTwiceUptoSaid : Prop := askTwiceUptoRow.holds Try.pinned (OpenSpec.upto askTwiceSpec)

/-- 'gazetteerlaw38.AskFewer', WHERE WHAT IT READS IS OF BULK AT MOST 1048576: true; the input reads as it did. -/
def askFewerUptoRow : OpenClaim := { program := "ytnkkbbjljmbjbaa", sum := "2b4d75d846cb5edf8f3da1bedd5b70b6efdbeb82d618c723d340a0fddff01154", func := "gazetteer/gazetteerlaw38.AskFewer", spec := "askFewer", unfollowed := true, recurses := true, apart := false, narrowed := true }
def AskFewerUptoSaid : Prop := askFewerUptoRow.holds Try.pinned (OpenSpec.upto askFewerSpec)

end Rows
end Go.Proofs.Ytnkkbbjljmbjbaa
