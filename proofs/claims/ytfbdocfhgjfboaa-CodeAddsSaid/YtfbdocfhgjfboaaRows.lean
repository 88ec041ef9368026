/-
  No cell of these rows narrows 'for every input' (looked for: loops, veiled, ifaces, maps, wideKeys, modest, calm, conditions, laid).
  DERIVED. THE GIVEN ROWS OF THIS SEAT. 12 by the template 'for every input the law returns true; each argument reads behind the call as it read before'; 0 by the template 'total and deterministic' (their statements: YtfbdocfhgjfboaaTotals.lean).
  GIVEN WITH THE SEED: the statements are not yours to turn. If you find one false, say at which input.
  Laid BY PROGRAM, IN A SANDBOX (cutbox-rows.mjs): the forced cells as the released guide's own fill.sh prints them over the translation f89ec9b705ccaf05… (all of the seat's roots in one cut). By AI agents, Wed Nov 11 2026. No macro, syntax, notation, axiom, sorry.
-/
import Derived.Test.YtfbdocfhgjfboaaChecked
import GoSem.Claim
import GoSem.ClaimJoined
import GoSem.ClaimMapViews
import Derived.JoinedTies
import Derived.KernelRfl
namespace Go.Proofs.Ytfbdocfhgjfboaa
/- THE CELL 'sum', in the pinned program and in every row, IS THE sha256 OF THE DUMP (.gsa) THAT YtfbdocfhgjfboaaProg.lean LOADS. Nothing in Lean hashes anything: it is a label: what it is worth is what the hold of that sum in a sandbox is worth. -/
noncomputable def Try.pinned : Pinned := { name := "ytfbdocfhgjfboaa", sum := "f89ec9b705ccaf05a32d0456ea9b6a94adbb583b433ec15020a0e18b0338f500", checked := Try.checked }
namespace Rows
def none {H : Type} : Left H := { results := [], args := [] }

/-- 'cheesepresslaw16.CodeStarts': WHATEVER THE INPUT: true; the input reads as it did. -/
def codeStartsSpec : ChangeSpec := { name := "codeStarts", fn := fun _ => fun
  | [d1, d2] => { results := [.lit (.bool true)], args := [d1, d2] }
  | _ => none }
def codeStartsRow : OpenClaim := { program := "ytfbdocfhgjfboaa", sum := "f89ec9b705ccaf05a32d0456ea9b6a94adbb583b433ec15020a0e18b0338f500", func := "cheesepress/cheesepresslaw16.CodeStarts", spec := "codeStarts", unfollowed := true, recurses := true, apart := false }
def CodeStartsSaid : Prop := codeStartsRow.holds Try.pinned (OpenSpec.ofChange codeStartsSpec)

/-- ITS FALSE NEIGHBOUR: 'it returns false'. Refute it at one input. -/
def codeStartsWrong : ChangeSpec := { name := "codeStarts", fn := fun _ => fun
  | [d1, d2] => { results := [.lit (.bool false)], args := [d1, d2] }
  | _ => none }
def CodeStartsWrongFalsely : Prop := codeStartsRow.holds Try.pinned (OpenSpec.ofChange codeStartsWrong)

/-- 'cheesepresslaw16.CodeCells': WHATEVER THE INPUT: true; the input reads as it did. -/
def codeCellsSpec : ChangeSpec := { name := "codeCells", fn := fun _ => fun
  | [d] => { results := [.lit (.bool true)], args := [d] }
  | _ => none }
def codeCellsRow : OpenClaim := { program := "ytfbdocfhgjfboaa", sum := "f89ec9b705ccaf05a32d0456ea9b6a94adbb583b433ec15020a0e18b0338f500", func := "cheesepress/cheesepresslaw16.CodeCells", spec := "codeCells", unfollowed := true, recurses := true, apart := false }
def CodeCellsSaid : Prop := codeCellsRow.holds Try.pinned (OpenSpec.ofChange codeCellsSpec)

/-- ITS FALSE NEIGHBOUR: 'it returns false'. Refute it at one input. -/
def codeCellsWrong : ChangeSpec := { name := "codeCells", fn := fun _ => fun
  | [d] => { results := [.lit (.bool false)], args := [d] }
  | _ => none }
def CodeCellsWrongFalsely : Prop := codeCellsRow.holds Try.pinned (OpenSpec.ofChange codeCellsWrong)

/-- 'cheesepresslaw16.CodeMakes': WHATEVER THE INPUT: true; the input reads as it did. -/
def codeMakesSpec : ChangeSpec := { name := "codeMakes", fn := fun _ => fun
  | [d1, d2] => { results := [.lit (.bool true)], args := [d1, d2] }
  | _ => none }
def codeMakesRow : OpenClaim := { program := "ytfbdocfhgjfboaa", sum := "f89ec9b705ccaf05a32d0456ea9b6a94adbb583b433ec15020a0e18b0338f500", func := "cheesepress/cheesepresslaw16.CodeMakes", spec := "codeMakes", unfollowed := true, recurses := true, apart := false }
def CodeMakesSaid : Prop := codeMakesRow.holds Try.pinned (OpenSpec.ofChange codeMakesSpec)

/-- ITS FALSE NEIGHBOUR: 'it returns false'. Refute it at one input. -/
def codeMakesWrong : ChangeSpec := { name := "codeMakes", fn := fun _ => fun
  | [d1, d2] => { results := [.lit (.bool false)], args := [d1, d2] }
  | _ => none }
def CodeMakesWrongFalsely : Prop := codeMakesRow.holds Try.pinned (OpenSpec.ofChange codeMakesWrong)

/-- 'cheesepresslaw16.CodeCounts': WHATEVER THE INPUT: true; the input reads as it did. -/
def codeCountsSpec : ChangeSpec := { name := "codeCounts", fn := fun _ => fun
  | [d1, d2] => { results := [.lit (.bool true)], args := [d1, d2] }
  | _ => none }
def codeCountsRow : OpenClaim := { program := "ytfbdocfhgjfboaa", sum := "f89ec9b705ccaf05a32d0456ea9b6a94adbb583b433ec15020a0e18b0338f500", func := "cheesepress/cheesepresslaw16.CodeCounts", spec := "codeCounts", unfollowed := true, recurses := true, apart := false }
def CodeCountsSaid : Prop := codeCountsRow.holds Try.pinned (OpenSpec.ofChange codeCountsSpec)

/-- ITS FALSE NEIGHBOUR: 'it returns false'. Refute it at one input. -/
def codeCountsWrong : ChangeSpec := { name := "codeCounts", fn := fun _ => fun
  | [d1, d2] => { results := [.lit (.bool false)], args := [d1, d2] }
  | _ => none }
def CodeCountsWrongFalsely : Prop := codeCountsRow.holds Try.pinned (OpenSpec.ofChange codeCountsWrong)

/-- 'cheesepresslaw16.CodeAdds': WHATEVER THE INPUT: true; the input reads as it did. -/
def codeAddsSpec : ChangeSpec := { name := "codeAdds", fn := fun _ => fun
  | [d1, d2, d3] => { results := [.lit (.bool true)], args := [d1, d2, d3] }
  | _ => none }
def codeAddsRow : OpenClaim := { program := "ytfbdocfhgjfboaa", sum := "f89ec9b705ccaf05a32d0456ea9b6a94adbb583b433ec15020a0e18b0338f500", func := "cheesepress/cheesepresslaw16.CodeAdds", spec := "codeAdds", unfollowed := true, recurses := true, apart := false }
def CodeAddsSaid : Prop := codeAddsRow.holds Try.pinned (OpenSpec.ofChange codeAddsSpec)

/-- ITS FALSE NEIGHBOUR: 'it returns false'. Refute it at one input. -/
def codeAddsWrong : ChangeSpec := { name := "codeAdds", fn := fun _ => fun
  | [d1, d2, d3] => { results := [.lit (.bool false)], args := [d1, d2, d3] }
  | _ => none }
def CodeAddsWrongFalsely : Prop := codeAddsRow.holds Try.pinned (OpenSpec.ofChange codeAddsWrong)

/-- 'cheesepresslaw11.EncodeMakes': WHATEVER THE INPUT: true; the input reads as it did. -/
def encodeMakesSpec : ChangeSpec := { name := "encodeMakes", fn := fun _ => fun
  | [d1, d2] => { results := [.lit (.bool true)], args := [d1, d2] }
  | _ => none }
def encodeMakesRow : OpenClaim := { program := "ytfbdocfhgjfboaa", sum := "f89ec9b705ccaf05a32d0456ea9b6a94adbb583b433ec15020a0e18b0338f500", func := "cheesepress/cheesepresslaw11.EncodeMakes", spec := "encodeMakes", unfollowed := true, recurses := true, apart := false }
def EncodeMakesSaid : Prop := encodeMakesRow.holds Try.pinned (OpenSpec.ofChange encodeMakesSpec)

/-- ITS FALSE NEIGHBOUR: 'it returns false'. Refute it at one input. -/
def encodeMakesWrong : ChangeSpec := { name := "encodeMakes", fn := fun _ => fun
  | [d1, d2] => { results := [.lit (.bool false)], args := [d1, d2] }
  | _ => none }
def EncodeMakesWrongFalsely : Prop := encodeMakesRow.holds Try.pinned (OpenSpec.ofChange encodeMakesWrong)

/-- 'cheesepresslaw16.CodeKnown': WHATEVER THE INPUT: true; the input reads as it did. -/
def codeKnownSpec : ChangeSpec := { name := "codeKnown", fn := fun _ => fun
  | [] => { results := [.lit (.bool true)], args := [] }
  | _ => none }
def codeKnownRow : OpenClaim := { program := "ytfbdocfhgjfboaa", sum := "f89ec9b705ccaf05a32d0456ea9b6a94adbb583b433ec15020a0e18b0338f500", func := "cheesepress/cheesepresslaw16.CodeKnown", spec := "codeKnown", unfollowed := true, recurses := true, apart := false }
def CodeKnownSaid : Prop := codeKnownRow.holds Try.pinned (OpenSpec.ofChange codeKnownSpec)

/-- ITS FALSE NEIGHBOUR: 'it returns false'. Refute it at one input. -/
def codeKnownWrong : ChangeSpec := { name := "codeKnown", fn := fun _ => fun
  | [] => { results := [.lit (.bool false)], args := [] }
  | _ => none }
def CodeKnownWrongFalsely : Prop := codeKnownRow.holds Try.pinned (OpenSpec.ofChange codeKnownWrong)

/-- 'cheesepresslaw11.EncodeKnown': WHATEVER THE INPUT: true; the input reads as it did. -/
def encodeKnownSpec : ChangeSpec := { name := "encodeKnown", fn := fun _ => fun
  | [] => { results := [.lit (.bool true)], args := [] }
  | _ => none }
def encodeKnownRow : OpenClaim := { program := "ytfbdocfhgjfboaa", sum := "f89ec9b705ccaf05a32d0456ea9b6a94adbb583b433ec15020a0e18b0338f500", func := "cheesepress/cheesepresslaw11.EncodeKnown", spec := "encodeKnown", unfollowed := true, recurses := true, apart := false }
def EncodeKnownSaid : Prop := encodeKnownRow.holds Try.pinned (OpenSpec.ofChange encodeKnownSpec)

/-- ITS FALSE NEIGHBOUR: 'it returns false'. Refute it at one input. -/
def encodeKnownWrong : ChangeSpec := { name := "encodeKnown", fn := fun _ => fun
  | [] => { results := [.lit (.bool false)], args := [] }
  | _ => none }
def EncodeKnownWrongFalsely : Prop := encodeKnownRow.holds Try.pinned (OpenSpec.ofChange encodeKnownWrong)

/-- 'cheesepresslaw11.EncodeSteps': WHATEVER THE INPUT: true; the input reads as it did. -/
def encodeStepsSpec : ChangeSpec := { name := "encodeSteps", fn := fun _ => fun
  | [d1, d2, d3, d4] => { results := [.lit (.bool true)], args := [d1, d2, d3, d4] }
  | _ => none }
def encodeStepsRow : OpenClaim := { program := "ytfbdocfhgjfboaa", sum := "f89ec9b705ccaf05a32d0456ea9b6a94adbb583b433ec15020a0e18b0338f500", func := "cheesepress/cheesepresslaw11.EncodeSteps", spec := "encodeSteps", unfollowed := true, recurses := true, apart := false }
def EncodeStepsSaid : Prop := encodeStepsRow.holds Try.pinned (OpenSpec.ofChange encodeStepsSpec)

/-- ITS FALSE NEIGHBOUR: 'it returns false'. Refute it at one input. -/
def encodeStepsWrong : ChangeSpec := { name := "encodeSteps", fn := fun _ => fun
  | [d1, d2, d3, d4] => { results := [.lit (.bool false)], args := [d1, d2, d3, d4] }
  | _ => none }
def EncodeStepsWrongFalsely : Prop := encodeStepsRow.holds Try.pinned (OpenSpec.ofChange encodeStepsWrong)

/-- 'cheesepresslaw11.EncodeDecodes': WHATEVER THE INPUT: true; the input reads as it did. -/
def encodeDecodesSpec : ChangeSpec := { name := "encodeDecodes", fn := fun _ => fun
  | [d1, d2, d3, d4] => { results := [.lit (.bool true)], args := [d1, d2, d3, d4] }
  | _ => none }
def encodeDecodesRow : OpenClaim := { program := "ytfbdocfhgjfboaa", sum := "f89ec9b705ccaf05a32d0456ea9b6a94adbb583b433ec15020a0e18b0338f500", func := "cheesepress/cheesepresslaw11.EncodeDecodes", spec := "encodeDecodes", unfollowed := true, recurses := true, apart := false }
def EncodeDecodesSaid : Prop := encodeDecodesRow.holds Try.pinned (OpenSpec.ofChange encodeDecodesSpec)

/-- ITS FALSE NEIGHBOUR: 'it returns false'. Refute it at one input. -/
def encodeDecodesWrong : ChangeSpec := { name := "encodeDecodes", fn := fun _ => fun
  | [d1, d2, d3, d4] => { results := [.lit (.bool false)], args := [d1, d2, d3, d4] }
  | _ => none }
def EncodeDecodesWrongFalsely : Prop := encodeDecodesRow.holds Try.pinned (OpenSpec.ofChange encodeDecodesWrong)

/-- 'cheesepresslaw11.EncodeFirsts': WHATEVER THE INPUT: true; the input reads as it did. -/
def encodeFirstsSpec : ChangeSpec := { name := "encodeFirsts", fn := fun _ => fun
  | [d1, d2] => { results := [.lit (.bool true)], args := [d1, d2] }
  | _ => none }
def encodeFirstsRow : OpenClaim := { program := "ytfbdocfhgjfboaa", sum := "f89ec9b705ccaf05a32d0456ea9b6a94adbb583b433ec15020a0e18b0338f500", func := "cheesepress/cheesepresslaw11.EncodeFirsts", spec := "encodeFirsts", unfollowed := true, recurses := true, apart := false }
def EncodeFirstsSaid : Prop := encodeFirstsRow.holds Try.pinned (OpenSpec.ofChange encodeFirstsSpec)

/-- ITS FALSE NEIGHBOUR: 'it returns false'. Refute it at one input. -/
def encodeFirstsWrong : ChangeSpec := { name := "encodeFirsts", fn := fun _ => fun
  | [d1, d2] => { results := [.lit (.bool false)], args := [d1, d2] }
  | _ => none }
def EncodeFirstsWrongFalsely : Prop := encodeFirstsRow.holds Try.pinned (OpenSpec.ofChange encodeFirstsWrong)

/-- 'cheesepresslaw11.EncodeRuns': WHATEVER THE INPUT: true; the input reads as it did. -/
def encodeRunsSpec : ChangeSpec := { name := "encodeRuns", fn := fun _ => fun
  | [d1, d2, d3] => { results := [.lit (.bool true)], args := [d1, d2, d3] }
  | _ => none }
def encodeRunsRow : OpenClaim := { program := "ytfbdocfhgjfboaa", sum := "f89ec9b705ccaf05a32d0456ea9b6a94adbb583b433ec15020a0e18b0338f500", func := "cheesepress/cheesepresslaw11.EncodeRuns", spec := "encodeRuns", unfollowed := true, recurses := true, apart := false }
def EncodeRunsSaid : Prop := encodeRunsRow.holds Try.pinned (OpenSpec.ofChange encodeRunsSpec)

/-- ITS FALSE NEIGHBOUR: 'it returns false'. Refute it at one input. -/
def encodeRunsWrong : ChangeSpec := { name := "encodeRuns", fn := fun _ => fun
  | [d1, d2, d3] => { results := [.lit (.bool false)], args := [d1, d2, d3] }
  | _ => none }
def EncodeRunsWrongFalsely : Prop := encodeRunsRow.holds Try.pinned (OpenSpec.ofChange encodeRunsWrong)

/- THE SECOND FORM. 'bulk': how many values and letters a reading holds, each counted each time it is reached (what is shared counts as often as it is met; a slice's spare places count too). A statement '..UptoSaid' is the law's where the arguments, and the package variables that the reading takes, are together of bulk at most 1048576: NARROWER than '..Said'. Prove '..Said' where nothing that the law and all that it calls make is longer than what came in: it says more and counts as full. Else prove '..UptoSaid'. A law counts once. -/
mutual
def uptoBulk {H : Type} : DataW H → Nat
  | .lit (.string bytes) => bytes.length + 1
  | .lit _ => 1
  | .nil => 1
  | .ptr d => uptoBulk d + 1
  | .slice elems spare => uptoBulkAll elems + uptoBulkAll spare + 1
  | .agg parts => uptoBulkAll parts + 1
  | .iface _ d => uptoBulk d + 1
  | .map entries => uptoBulkEntries entries + 1
  | .held _ => 1
def uptoBulkAll {H : Type} : List (DataW H) → Nat
  | [] => 0
  | d :: r => uptoBulk d + uptoBulkAll r
def uptoBulkEntries {H : Type} : List (Lit × DataW H) → Nat
  | [] => 0
  | x :: r => uptoBulkEntry x + uptoBulkEntries r
def uptoBulkEntry {H : Type} : Lit × DataW H → Nat
  | (.string bytes, d) => bytes.length + uptoBulk d + 1
  | (_, d) => uptoBulk d + 1
 end
def uptoSmall : (H : Type) → List (DataW H) → Bool := fun _ ds => decide (uptoBulkAll ds ≤ 1048576)
def OpenSpec.upto (s : _root_.Go.ChangeSpec) : _root_.Go.OpenSpec := { _root_.Go.OpenSpec.ofChange s with cond := some uptoSmall }

/-- 'cheesepresslaw16.CodeStarts', WHERE WHAT IT READS IS OF BULK AT MOST 1048576: true; the input reads as it did. -/
def codeStartsUptoRow : OpenClaim := { program := "ytfbdocfhgjfboaa", sum := "f89ec9b705ccaf05a32d0456ea9b6a94adbb583b433ec15020a0e18b0338f500", func := "cheesepress/cheesepresslaw16.CodeStarts", spec := "codeStarts", unfollowed := true, recurses := true, apart := false, narrowed := true }
def CodeStartsUptoSaid : Prop := codeStartsUptoRow.holds Try.pinned (OpenSpec.upto codeStartsSpec)

/-- 'cheesepresslaw16.CodeCells', WHERE WHAT IT READS IS OF BULK AT MOST 1048576: true; the input reads as it did. -/
def codeCellsUptoRow : OpenClaim := { program := "ytfbdocfhgjfboaa", sum := "f89ec9b705ccaf05a32d0456ea9b6a94adbb583b433ec15020a0e18b0338f500", func := "cheesepress/cheesepresslaw16.CodeCells", spec := "codeCells", unfollowed := true, recurses := true, apart := false, narrowed := true }
def CodeCellsUptoSaid : Prop := codeCellsUptoRow.holds Try.pinned (OpenSpec.upto codeCellsSpec)

/-- 'cheesepresslaw16.CodeMakes', WHERE WHAT IT READS IS OF BULK AT MOST 1048576: true; the input reads as it did. -/
def codeMakesUptoRow : OpenClaim := { program := "ytfbdocfhgjfboaa", sum := "f89ec9b705ccaf05a32d0456ea9b6a94adbb583b433ec15020a0e18b0338f500", func := "cheesepress/cheesepresslaw16.CodeMakes", spec := "codeMakes", unfollowed := true, recurses := true, apart := false, narrowed := true }
def CodeMakesUptoSaid : Prop := codeMakesUptoRow.holds Try.pinned (OpenSpec.upto codeMakesSpec)

/-- 'cheesepresslaw16.CodeCounts', WHERE WHAT IT READS IS OF BULK AT MOST 1048576: true; the input reads as it did. -/
def codeCountsUptoRow : OpenClaim := { program := "ytfbdocfhgjfboaa", sum := "f89ec9b705ccaf05a32d0456ea9b6a94adbb583b433ec15020a0e18b0338f500", func := "cheesepress/cheesepresslaw16.CodeCounts", spec := "codeCounts", unfollowed := true, recurses := true, apart := false, narrowed := true }
def CodeCountsUptoSaid : Prop := codeCountsUptoRow.holds Try.pinned (OpenSpec.upto codeCountsSpec)

/-- 'cheesepresslaw16.CodeAdds', WHERE WHAT IT READS IS OF BULK AT MOST 1048576: true; the input reads as it did. -/
def codeAddsUptoRow : OpenClaim := { program := "ytfbdocfhgjfboaa", sum := "f89ec9b705ccaf05a32d0456ea9b6a94adbb583b433ec15020a0e18b0338f500", func := "cheesepress/cheesepresslaw16.CodeAdds", spec := "codeAdds", unfollowed := true, recurses := true, apart := false, narrowed := true }
def CodeAddsUptoSaid : Prop := codeAddsUptoRow.holds Try.pinned (OpenSpec.upto codeAddsSpec)

/-- 'cheesepresslaw11.EncodeMakes', WHERE WHAT IT READS IS OF BULK AT MOST 1048576: true; the input reads as it did. -/
def encodeMakesUptoRow : OpenClaim := { program := "ytfbdocfhgjfboaa", sum := "f89ec9b705ccaf05a32d0456ea9b6a94adbb583b433ec15020a0e18b0338f500", func := "cheesepress/cheesepresslaw11.EncodeMakes", spec := "encodeMakes", unfollowed := true, recurses := true, apart := false, narrowed := true }
def EncodeMakesUptoSaid : Prop := encodeMakesUptoRow.holds Try.pinned (OpenSpec.upto encodeMakesSpec)

/-- 'cheesepresslaw16.CodeKnown', WHERE WHAT IT READS IS OF BULK AT MOST 1048576: true; the input reads as it did. -/
def codeKnownUptoRow : OpenClaim := { program := "ytfbdocfhgjfboaa", sum := "f89ec9b705ccaf05a32d0456ea9b6a94adbb583b433ec15020a0e18b0338f500", func := "cheesepress/cheesepresslaw16.CodeKnown", spec := "codeKnown", unfollowed := true, recurses := true, apart := false, narrowed := true }
def CodeKnownUptoSaid : Prop := codeKnownUptoRow.holds Try.pinned (OpenSpec.upto codeKnownSpec)

/-- 'cheesepresslaw11.EncodeKnown', WHERE WHAT IT READS IS OF BULK AT MOST 1048576: true; the input reads as it did. -/
def encodeKnownUptoRow : OpenClaim := { program := "ytfbdocfhgjfboaa", sum := "f89ec9b705ccaf05a32d0456ea9b6a94adbb583b433ec15020a0e18b0338f500", func := "cheesepress/cheesepresslaw11.EncodeKnown", spec := "encodeKnown", unfollowed := true, recurses := true, apart := false, narrowed := true }
def EncodeKnownUptoSaid : Prop := encodeKnownUptoRow.holds Try.pinned (OpenSpec.upto encodeKnownSpec)

/-- 'cheesepresslaw11.EncodeSteps', WHERE WHAT IT READS IS OF BULK AT MOST 1048576: true; the input reads as it did. -/
def encodeStepsUptoRow : OpenClaim := { program := "ytfbdocfhgjfboaa", sum := "f89ec9b705ccaf05a32d0456ea9b6a94adbb583b433ec15020a0e18b0338f500", func := "cheesepress/cheesepresslaw11.EncodeSteps", spec := "encodeSteps", unfollowed := true, recurses := true, apart := false, narrowed := true }
def EncodeStepsUptoSaid : Prop := encodeStepsUptoRow.holds Try.pinned (OpenSpec.upto encodeStepsSpec)

/-- 'cheesepresslaw11.EncodeDecodes', WHERE WHAT IT READS IS OF BULK AT MOST 1048576: true; the input reads as it did. -/
def encodeDecodesUptoRow : OpenClaim := { program := "ytfbdocfhgjfboaa", sum := "f89ec9b705ccaf05a32d0456ea9b6a94adbb583b433ec15020a0e18b0338f500", func := "cheesepress/cheesepresslaw11.EncodeDecodes", spec := "encodeDecodes", unfollowed := true, recurses := true, apart := false, narrowed := true }
def EncodeDecodesUptoSaid : Prop := encodeDecodesUptoRow.holds Try.pinned (OpenSpec.upto encodeDecodesSpec)

/-- 'cheesepresslaw11.EncodeFirsts', WHERE WHAT IT READS IS OF BULK AT MOST 1048576: true; the input reads as it did. -/
def encodeFirstsUptoRow : OpenClaim := { program := "ytfbdocfhgjfboaa", sum := "f89ec9b705ccaf05a32d0456ea9b6a94adbb583b433ec15020a0e18b0338f500", func := "cheesepress/cheesepresslaw11.EncodeFirsts", spec := "encodeFirsts", unfollowed := true, recurses := true, apart := false, narrowed := true }
def EncodeFirstsUptoSaid : Prop := encodeFirstsUptoRow.holds Try.pinned (OpenSpec.upto encodeFirstsSpec)

/-- 'cheesepresslaw11.EncodeRuns', WHERE WHAT IT READS IS OF BULK AT MOST 1048576: true; the input reads as it did. -/
def encodeRunsUptoRow : OpenClaim := { program := "ytfbdocfhgjfboaa", sum := "f89ec9b705ccaf05a32d0456ea9b6a94adbb583b433ec15020a0e18b0338f500", func := "cheesepress/cheesepresslaw11.EncodeRuns", spec := "encodeRuns", unfollowed := true, recurses := true, apart := false, narrowed := true }
def EncodeRunsUptoSaid : Prop := encodeRunsUptoRow.holds Try.pinned (OpenSpec.upto encodeRunsSpec)

end Rows
end Go.Proofs.Ytfbdocfhgjfboaa
