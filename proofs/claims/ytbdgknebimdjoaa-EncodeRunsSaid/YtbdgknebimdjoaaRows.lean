/-
  No cell of these rows narrows 'for every input' (looked for: loops, veiled, ifaces, maps, wideKeys, modest, calm, conditions, laid).
  DERIVED. THE GIVEN ROWS OF THIS SEAT. 12 by the template 'for every input the law returns true; each argument reads behind the call as it read before'; 0 by the template 'total and deterministic' (their statements: YtbdgknebimdjoaaTotals.lean).
  GIVEN WITH THE SEED: the statements are not yours to turn. If you find one false, say at which input.
  Laid BY PROGRAM, IN A SANDBOX (cutbox-rows.mjs): the forced cells as the released guide's own fill.sh prints them over the translation 5d52f291f60bd36b… (all of the seat's roots in one cut). By AI agents, Wed Nov 11 2026. No macro, syntax, notation, axiom, sorry.
-/
import Derived.Test.YtbdgknebimdjoaaChecked
import GoSem.Claim
import GoSem.ClaimJoined
import GoSem.ClaimMapViews
import Derived.JoinedTies
import Derived.KernelRfl
namespace Go.Proofs.Ytbdgknebimdjoaa
/- THE CELL 'sum', in the pinned program and in every row, IS THE sha256 OF THE DUMP (.gsa) THAT YtbdgknebimdjoaaProg.lean LOADS. Nothing in Lean hashes anything: it is a label: what it is worth is what the hold of that sum in a sandbox is worth. -/
noncomputable def Try.pinned : Pinned := { name := "ytbdgknebimdjoaa", sum := "5d52f291f60bd36b6805fcf97813273ebeed94cb24b07ce08212883c6f7d7778", checked := Try.checked }
namespace Rows
def none {H : Type} : Left H := { results := [], args := [] }

/-- 'cheesepresslaw11.EncodeMakes': WHATEVER THE INPUT: true; the input reads as it did. -/
def encodeMakesSpec : ChangeSpec := { name := "encodeMakes", fn := fun _ => fun
  | [d1, d2] => { results := [.lit (.bool true)], args := [d1, d2] }
  | _ => none }
def encodeMakesRow : OpenClaim := { program := "ytbdgknebimdjoaa", sum := "5d52f291f60bd36b6805fcf97813273ebeed94cb24b07ce08212883c6f7d7778", func := "cheesepress/cheesepresslaw11.EncodeMakes", spec := "encodeMakes", unfollowed := true, recurses := true, apart := false }
def EncodeMakesSaid : Prop := encodeMakesRow.holds Try.pinned (OpenSpec.ofChange encodeMakesSpec)

/-- ITS FALSE NEIGHBOUR: 'it returns false'. Refute it at one input. -/
def encodeMakesWrong : ChangeSpec := { name := "encodeMakes", fn := fun _ => fun
  | [d1, d2] => { results := [.lit (.bool false)], args := [d1, d2] }
  | _ => none }
def EncodeMakesWrongFalsely : Prop := encodeMakesRow.holds Try.pinned (OpenSpec.ofChange encodeMakesWrong)

/-- 'cheesepresslaw11.EncodeKnown': WHATEVER THE INPUT: true; the input reads as it did. -/
def encodeKnownSpec : ChangeSpec := { name := "encodeKnown", fn := fun _ => fun
  | [] => { results := [.lit (.bool true)], args := [] }
  | _ => none }
def encodeKnownRow : OpenClaim := { program := "ytbdgknebimdjoaa", sum := "5d52f291f60bd36b6805fcf97813273ebeed94cb24b07ce08212883c6f7d7778", func := "cheesepress/cheesepresslaw11.EncodeKnown", spec := "encodeKnown", unfollowed := true, recurses := true, apart := false }
def EncodeKnownSaid : Prop := encodeKnownRow.holds Try.pinned (OpenSpec.ofChange encodeKnownSpec)

/-- ITS FALSE NEIGHBOUR: 'it returns false'. Refute it at one input. -/
def encodeKnownWrong : ChangeSpec := { name := "encodeKnown", fn := fun _ => fun
  | [] => { results := [.lit (.bool false)], args := [] }
  | _ => none }
def EncodeKnownWrongFalsely : Prop := encodeKnownRow.holds Try.pinned (OpenSpec.ofChange encodeKnownWrong)

/-- 'cheesepresslaw11.EncodeSteps': WHATEVER THE INPUT: true; the input reads as it did. -/
def encodeStepsSpec : ChangeSpec := { name := "encodeSteps", fn := fun _ => fun
  | [d1, d2, d3, d4] => { results := [.lit (.bool true)], args := [d1, d2, d3, d4] }
  | _ => none }
def encodeStepsRow : OpenClaim := { program := "ytbdgknebimdjoaa", sum := "5d52f291f60bd36b6805fcf97813273ebeed94cb24b07ce08212883c6f7d7778", func := "cheesepress/cheesepresslaw11.EncodeSteps", spec := "encodeSteps", unfollowed := true, recurses := true, apart := false }
def EncodeStepsSaid : Prop := encodeStepsRow.holds Try.pinned (OpenSpec.ofChange encodeStepsSpec)

/-- ITS FALSE NEIGHBOUR: 'it returns false'. Refute it at one input. -/
def encodeStepsWrong : ChangeSpec := { name := "encodeSteps", fn := fun _ => fun
  | [d1, d2, d3, d4] => { results := [.lit (.bool false)], args := [d1, d2, d3, d4] }
  | _ => none }
def EncodeStepsWrongFalsely : Prop := encodeStepsRow.holds Try.pinned (OpenSpec.ofChange encodeStepsWrong)

/-- 'cheesepresslaw12.FseCosts': WHATEVER THE INPUT: true; the input reads as it did. -/
def fseCostsSpec : ChangeSpec := { name := "fseCosts", fn := fun _ => fun
  | [d1, d2] => { results := [.lit (.bool true)], args := [d1, d2] }
  | _ => none }
def fseCostsRow : OpenClaim := { program := "ytbdgknebimdjoaa", sum := "5d52f291f60bd36b6805fcf97813273ebeed94cb24b07ce08212883c6f7d7778", func := "cheesepress/cheesepresslaw12.FseCosts", spec := "fseCosts", unfollowed := true, recurses := true, apart := false }
def FseCostsSaid : Prop := fseCostsRow.holds Try.pinned (OpenSpec.ofChange fseCostsSpec)

/-- ITS FALSE NEIGHBOUR: 'it returns false'. Refute it at one input. -/
def fseCostsWrong : ChangeSpec := { name := "fseCosts", fn := fun _ => fun
  | [d1, d2] => { results := [.lit (.bool false)], args := [d1, d2] }
  | _ => none }
def FseCostsWrongFalsely : Prop := fseCostsRow.holds Try.pinned (OpenSpec.ofChange fseCostsWrong)

/-- 'cheesepresslaw12.FseWrites': WHATEVER THE INPUT: true; the input reads as it did. -/
def fseWritesSpec : ChangeSpec := { name := "fseWrites", fn := fun _ => fun
  | [d1, d2] => { results := [.lit (.bool true)], args := [d1, d2] }
  | _ => none }
def fseWritesRow : OpenClaim := { program := "ytbdgknebimdjoaa", sum := "5d52f291f60bd36b6805fcf97813273ebeed94cb24b07ce08212883c6f7d7778", func := "cheesepress/cheesepresslaw12.FseWrites", spec := "fseWrites", unfollowed := true, recurses := true, apart := false }
def FseWritesSaid : Prop := fseWritesRow.holds Try.pinned (OpenSpec.ofChange fseWritesSpec)

/-- ITS FALSE NEIGHBOUR: 'it returns false'. Refute it at one input. -/
def fseWritesWrong : ChangeSpec := { name := "fseWrites", fn := fun _ => fun
  | [d1, d2] => { results := [.lit (.bool false)], args := [d1, d2] }
  | _ => none }
def FseWritesWrongFalsely : Prop := fseWritesRow.holds Try.pinned (OpenSpec.ofChange fseWritesWrong)

/-- 'cheesepresslaw11.EncodeDecodes': WHATEVER THE INPUT: true; the input reads as it did. -/
def encodeDecodesSpec : ChangeSpec := { name := "encodeDecodes", fn := fun _ => fun
  | [d1, d2, d3, d4] => { results := [.lit (.bool true)], args := [d1, d2, d3, d4] }
  | _ => none }
def encodeDecodesRow : OpenClaim := { program := "ytbdgknebimdjoaa", sum := "5d52f291f60bd36b6805fcf97813273ebeed94cb24b07ce08212883c6f7d7778", func := "cheesepress/cheesepresslaw11.EncodeDecodes", spec := "encodeDecodes", unfollowed := true, recurses := true, apart := false }
def EncodeDecodesSaid : Prop := encodeDecodesRow.holds Try.pinned (OpenSpec.ofChange encodeDecodesSpec)

/-- ITS FALSE NEIGHBOUR: 'it returns false'. Refute it at one input. -/
def encodeDecodesWrong : ChangeSpec := { name := "encodeDecodes", fn := fun _ => fun
  | [d1, d2, d3, d4] => { results := [.lit (.bool false)], args := [d1, d2, d3, d4] }
  | _ => none }
def EncodeDecodesWrongFalsely : Prop := encodeDecodesRow.holds Try.pinned (OpenSpec.ofChange encodeDecodesWrong)

/-- 'cheesepresslaw11.EncodeFirsts': WHATEVER THE INPUT: true; the input reads as it did. -/
def encodeFirstsSpec : ChangeSpec := { name := "encodeFirsts", fn := fun _ => fun
  | [d1, d2] => { results := [.lit (.bool true)], args := [d1, d2] }
  | _ => none }
def encodeFirstsRow : OpenClaim := { program := "ytbdgknebimdjoaa", sum := "5d52f291f60bd36b6805fcf97813273ebeed94cb24b07ce08212883c6f7d7778", func := "cheesepress/cheesepresslaw11.EncodeFirsts", spec := "encodeFirsts", unfollowed := true, recurses := true, apart := false }
def EncodeFirstsSaid : Prop := encodeFirstsRow.holds Try.pinned (OpenSpec.ofChange encodeFirstsSpec)

/-- ITS FALSE NEIGHBOUR: 'it returns false'. Refute it at one input. -/
def encodeFirstsWrong : ChangeSpec := { name := "encodeFirsts", fn := fun _ => fun
  | [d1, d2] => { results := [.lit (.bool false)], args := [d1, d2] }
  | _ => none }
def EncodeFirstsWrongFalsely : Prop := encodeFirstsRow.holds Try.pinned (OpenSpec.ofChange encodeFirstsWrong)

/-- 'cheesepresslaw11.EncodeRuns': WHATEVER THE INPUT: true; the input reads as it did. -/
def encodeRunsSpec : ChangeSpec := { name := "encodeRuns", fn := fun _ => fun
  | [d1, d2, d3] => { results := [.lit (.bool true)], args := [d1, d2, d3] }
  | _ => none }
def encodeRunsRow : OpenClaim := { program := "ytbdgknebimdjoaa", sum := "5d52f291f60bd36b6805fcf97813273ebeed94cb24b07ce08212883c6f7d7778", func := "cheesepress/cheesepresslaw11.EncodeRuns", spec := "encodeRuns", unfollowed := true, recurses := true, apart := false }
def EncodeRunsSaid : Prop := encodeRunsRow.holds Try.pinned (OpenSpec.ofChange encodeRunsSpec)

/-- ITS FALSE NEIGHBOUR: 'it returns false'. Refute it at one input. -/
def encodeRunsWrong : ChangeSpec := { name := "encodeRuns", fn := fun _ => fun
  | [d1, d2, d3] => { results := [.lit (.bool false)], args := [d1, d2, d3] }
  | _ => none }
def EncodeRunsWrongFalsely : Prop := encodeRunsRow.holds Try.pinned (OpenSpec.ofChange encodeRunsWrong)

/-- 'cheesepresslaw12.FseApart': WHATEVER THE INPUT: true; the input reads as it did. -/
def fseApartSpec : ChangeSpec := { name := "fseApart", fn := fun _ => fun
  | [d1, d2, d3, d4] => { results := [.lit (.bool true)], args := [d1, d2, d3, d4] }
  | _ => none }
def fseApartRow : OpenClaim := { program := "ytbdgknebimdjoaa", sum := "5d52f291f60bd36b6805fcf97813273ebeed94cb24b07ce08212883c6f7d7778", func := "cheesepress/cheesepresslaw12.FseApart", spec := "fseApart", unfollowed := true, recurses := true, apart := false }
def FseApartSaid : Prop := fseApartRow.holds Try.pinned (OpenSpec.ofChange fseApartSpec)

/-- ITS FALSE NEIGHBOUR: 'it returns false'. Refute it at one input. -/
def fseApartWrong : ChangeSpec := { name := "fseApart", fn := fun _ => fun
  | [d1, d2, d3, d4] => { results := [.lit (.bool false)], args := [d1, d2, d3, d4] }
  | _ => none }
def FseApartWrongFalsely : Prop := fseApartRow.holds Try.pinned (OpenSpec.ofChange fseApartWrong)

/-- 'cheesepresslaw12.FseReads': WHATEVER THE INPUT: true; the input reads as it did. -/
def fseReadsSpec : ChangeSpec := { name := "fseReads", fn := fun _ => fun
  | [d1, d2, d3] => { results := [.lit (.bool true)], args := [d1, d2, d3] }
  | _ => none }
def fseReadsRow : OpenClaim := { program := "ytbdgknebimdjoaa", sum := "5d52f291f60bd36b6805fcf97813273ebeed94cb24b07ce08212883c6f7d7778", func := "cheesepress/cheesepresslaw12.FseReads", spec := "fseReads", unfollowed := true, recurses := true, apart := false }
def FseReadsSaid : Prop := fseReadsRow.holds Try.pinned (OpenSpec.ofChange fseReadsSpec)

/-- ITS FALSE NEIGHBOUR: 'it returns false'. Refute it at one input. -/
def fseReadsWrong : ChangeSpec := { name := "fseReads", fn := fun _ => fun
  | [d1, d2, d3] => { results := [.lit (.bool false)], args := [d1, d2, d3] }
  | _ => none }
def FseReadsWrongFalsely : Prop := fseReadsRow.holds Try.pinned (OpenSpec.ofChange fseReadsWrong)

/-- 'cheesepresslaw12.FseBack': WHATEVER THE INPUT: true; the input reads as it did. -/
def fseBackSpec : ChangeSpec := { name := "fseBack", fn := fun _ => fun
  | [d1, d2] => { results := [.lit (.bool true)], args := [d1, d2] }
  | _ => none }
def fseBackRow : OpenClaim := { program := "ytbdgknebimdjoaa", sum := "5d52f291f60bd36b6805fcf97813273ebeed94cb24b07ce08212883c6f7d7778", func := "cheesepress/cheesepresslaw12.FseBack", spec := "fseBack", unfollowed := true, recurses := true, apart := false }
def FseBackSaid : Prop := fseBackRow.holds Try.pinned (OpenSpec.ofChange fseBackSpec)

/-- ITS FALSE NEIGHBOUR: 'it returns false'. Refute it at one input. -/
def fseBackWrong : ChangeSpec := { name := "fseBack", fn := fun _ => fun
  | [d1, d2] => { results := [.lit (.bool false)], args := [d1, d2] }
  | _ => none }
def FseBackWrongFalsely : Prop := fseBackRow.holds Try.pinned (OpenSpec.ofChange fseBackWrong)

/-- 'cheesepresslaw12.FseKnown': WHATEVER THE INPUT: true; the input reads as it did. -/
def fseKnownSpec : ChangeSpec := { name := "fseKnown", fn := fun _ => fun
  | [] => { results := [.lit (.bool true)], args := [] }
  | _ => none }
def fseKnownRow : OpenClaim := { program := "ytbdgknebimdjoaa", sum := "5d52f291f60bd36b6805fcf97813273ebeed94cb24b07ce08212883c6f7d7778", func := "cheesepress/cheesepresslaw12.FseKnown", spec := "fseKnown", unfollowed := true, recurses := true, apart := false }
def FseKnownSaid : Prop := fseKnownRow.holds Try.pinned (OpenSpec.ofChange fseKnownSpec)

/-- ITS FALSE NEIGHBOUR: 'it returns false'. Refute it at one input. -/
def fseKnownWrong : ChangeSpec := { name := "fseKnown", fn := fun _ => fun
  | [] => { results := [.lit (.bool false)], args := [] }
  | _ => none }
def FseKnownWrongFalsely : Prop := fseKnownRow.holds Try.pinned (OpenSpec.ofChange fseKnownWrong)

/- THE SECOND FORM. 'bulk': how many values and letters a reading holds, each counted each time it is reached (what is shared counts as often as it is met; a slice's spare places count too). A statement '..UptoSaid' is the law's where the arguments, and the package variables that the reading takes, are together of bulk at most 1048576: NARROWER than '..Said'. Prove '..Said' where nothing that the law and all that it calls make is longer than what came in: it says more and counts as full. Else prove '..UptoSaid'. A law counts once. -/
mutual
def uptoBulk {H : Type} : DataW H → Nat
  | .lit (.string bytes) => bytes.length + 1
  | .lit _ => 1
  | .nil => 1
  | .ptr d => uptoBulk d + 1
  | .slice elems spare => uptoBulkAll elems + uptoBulkAll spare + 1
  | .agg parts => uptoBulkAll parts + 1
  | .iface _ d => uptoBulk d + 1
  | .map entries => uptoBulkEntries entries + 1
  | .held _ => 1
def uptoBulkAll {H : Type} : List (DataW H) → Nat
  | [] => 0
  | d :: r => uptoBulk d + uptoBulkAll r
def uptoBulkEntries {H : Type} : List (Lit × DataW H) → Nat
  | [] => 0
  | x :: r => uptoBulkEntry x + uptoBulkEntries r
def uptoBulkEntry {H : Type} : Lit × DataW H → Nat
  | (.string bytes, d) => bytes.length + uptoBulk d + 1
  | (_, d) => uptoBulk d + 1
 end
def uptoSmall : (H : Type) → List (DataW H) → Bool := fun _ ds => decide (uptoBulkAll ds ≤ 1048576)
def OpenSpec.upto (s : _root_.Go.ChangeSpec) : _root_.Go.OpenSpec := { _root_.Go.OpenSpec.ofChange s with cond := some uptoSmall }

/-- 'cheesepresslaw11.EncodeMakes', WHERE WHAT IT READS IS OF BULK AT MOST 1048576: true; the input reads as it did. -/
def encodeMakesUptoRow : OpenClaim := { program := "ytbdgknebimdjoaa", sum := "5d52f291f60bd36b6805fcf97813273ebeed94cb24b07ce08212883c6f7d7778", func := "cheesepress/cheesepresslaw11.EncodeMakes", spec := "encodeMakes", unfollowed := true, recurses := true, apart := false, narrowed := true }
def EncodeMakesUptoSaid : Prop := encodeMakesUptoRow.holds Try.pinned (OpenSpec.upto encodeMakesSpec)

/-- 'cheesepresslaw11.EncodeKnown', WHERE WHAT IT READS IS OF BULK AT MOST 1048576: true; the input reads as it did. -/
def encodeKnownUptoRow : OpenClaim := { program := "ytbdgknebimdjoaa", sum := "5d52f291f60bd36b6805fcf97813273ebeed94cb24b07ce08212883c6f7d7778", func := "cheesepress/cheesepresslaw11.EncodeKnown", spec := "encodeKnown", unfollowed := true, recurses := true, apart := false, narrowed := true }
def EncodeKnownUptoSaid : Prop := encodeKnownUptoRow.holds Try.pinned (OpenSpec.upto encodeKnownSpec)

/-- 'cheesepresslaw11.EncodeSteps', WHERE WHAT IT READS IS OF BULK AT MOST 1048576: true; the input reads as it did. -/
def encodeStepsUptoRow : OpenClaim := { program := "ytbdgknebimdjoaa", sum := "5d52f291f60bd36b6805fcf97813273ebeed94cb24b07ce08212883c6f7d7778", func := "cheesepress/cheesepresslaw11.EncodeSteps", spec := "encodeSteps", unfollowed := true, recurses := true, apart := false, narrowed := true }
def EncodeStepsUptoSaid : Prop := encodeStepsUptoRow.holds Try.pinned (OpenSpec.upto encodeStepsSpec)

/-- 'cheesepresslaw12.FseCosts', WHERE WHAT IT READS IS OF BULK AT MOST 1048576: true; the input reads as it did. -/
def fseCostsUptoRow : OpenClaim := { program := "ytbdgknebimdjoaa", sum := "5d52f291f60bd36b6805fcf97813273ebeed94cb24b07ce08212883c6f7d7778", func := "cheesepress/cheesepresslaw12.FseCosts", spec := "fseCosts", unfollowed := true, recurses := true, apart := false, narrowed := true }
def FseCostsUptoSaid : Prop := fseCostsUptoRow.holds Try.pinned (OpenSpec.upto fseCostsSpec)

/-- 'cheesepresslaw12.FseWrites', WHERE WHAT IT READS IS OF BULK AT MOST 1048576: true; the input reads as it did. -/
def fseWritesUptoRow : OpenClaim := { program := "ytbdgknebimdjoaa", sum := "5d52f291f60bd36b6805fcf97813273ebeed94cb24b07ce08212883c6f7d7778", func := "cheesepress/cheesepresslaw12.FseWrites", spec := "fseWrites", unfollowed := true, recurses := true, apart := false, narrowed := true }
def FseWritesUptoSaid : Prop := fseWritesUptoRow.holds Try.pinned (OpenSpec.upto fseWritesSpec)

/-- 'cheesepresslaw11.EncodeDecodes', WHERE WHAT IT READS IS OF BULK AT MOST 1048576: true; the input reads as it did. -/
def encodeDecodesUptoRow : OpenClaim := { program := "ytbdgknebimdjoaa", sum := "5d52f291f60bd36b6805fcf97813273ebeed94cb24b07ce08212883c6f7d7778", func := "cheesepress/cheesepresslaw11.EncodeDecodes", spec := "encodeDecodes", unfollowed := true, recurses := true, apart := false, narrowed := true }
def EncodeDecodesUptoSaid : Prop := encodeDecodesUptoRow.holds Try.pinned (OpenSpec.upto encodeDecodesSpec)

/-- 'cheesepresslaw11.EncodeFirsts', WHERE WHAT IT READS IS OF BULK AT MOST 1048576: true; the input reads as it did. -/
def encodeFirstsUptoRow : OpenClaim := { program := "ytbdgknebimdjoaa", sum := "5d52f291f60bd36b6805fcf97813273ebeed94cb24b07ce08212883c6f7d7778", func := "cheesepress/cheesepresslaw11.EncodeFirsts", spec := "encodeFirsts", unfollowed := true, recurses := true, apart := false, narrowed := true }
def EncodeFirstsUptoSaid : Prop := encodeFirstsUptoRow.holds Try.pinned (OpenSpec.upto encodeFirstsSpec)

/-- 'cheesepresslaw11.EncodeRuns', WHERE WHAT IT READS IS OF BULK AT MOST 1048576: true; the input reads as it did. -/
def encodeRunsUptoRow : OpenClaim := { program := "ytbdgknebimdjoaa", sum := "5d52f291f60bd36b6805fcf97813273ebeed94cb24b07ce08212883c6f7d7778", func := "cheesepress/cheesepresslaw11.EncodeRuns", spec := "encodeRuns", unfollowed := true, recurses := true, apart := false, narrowed := true }
def EncodeRunsUptoSaid : Prop := encodeRunsUptoRow.holds Try.pinned (OpenSpec.upto encodeRunsSpec)

/-- 'cheesepresslaw12.FseApart', WHERE WHAT IT READS IS OF BULK AT MOST 1048576: true; the input reads as it did. -/
def fseApartUptoRow : OpenClaim := { program := "ytbdgknebimdjoaa", sum := "5d52f291f60bd36b6805fcf97813273ebeed94cb24b07ce08212883c6f7d7778", func := "cheesepress/cheesepresslaw12.FseApart", spec := "fseApart", unfollowed := true, recurses := true, apart := false, narrowed := true }
def FseApartUptoSaid : Prop := fseApartUptoRow.holds Try.pinned (OpenSpec.upto fseApartSpec)

/-- 'cheesepresslaw12.FseReads', WHERE WHAT IT READS IS OF BULK AT MOST 1048576: true; the input reads as it did. -/
def fseReadsUptoRow : OpenClaim := { program := "ytbdgknebimdjoaa", sum := "5d52f291f60bd36b6805fcf97813273ebeed94cb24b07ce08212883c6f7d7778", func := "cheesepress/cheesepresslaw12.FseReads", spec := "fseReads", unfollowed := true, recurses := true, apart := false, narrowed := true }
def FseReadsUptoSaid : Prop := fseReadsUptoRow.holds Try.pinned (OpenSpec.upto fseReadsSpec)

/-- 'cheesepresslaw12.FseBack', WHERE WHAT IT READS IS OF BULK AT MOST 1048576: true; the input reads as it did. -/
def fseBackUptoRow : OpenClaim := { program := "ytbdgknebimdjoaa", sum := "5d52f291f60bd36b6805fcf97813273ebeed94cb24b07ce08212883c6f7d7778", func := "cheesepress/cheesepresslaw12.FseBack", spec := "fseBack", unfollowed := true, recurses := true, apart := false, narrowed := true }
def FseBackUptoSaid : Prop := fseBackUptoRow.holds Try.pinned (OpenSpec.upto fseBackSpec)

/-- 'cheesepresslaw12.FseKnown', WHERE WHAT IT READS IS OF BULK AT MOST 1048576: true; the input reads as it did. -/
def fseKnownUptoRow : OpenClaim := { program := "ytbdgknebimdjoaa", sum := "5d52f291f60bd36b6805fcf97813273ebeed94cb24b07ce08212883c6f7d7778", func := "cheesepress/cheesepresslaw12.FseKnown", spec := "fseKnown", unfollowed := true, recurses := true, apart := false, narrowed := true }
def FseKnownUptoSaid : Prop := fseKnownUptoRow.holds Try.pinned (OpenSpec.upto fseKnownSpec)

end Rows
end Go.Proofs.Ytbdgknebimdjoaa
