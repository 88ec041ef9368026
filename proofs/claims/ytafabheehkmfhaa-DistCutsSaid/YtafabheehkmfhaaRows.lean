/-
  No cell of these rows narrows 'for every input' (looked for: loops, veiled, ifaces, maps, wideKeys, modest, calm, conditions, laid).
  DERIVED. THE GIVEN ROWS OF THIS SEAT. 11 by the template 'for every input the law returns true; each argument reads behind the call as it read before'; 0 by the template 'total and deterministic' (their statements: YtafabheehkmfhaaTotals.lean).
  GIVEN WITH THE SEED: the statements are not yours to turn. If you find one false, say at which input.
  Laid BY PROGRAM, IN A SANDBOX (cutbox-rows.mjs): the forced cells as the released guide's own fill.sh prints them over the translation c5025fd02aba0671… (all of the seat's roots in one cut). By AI agents, Wed Nov 11 2026. No macro, syntax, notation, axiom, sorry.
-/
import Derived.Test.YtafabheehkmfhaaChecked
import GoSem.Claim
import GoSem.ClaimJoined
import GoSem.ClaimMapViews
import Derived.JoinedTies
import Derived.KernelRfl
namespace Go.Proofs.Ytafabheehkmfhaa
/- THE CELL 'sum', in the pinned program and in every row, IS THE sha256 OF THE DUMP (.gsa) THAT YtafabheehkmfhaaProg.lean LOADS. Nothing in Lean hashes anything: it is a label: what it is worth is what the hold of that sum in a sandbox is worth. -/
noncomputable def Try.pinned : Pinned := { name := "ytafabheehkmfhaa", sum := "c5025fd02aba06715c69bd543d363c4765c7ea69ca53263b06ccbe31e2eaef93", checked := Try.checked }
namespace Rows
def none {H : Type} : Left H := { results := [], args := [] }

/-- 'cheesepresslaw02.BitsWrites': WHATEVER THE INPUT: true; the input reads as it did. -/
def bitsWritesSpec : ChangeSpec := { name := "bitsWrites", fn := fun _ => fun
  | [d1, d2, d3] => { results := [.lit (.bool true)], args := [d1, d2, d3] }
  | _ => none }
def bitsWritesRow : OpenClaim := { program := "ytafabheehkmfhaa", sum := "c5025fd02aba06715c69bd543d363c4765c7ea69ca53263b06ccbe31e2eaef93", func := "cheesepress/cheesepresslaw02.BitsWrites", spec := "bitsWrites", apart := false }
def BitsWritesSaid : Prop := bitsWritesRow.holds Try.pinned (OpenSpec.ofChange bitsWritesSpec)

/-- ITS FALSE NEIGHBOUR: 'it returns false'. Refute it at one input. -/
def bitsWritesWrong : ChangeSpec := { name := "bitsWrites", fn := fun _ => fun
  | [d1, d2, d3] => { results := [.lit (.bool false)], args := [d1, d2, d3] }
  | _ => none }
def BitsWritesWrongFalsely : Prop := bitsWritesRow.holds Try.pinned (OpenSpec.ofChange bitsWritesWrong)

/-- 'cheesepresslaw02.BitsReads': WHATEVER THE INPUT: true; the input reads as it did. -/
def bitsReadsSpec : ChangeSpec := { name := "bitsReads", fn := fun _ => fun
  | [d1, d2, d3, d4] => { results := [.lit (.bool true)], args := [d1, d2, d3, d4] }
  | _ => none }
def bitsReadsRow : OpenClaim := { program := "ytafabheehkmfhaa", sum := "c5025fd02aba06715c69bd543d363c4765c7ea69ca53263b06ccbe31e2eaef93", func := "cheesepress/cheesepresslaw02.BitsReads", spec := "bitsReads", apart := false }
def BitsReadsSaid : Prop := bitsReadsRow.holds Try.pinned (OpenSpec.ofChange bitsReadsSpec)

/-- ITS FALSE NEIGHBOUR: 'it returns false'. Refute it at one input. -/
def bitsReadsWrong : ChangeSpec := { name := "bitsReads", fn := fun _ => fun
  | [d1, d2, d3, d4] => { results := [.lit (.bool false)], args := [d1, d2, d3, d4] }
  | _ => none }
def BitsReadsWrongFalsely : Prop := bitsReadsRow.holds Try.pinned (OpenSpec.ofChange bitsReadsWrong)

/-- 'cheesepresslaw02.BitsKnown': WHATEVER THE INPUT: true; the input reads as it did. -/
def bitsKnownSpec : ChangeSpec := { name := "bitsKnown", fn := fun _ => fun
  | [] => { results := [.lit (.bool true)], args := [] }
  | _ => none }
def bitsKnownRow : OpenClaim := { program := "ytafabheehkmfhaa", sum := "c5025fd02aba06715c69bd543d363c4765c7ea69ca53263b06ccbe31e2eaef93", func := "cheesepress/cheesepresslaw02.BitsKnown", spec := "bitsKnown", apart := false }
def BitsKnownSaid : Prop := bitsKnownRow.holds Try.pinned (OpenSpec.ofChange bitsKnownSpec)

/-- ITS FALSE NEIGHBOUR: 'it returns false'. Refute it at one input. -/
def bitsKnownWrong : ChangeSpec := { name := "bitsKnown", fn := fun _ => fun
  | [] => { results := [.lit (.bool false)], args := [] }
  | _ => none }
def BitsKnownWrongFalsely : Prop := bitsKnownRow.holds Try.pinned (OpenSpec.ofChange bitsKnownWrong)

/-- 'cheesepresslaw02.BitsBack': WHATEVER THE INPUT: true; the input reads as it did. -/
def bitsBackSpec : ChangeSpec := { name := "bitsBack", fn := fun _ => fun
  | [d] => { results := [.lit (.bool true)], args := [d] }
  | _ => none }
def bitsBackRow : OpenClaim := { program := "ytafabheehkmfhaa", sum := "c5025fd02aba06715c69bd543d363c4765c7ea69ca53263b06ccbe31e2eaef93", func := "cheesepress/cheesepresslaw02.BitsBack", spec := "bitsBack", apart := false }
def BitsBackSaid : Prop := bitsBackRow.holds Try.pinned (OpenSpec.ofChange bitsBackSpec)

/-- ITS FALSE NEIGHBOUR: 'it returns false'. Refute it at one input. -/
def bitsBackWrong : ChangeSpec := { name := "bitsBack", fn := fun _ => fun
  | [d] => { results := [.lit (.bool false)], args := [d] }
  | _ => none }
def BitsBackWrongFalsely : Prop := bitsBackRow.holds Try.pinned (OpenSpec.ofChange bitsBackWrong)

/-- 'cheesepresslaw02.BitsParts': WHATEVER THE INPUT: true; the input reads as it did. -/
def bitsPartsSpec : ChangeSpec := { name := "bitsParts", fn := fun _ => fun
  | [d1, d2, d3, d4] => { results := [.lit (.bool true)], args := [d1, d2, d3, d4] }
  | _ => none }
def bitsPartsRow : OpenClaim := { program := "ytafabheehkmfhaa", sum := "c5025fd02aba06715c69bd543d363c4765c7ea69ca53263b06ccbe31e2eaef93", func := "cheesepress/cheesepresslaw02.BitsParts", spec := "bitsParts", apart := false }
def BitsPartsSaid : Prop := bitsPartsRow.holds Try.pinned (OpenSpec.ofChange bitsPartsSpec)

/-- ITS FALSE NEIGHBOUR: 'it returns false'. Refute it at one input. -/
def bitsPartsWrong : ChangeSpec := { name := "bitsParts", fn := fun _ => fun
  | [d1, d2, d3, d4] => { results := [.lit (.bool false)], args := [d1, d2, d3, d4] }
  | _ => none }
def BitsPartsWrongFalsely : Prop := bitsPartsRow.holds Try.pinned (OpenSpec.ofChange bitsPartsWrong)

/-- 'cheesepresslaw08.DistPredefined': WHATEVER THE INPUT: true; the input reads as it did. -/
def distPredefinedSpec : ChangeSpec := { name := "distPredefined", fn := fun _ => fun
  | [d] => { results := [.lit (.bool true)], args := [d] }
  | _ => none }
def distPredefinedRow : OpenClaim := { program := "ytafabheehkmfhaa", sum := "c5025fd02aba06715c69bd543d363c4765c7ea69ca53263b06ccbe31e2eaef93", func := "cheesepress/cheesepresslaw08.DistPredefined", spec := "distPredefined", unfollowed := true, recurses := true, apart := false }
def DistPredefinedSaid : Prop := distPredefinedRow.holds Try.pinned (OpenSpec.ofChange distPredefinedSpec)

/-- ITS FALSE NEIGHBOUR: 'it returns false'. Refute it at one input. -/
def distPredefinedWrong : ChangeSpec := { name := "distPredefined", fn := fun _ => fun
  | [d] => { results := [.lit (.bool false)], args := [d] }
  | _ => none }
def DistPredefinedWrongFalsely : Prop := distPredefinedRow.holds Try.pinned (OpenSpec.ofChange distPredefinedWrong)

/-- 'cheesepresslaw08.DistWrites': WHATEVER THE INPUT: true; the input reads as it did. -/
def distWritesSpec : ChangeSpec := { name := "distWrites", fn := fun _ => fun
  | [d1, d2, d3] => { results := [.lit (.bool true)], args := [d1, d2, d3] }
  | _ => none }
def distWritesRow : OpenClaim := { program := "ytafabheehkmfhaa", sum := "c5025fd02aba06715c69bd543d363c4765c7ea69ca53263b06ccbe31e2eaef93", func := "cheesepress/cheesepresslaw08.DistWrites", spec := "distWrites", unfollowed := true, recurses := true, apart := false }
def DistWritesSaid : Prop := distWritesRow.holds Try.pinned (OpenSpec.ofChange distWritesSpec)

/-- ITS FALSE NEIGHBOUR: 'it returns false'. Refute it at one input. -/
def distWritesWrong : ChangeSpec := { name := "distWrites", fn := fun _ => fun
  | [d1, d2, d3] => { results := [.lit (.bool false)], args := [d1, d2, d3] }
  | _ => none }
def DistWritesWrongFalsely : Prop := distWritesRow.holds Try.pinned (OpenSpec.ofChange distWritesWrong)

/-- 'cheesepresslaw08.DistReads': WHATEVER THE INPUT: true; the input reads as it did. -/
def distReadsSpec : ChangeSpec := { name := "distReads", fn := fun _ => fun
  | [d1, d2, d3, d4] => { results := [.lit (.bool true)], args := [d1, d2, d3, d4] }
  | _ => none }
def distReadsRow : OpenClaim := { program := "ytafabheehkmfhaa", sum := "c5025fd02aba06715c69bd543d363c4765c7ea69ca53263b06ccbe31e2eaef93", func := "cheesepress/cheesepresslaw08.DistReads", spec := "distReads", inPlace := ["internal/reflectlite.TypeOf"], unfollowed := true, recurses := true, apart := false }
def DistReadsSaid : Prop := distReadsRow.holds Try.pinned (OpenSpec.ofChange distReadsSpec)

/-- ITS FALSE NEIGHBOUR: 'it returns false'. Refute it at one input. -/
def distReadsWrong : ChangeSpec := { name := "distReads", fn := fun _ => fun
  | [d1, d2, d3, d4] => { results := [.lit (.bool false)], args := [d1, d2, d3, d4] }
  | _ => none }
def DistReadsWrongFalsely : Prop := distReadsRow.holds Try.pinned (OpenSpec.ofChange distReadsWrong)

/-- 'cheesepresslaw08.DistCuts': WHATEVER THE INPUT: true; the input reads as it did. -/
def distCutsSpec : ChangeSpec := { name := "distCuts", fn := fun _ => fun
  | [d1, d2] => { results := [.lit (.bool true)], args := [d1, d2] }
  | _ => none }
def distCutsRow : OpenClaim := { program := "ytafabheehkmfhaa", sum := "c5025fd02aba06715c69bd543d363c4765c7ea69ca53263b06ccbe31e2eaef93", func := "cheesepress/cheesepresslaw08.DistCuts", spec := "distCuts", inPlace := ["internal/reflectlite.TypeOf"], unfollowed := true, recurses := true, apart := false }
def DistCutsSaid : Prop := distCutsRow.holds Try.pinned (OpenSpec.ofChange distCutsSpec)

/-- ITS FALSE NEIGHBOUR: 'it returns false'. Refute it at one input. -/
def distCutsWrong : ChangeSpec := { name := "distCuts", fn := fun _ => fun
  | [d1, d2] => { results := [.lit (.bool false)], args := [d1, d2] }
  | _ => none }
def DistCutsWrongFalsely : Prop := distCutsRow.holds Try.pinned (OpenSpec.ofChange distCutsWrong)

/-- 'cheesepresslaw08.DistBack': WHATEVER THE INPUT: true; the input reads as it did. -/
def distBackSpec : ChangeSpec := { name := "distBack", fn := fun _ => fun
  | [d1, d2] => { results := [.lit (.bool true)], args := [d1, d2] }
  | _ => none }
def distBackRow : OpenClaim := { program := "ytafabheehkmfhaa", sum := "c5025fd02aba06715c69bd543d363c4765c7ea69ca53263b06ccbe31e2eaef93", func := "cheesepress/cheesepresslaw08.DistBack", spec := "distBack", inPlace := ["internal/reflectlite.TypeOf"], unfollowed := true, recurses := true, apart := false }
def DistBackSaid : Prop := distBackRow.holds Try.pinned (OpenSpec.ofChange distBackSpec)

/-- ITS FALSE NEIGHBOUR: 'it returns false'. Refute it at one input. -/
def distBackWrong : ChangeSpec := { name := "distBack", fn := fun _ => fun
  | [d1, d2] => { results := [.lit (.bool false)], args := [d1, d2] }
  | _ => none }
def DistBackWrongFalsely : Prop := distBackRow.holds Try.pinned (OpenSpec.ofChange distBackWrong)

/-- 'cheesepresslaw08.DistKnown': WHATEVER THE INPUT: true; the input reads as it did. -/
def distKnownSpec : ChangeSpec := { name := "distKnown", fn := fun _ => fun
  | [] => { results := [.lit (.bool true)], args := [] }
  | _ => none }
def distKnownRow : OpenClaim := { program := "ytafabheehkmfhaa", sum := "c5025fd02aba06715c69bd543d363c4765c7ea69ca53263b06ccbe31e2eaef93", func := "cheesepress/cheesepresslaw08.DistKnown", spec := "distKnown", inPlace := ["internal/reflectlite.TypeOf"], unfollowed := true, recurses := true, apart := false }
def DistKnownSaid : Prop := distKnownRow.holds Try.pinned (OpenSpec.ofChange distKnownSpec)

/-- ITS FALSE NEIGHBOUR: 'it returns false'. Refute it at one input. -/
def distKnownWrong : ChangeSpec := { name := "distKnown", fn := fun _ => fun
  | [] => { results := [.lit (.bool false)], args := [] }
  | _ => none }
def DistKnownWrongFalsely : Prop := distKnownRow.holds Try.pinned (OpenSpec.ofChange distKnownWrong)

/- THE SECOND FORM. 'bulk': how many values and letters a reading holds, each counted each time it is reached (what is shared counts as often as it is met; a slice's spare places count too). A statement '..UptoSaid' is the law's where the arguments, and the package variables that the reading takes, are together of bulk at most 1048576: NARROWER than '..Said'. Prove '..Said' where nothing that the law and all that it calls make is longer than what came in: it says more and counts as full. Else prove '..UptoSaid'. A law counts once. -/
mutual
def uptoBulk {H : Type} : DataW H → Nat
  | .lit (.string bytes) => bytes.length + 1
  | .lit _ => 1
  | .nil => 1
  | .ptr d => uptoBulk d + 1
  | .slice elems spare => uptoBulkAll elems + uptoBulkAll spare + 1
  | .agg parts => uptoBulkAll parts + 1
  | .iface _ d => uptoBulk d + 1
  | .map entries => uptoBulkEntries entries + 1
  | .held _ => 1
def uptoBulkAll {H : Type} : List (DataW H) → Nat
  | [] => 0
  | d :: r => uptoBulk d + uptoBulkAll r
def uptoBulkEntries {H : Type} : List (Lit × DataW H) → Nat
  | [] => 0
  | x :: r => uptoBulkEntry x + uptoBulkEntries r
def uptoBulkEntry {H : Type} : Lit × DataW H → Nat
  | (.string bytes, d) => bytes.length + uptoBulk d + 1
  | (_, d) => uptoBulk d + 1
 end
def uptoSmall : (H : Type) → List (DataW H) → Bool := fun _ ds => decide (uptoBulkAll ds ≤ 1048576)
def OpenSpec.upto (s : _root_.Go.ChangeSpec) : _root_.Go.OpenSpec := { _root_.Go.OpenSpec.ofChange s with cond := some uptoSmall }

/-- 'cheesepresslaw02.BitsWrites', WHERE WHAT IT READS IS OF BULK AT MOST 1048576: true; the input reads as it did. -/
def bitsWritesUptoRow : OpenClaim := { program := "ytafabheehkmfhaa", sum := "c5025fd02aba06715c69bd543d363c4765c7ea69ca53263b06ccbe31e2eaef93", func := "cheesepress/cheesepresslaw02.BitsWrites", spec := "bitsWrites", apart := false, narrowed := true }
def BitsWritesUptoSaid : Prop := bitsWritesUptoRow.holds Try.pinned (OpenSpec.upto bitsWritesSpec)

/-- 'cheesepresslaw02.BitsReads', WHERE WHAT IT READS IS OF BULK AT MOST 1048576: true; the input reads as it did. -/
def bitsReadsUptoRow : OpenClaim := { program := "ytafabheehkmfhaa", sum := "c5025fd02aba06715c69bd543d363c4765c7ea69ca53263b06ccbe31e2eaef93", func := "cheesepress/cheesepresslaw02.BitsReads", spec := "bitsReads", apart := false, narrowed := true }
def BitsReadsUptoSaid : Prop := bitsReadsUptoRow.holds Try.pinned (OpenSpec.upto bitsReadsSpec)

/-- 'cheesepresslaw02.BitsKnown', WHERE WHAT IT READS IS OF BULK AT MOST 1048576: true; the input reads as it did. -/
def bitsKnownUptoRow : OpenClaim := { program := "ytafabheehkmfhaa", sum := "c5025fd02aba06715c69bd543d363c4765c7ea69ca53263b06ccbe31e2eaef93", func := "cheesepress/cheesepresslaw02.BitsKnown", spec := "bitsKnown", apart := false, narrowed := true }
def BitsKnownUptoSaid : Prop := bitsKnownUptoRow.holds Try.pinned (OpenSpec.upto bitsKnownSpec)

/-- 'cheesepresslaw02.BitsBack', WHERE WHAT IT READS IS OF BULK AT MOST 1048576: true; the input reads as it did. -/
def bitsBackUptoRow : OpenClaim := { program := "ytafabheehkmfhaa", sum := "c5025fd02aba06715c69bd543d363c4765c7ea69ca53263b06ccbe31e2eaef93", func := "cheesepress/cheesepresslaw02.BitsBack", spec := "bitsBack", apart := false, narrowed := true }
def BitsBackUptoSaid : Prop := bitsBackUptoRow.holds Try.pinned (OpenSpec.upto bitsBackSpec)

/-- 'cheesepresslaw02.BitsParts', WHERE WHAT IT READS IS OF BULK AT MOST 1048576: true; the input reads as it did. -/
def bitsPartsUptoRow : OpenClaim := { program := "ytafabheehkmfhaa", sum := "c5025fd02aba06715c69bd543d363c4765c7ea69ca53263b06ccbe31e2eaef93", func := "cheesepress/cheesepresslaw02.BitsParts", spec := "bitsParts", apart := false, narrowed := true }
def BitsPartsUptoSaid : Prop := bitsPartsUptoRow.holds Try.pinned (OpenSpec.upto bitsPartsSpec)

/-- 'cheesepresslaw08.DistPredefined', WHERE WHAT IT READS IS OF BULK AT MOST 1048576: true; the input reads as it did. -/
def distPredefinedUptoRow : OpenClaim := { program := "ytafabheehkmfhaa", sum := "c5025fd02aba06715c69bd543d363c4765c7ea69ca53263b06ccbe31e2eaef93", func := "cheesepress/cheesepresslaw08.DistPredefined", spec := "distPredefined", unfollowed := true, recurses := true, apart := false, narrowed := true }
def DistPredefinedUptoSaid : Prop := distPredefinedUptoRow.holds Try.pinned (OpenSpec.upto distPredefinedSpec)

/-- 'cheesepresslaw08.DistWrites', WHERE WHAT IT READS IS OF BULK AT MOST 1048576: true; the input reads as it did. -/
def distWritesUptoRow : OpenClaim := { program := "ytafabheehkmfhaa", sum := "c5025fd02aba06715c69bd543d363c4765c7ea69ca53263b06ccbe31e2eaef93", func := "cheesepress/cheesepresslaw08.DistWrites", spec := "distWrites", unfollowed := true, recurses := true, apart := false, narrowed := true }
def DistWritesUptoSaid : Prop := distWritesUptoRow.holds Try.pinned (OpenSpec.upto distWritesSpec)

/-- 'cheesepresslaw08.DistReads', WHERE WHAT IT READS IS OF BULK AT MOST 1048576: true; the input reads as it did. -/
def distReadsUptoRow : OpenClaim := { program := "ytafabheehkmfhaa", sum := "c5025fd02aba06715c69bd543d363c4765c7ea69ca53263b06ccbe31e2eaef93", func := "cheesepress/cheesepresslaw08.DistReads", spec := "distReads", inPlace := ["internal/reflectlite.TypeOf"], unfollowed := true, recurses := true, apart := false, narrowed := true }
def DistReadsUptoSaid : Prop := distReadsUptoRow.holds Try.pinned (OpenSpec.upto distReadsSpec)

/-- 'cheesepresslaw08.DistCuts', WHERE WHAT IT READS IS OF BULK AT MOST 1048576: true; the input reads as it did. -/
def distCutsUptoRow : OpenClaim := { program := "ytafabheehkmfhaa", sum := "c5025fd02aba06715c69bd543d363c4765c7ea69ca53263b06ccbe31e2eaef93", func := "cheesepress/cheesepresslaw08.DistCuts", spec := "distCuts", inPlace := ["internal/reflectlite.TypeOf"], unfollowed := true, recurses := true, apart := false, narrowed := true }
def DistCutsUptoSaid : Prop := distCutsUptoRow.holds Try.pinned (OpenSpec.upto distCutsSpec)

/-- 'cheesepresslaw08.DistBack', WHERE WHAT IT READS IS OF BULK AT MOST 1048576: true; the input reads as it did. -/
def distBackUptoRow : OpenClaim := { program := "ytafabheehkmfhaa", sum := "c5025fd02aba06715c69bd543d363c4765c7ea69ca53263b06ccbe31e2eaef93", func := "cheesepress/cheesepresslaw08.DistBack", spec := "distBack", inPlace := ["internal/reflectlite.TypeOf"], unfollowed := true, recurses := true, apart := false, narrowed := true }
def DistBackUptoSaid : Prop := distBackUptoRow.holds Try.pinned (OpenSpec.upto distBackSpec)

/-- 'cheesepresslaw08.DistKnown', WHERE WHAT IT READS IS OF BULK AT MOST 1048576: true; the input reads as it did. -/
def distKnownUptoRow : OpenClaim := { program := "ytafabheehkmfhaa", sum := "c5025fd02aba06715c69bd543d363c4765c7ea69ca53263b06ccbe31e2eaef93", func := "cheesepress/cheesepresslaw08.DistKnown", spec := "distKnown", inPlace := ["internal/reflectlite.TypeOf"], unfollowed := true, recurses := true, apart := false, narrowed := true }
def DistKnownUptoSaid : Prop := distKnownUptoRow.holds Try.pinned (OpenSpec.upto distKnownSpec)

end Rows
end Go.Proofs.Ytafabheehkmfhaa
