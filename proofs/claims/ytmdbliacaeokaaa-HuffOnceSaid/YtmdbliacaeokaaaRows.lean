/-
  No cell of these rows narrows 'for every input' (looked for: loops, veiled, ifaces, maps, wideKeys, modest, calm, conditions, laid).
  DERIVED. THE GIVEN ROWS OF THIS SEAT. 5 by the template 'for every input the law returns true; each argument reads behind the call as it read before'; 0 by the template 'total and deterministic' (their statements: YtmdbliacaeokaaaTotals.lean).
  GIVEN WITH THE SEED: the statements are not yours to turn. If you find one false, say at which input.
  Laid BY PROGRAM, IN A SANDBOX (cutbox-rows.mjs): the forced cells as the released guide's own fill.sh prints them over the translation 7a92fc839fe0faef… (all of the seat's roots in one cut). By AI agents, Wed Nov 11 2026. No macro, syntax, notation, axiom, sorry.
-/
import Derived.Test.YtmdbliacaeokaaaChecked
import GoSem.Claim
import GoSem.ClaimJoined
import GoSem.ClaimMapViews
import Derived.JoinedTies
import Derived.KernelRfl
namespace Go.Proofs.Ytmdbliacaeokaaa
/- THE CELL 'sum', in the pinned program and in every row, IS THE sha256 OF THE DUMP (.gsa) THAT YtmdbliacaeokaaaProg.lean LOADS. Nothing in Lean hashes anything: it is a label: what it is worth is what the hold of that sum in a sandbox is worth. -/
noncomputable def Try.pinned : Pinned := { name := "ytmdbliacaeokaaa", sum := "7a92fc839fe0faef1c6f33cc0051bf55e5ac1af86c6fc2a2fd5197440776b7eb", checked := Try.checked }
namespace Rows
def none {H : Type} : Left H := { results := [], args := [] }

/-- 'cheesepresslaw17.HuffReads': WHATEVER THE INPUT: true; the input reads as it did. -/
def huffReadsSpec : ChangeSpec := { name := "huffReads", fn := fun _ => fun
  | [d1, d2, d3] => { results := [.lit (.bool true)], args := [d1, d2, d3] }
  | _ => none }
def huffReadsRow : OpenClaim := { program := "ytmdbliacaeokaaa", sum := "7a92fc839fe0faef1c6f33cc0051bf55e5ac1af86c6fc2a2fd5197440776b7eb", func := "cheesepress/cheesepresslaw17.HuffReads", spec := "huffReads", unfollowed := true, recurses := true, plainKeys := false, apart := false }
def HuffReadsSaid : Prop := huffReadsRow.holds Try.pinned (OpenSpec.ofChange huffReadsSpec)

/-- ITS FALSE NEIGHBOUR: 'it returns false'. Refute it at one input. -/
def huffReadsWrong : ChangeSpec := { name := "huffReads", fn := fun _ => fun
  | [d1, d2, d3] => { results := [.lit (.bool false)], args := [d1, d2, d3] }
  | _ => none }
def HuffReadsWrongFalsely : Prop := huffReadsRow.holds Try.pinned (OpenSpec.ofChange huffReadsWrong)

/-- 'cheesepresslaw17.HuffWrites': WHATEVER THE INPUT: true; the input reads as it did. -/
def huffWritesSpec : ChangeSpec := { name := "huffWrites", fn := fun _ => fun
  | [d1, d2, d3] => { results := [.lit (.bool true)], args := [d1, d2, d3] }
  | _ => none }
def huffWritesRow : OpenClaim := { program := "ytmdbliacaeokaaa", sum := "7a92fc839fe0faef1c6f33cc0051bf55e5ac1af86c6fc2a2fd5197440776b7eb", func := "cheesepress/cheesepresslaw17.HuffWrites", spec := "huffWrites", unfollowed := true, recurses := true, plainKeys := false, apart := false }
def HuffWritesSaid : Prop := huffWritesRow.holds Try.pinned (OpenSpec.ofChange huffWritesSpec)

/-- ITS FALSE NEIGHBOUR: 'it returns false'. Refute it at one input. -/
def huffWritesWrong : ChangeSpec := { name := "huffWrites", fn := fun _ => fun
  | [d1, d2, d3] => { results := [.lit (.bool false)], args := [d1, d2, d3] }
  | _ => none }
def HuffWritesWrongFalsely : Prop := huffWritesRow.holds Try.pinned (OpenSpec.ofChange huffWritesWrong)

/-- 'cheesepresslaw17.HuffKnown': WHATEVER THE INPUT: true; the input reads as it did. -/
def huffKnownSpec : ChangeSpec := { name := "huffKnown", fn := fun _ => fun
  | [] => { results := [.lit (.bool true)], args := [] }
  | _ => none }
def huffKnownRow : OpenClaim := { program := "ytmdbliacaeokaaa", sum := "7a92fc839fe0faef1c6f33cc0051bf55e5ac1af86c6fc2a2fd5197440776b7eb", func := "cheesepress/cheesepresslaw17.HuffKnown", spec := "huffKnown", unfollowed := true, recurses := true, plainKeys := false, apart := false }
def HuffKnownSaid : Prop := huffKnownRow.holds Try.pinned (OpenSpec.ofChange huffKnownSpec)

/-- ITS FALSE NEIGHBOUR: 'it returns false'. Refute it at one input. -/
def huffKnownWrong : ChangeSpec := { name := "huffKnown", fn := fun _ => fun
  | [] => { results := [.lit (.bool false)], args := [] }
  | _ => none }
def HuffKnownWrongFalsely : Prop := huffKnownRow.holds Try.pinned (OpenSpec.ofChange huffKnownWrong)

/-- 'cheesepresslaw17.HuffBack': WHATEVER THE INPUT: true; the input reads as it did. -/
def huffBackSpec : ChangeSpec := { name := "huffBack", fn := fun _ => fun
  | [d1, d2, d3] => { results := [.lit (.bool true)], args := [d1, d2, d3] }
  | _ => none }
def huffBackRow : OpenClaim := { program := "ytmdbliacaeokaaa", sum := "7a92fc839fe0faef1c6f33cc0051bf55e5ac1af86c6fc2a2fd5197440776b7eb", func := "cheesepress/cheesepresslaw17.HuffBack", spec := "huffBack", unfollowed := true, recurses := true, plainKeys := false, apart := false }
def HuffBackSaid : Prop := huffBackRow.holds Try.pinned (OpenSpec.ofChange huffBackSpec)

/-- ITS FALSE NEIGHBOUR: 'it returns false'. Refute it at one input. -/
def huffBackWrong : ChangeSpec := { name := "huffBack", fn := fun _ => fun
  | [d1, d2, d3] => { results := [.lit (.bool false)], args := [d1, d2, d3] }
  | _ => none }
def HuffBackWrongFalsely : Prop := huffBackRow.holds Try.pinned (OpenSpec.ofChange huffBackWrong)

/-- 'cheesepresslaw17.HuffOnce': WHATEVER THE INPUT: true; the input reads as it did. -/
def huffOnceSpec : ChangeSpec := { name := "huffOnce", fn := fun _ => fun
  | [d1, d2, d3, d4, d5] => { results := [.lit (.bool true)], args := [d1, d2, d3, d4, d5] }
  | _ => none }
def huffOnceRow : OpenClaim := { program := "ytmdbliacaeokaaa", sum := "7a92fc839fe0faef1c6f33cc0051bf55e5ac1af86c6fc2a2fd5197440776b7eb", func := "cheesepress/cheesepresslaw17.HuffOnce", spec := "huffOnce", unfollowed := true, recurses := true, plainKeys := false, apart := false }
def HuffOnceSaid : Prop := huffOnceRow.holds Try.pinned (OpenSpec.ofChange huffOnceSpec)

/-- ITS FALSE NEIGHBOUR: 'it returns false'. Refute it at one input. -/
def huffOnceWrong : ChangeSpec := { name := "huffOnce", fn := fun _ => fun
  | [d1, d2, d3, d4, d5] => { results := [.lit (.bool false)], args := [d1, d2, d3, d4, d5] }
  | _ => none }
def HuffOnceWrongFalsely : Prop := huffOnceRow.holds Try.pinned (OpenSpec.ofChange huffOnceWrong)

/- THE SECOND FORM. 'bulk': how many values and letters a reading holds, each counted each time it is reached (what is shared counts as often as it is met; a slice's spare places count too). A statement '..UptoSaid' is the law's where the arguments, and the package variables that the reading takes, are together of bulk at most 1048576: NARROWER than '..Said'. Prove '..Said' where nothing that the law and all that it calls make is longer than what came in: it says more and counts as full. Else prove '..UptoSaid'. A law counts once. -/
mutual
def uptoBulk {H : Type} : DataW H → Nat
  | .lit (.string bytes) => bytes.length + 1
  | .lit _ => 1
  | .nil => 1
  | .ptr d => uptoBulk d + 1
  | .slice elems spare => uptoBulkAll elems + uptoBulkAll spare + 1
  | .agg parts => uptoBulkAll parts + 1
  | .iface _ d => uptoBulk d + 1
  | .map entries => uptoBulkEntries entries + 1
  | .held _ => 1
def uptoBulkAll {H : Type} : List (DataW H) → Nat
  | [] => 0
  | d :: r => uptoBulk d + uptoBulkAll r
def uptoBulkEntries {H : Type} : List (Lit × DataW H) → Nat
  | [] => 0
  | x :: r => uptoBulkEntry x + uptoBulkEntries r
def uptoBulkEntry {H : Type} : Lit × DataW H → Nat
  | (.string bytes, d) => bytes.length + uptoBulk d + 1
  | (_, d) => uptoBulk d + 1
 end
def uptoSmall : (H : Type) → List (DataW H) → Bool := fun _ ds => decide (uptoBulkAll ds ≤ 1048576)
def OpenSpec.upto (s : _root_.Go.ChangeSpec) : _root_.Go.OpenSpec := { _root_.Go.OpenSpec.ofChange s with cond := some uptoSmall }

/-- 'cheesepresslaw17.HuffReads', WHERE WHAT IT READS IS OF BULK AT MOST 1048576: true; the input reads as it did. -/
def huffReadsUptoRow : OpenClaim := { program := "ytmdbliacaeokaaa", sum := "7a92fc839fe0faef1c6f33cc0051bf55e5ac1af86c6fc2a2fd5197440776b7eb", func := "cheesepress/cheesepresslaw17.HuffReads", spec := "huffReads", unfollowed := true, recurses := true, plainKeys := false, apart := false, narrowed := true }
def HuffReadsUptoSaid : Prop := huffReadsUptoRow.holds Try.pinned (OpenSpec.upto huffReadsSpec)

/-- 'cheesepresslaw17.HuffWrites', WHERE WHAT IT READS IS OF BULK AT MOST 1048576: true; the input reads as it did. -/
def huffWritesUptoRow : OpenClaim := { program := "ytmdbliacaeokaaa", sum := "7a92fc839fe0faef1c6f33cc0051bf55e5ac1af86c6fc2a2fd5197440776b7eb", func := "cheesepress/cheesepresslaw17.HuffWrites", spec := "huffWrites", unfollowed := true, recurses := true, plainKeys := false, apart := false, narrowed := true }
def HuffWritesUptoSaid : Prop := huffWritesUptoRow.holds Try.pinned (OpenSpec.upto huffWritesSpec)

/-- 'cheesepresslaw17.HuffKnown', WHERE WHAT IT READS IS OF BULK AT MOST 1048576: true; the input reads as it did. -/
def huffKnownUptoRow : OpenClaim := { program := "ytmdbliacaeokaaa", sum := "7a92fc839fe0faef1c6f33cc0051bf55e5ac1af86c6fc2a2fd5197440776b7eb", func := "cheesepress/cheesepresslaw17.HuffKnown", spec := "huffKnown", unfollowed := true, recurses := true, plainKeys := false, apart := false, narrowed := true }
def HuffKnownUptoSaid : Prop := huffKnownUptoRow.holds Try.pinned (OpenSpec.upto huffKnownSpec)

/-- 'cheesepresslaw17.HuffBack', WHERE WHAT IT READS IS OF BULK AT MOST 1048576: true; the input reads as it did. -/
def huffBackUptoRow : OpenClaim := { program := "ytmdbliacaeokaaa", sum := "7a92fc839fe0faef1c6f33cc0051bf55e5ac1af86c6fc2a2fd5197440776b7eb", func := "cheesepress/cheesepresslaw17.HuffBack", spec := "huffBack", unfollowed := true, recurses := true, plainKeys := false, apart := false, narrowed := true }
def HuffBackUptoSaid : Prop := huffBackUptoRow.holds Try.pinned (OpenSpec.upto huffBackSpec)

/-- 'cheesepresslaw17.HuffOnce', WHERE WHAT IT READS IS OF BULK AT MOST 1048576: true; the input reads as it did. -/
def huffOnceUptoRow : OpenClaim := { program := "ytmdbliacaeokaaa", sum := "7a92fc839fe0faef1c6f33cc0051bf55e5ac1af86c6fc2a2fd5197440776b7eb", func := "cheesepress/cheesepresslaw17.HuffOnce", spec := "huffOnce", unfollowed := true, recurses := true, plainKeys := false, apart := false, narrowed := true }
def HuffOnceUptoSaid : Prop := huffOnceUptoRow.holds Try.pinned (OpenSpec.upto huffOnceSpec)

end Rows
end Go.Proofs.Ytmdbliacaeokaaa
