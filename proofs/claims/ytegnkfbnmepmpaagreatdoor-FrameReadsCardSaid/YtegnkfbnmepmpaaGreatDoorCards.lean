/-
  DERIVED. GIVEN WITH THE SEED: THE CARDS: each row of YtegnkfbnmepmpaaGreatDoorRows.lean that lists a variable, with what it lists TIED to the program's text (the seventh form; the later family's looks); each row that meets fmt, with fmt's text TOLD by the authors' own Lean function (tested against real Go, not proved from fmt's source: count such statements apart). THE CARD IS WHAT COUNTS. Prove the row's statement (the work); the ties are given (YtegnkfbnmepmpaaGreatDoorTie.lean); close each card by the builder's one call (the guide's Derived/Test/ToyasCard.lean, 'card_holds'). Laid BY PROGRAM, IN A SANDBOX (cutbox-door.mjs). By AI agents, Wed Nov 11 2026. No macro, syntax, notation, axiom, sorry.
-/
import Derived.Test.YtegnkfbnmepmpaaGreatDoorRows
import GoSem.ClaimSeven
namespace Go.Proofs.YtegnkfbnmepmpaaGreatDoor
namespace Rows

/-- THE TIED CARD OF 'cheesepresslaw32.FrameReads'. -/
def frameReadsCard : Claim7 := { stood := { row := frameReadsRow, standIns := [], harness := (true, "87ba64edba6beefd169df8a38ed403c90430fddd9e574ab2fba410df64bb2ccf"), looks := true }, kinds := [], alts := [], laidByText := true, laidKinds := [.handle], laidTests := true, laidLooks := .later }
def FrameReadsCardSaid : Prop := Claim7.holds Tryz.pinned (.plain (OpenSpec.ofChange frameReadsSpec)) frameReadsCard

/-- THE SECOND FORM's CARD OF 'cheesepresslaw32.FrameReads'. -/
def frameReadsUptoCard : Claim7 := { stood := { row := frameReadsUptoRow, standIns := [], harness := (true, "87ba64edba6beefd169df8a38ed403c90430fddd9e574ab2fba410df64bb2ccf"), looks := true }, kinds := [], alts := [], laidByText := true, laidKinds := [.handle], laidTests := true, laidLooks := .later }
def FrameReadsUptoCardSaid : Prop := Claim7.holds Tryz.pinned (.plain (OpenSpec.upto frameReadsSpec)) frameReadsUptoCard
end Rows
end Go.Proofs.YtegnkfbnmepmpaaGreatDoor
