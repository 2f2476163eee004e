/-
  DERIVED. GIVEN WITH THE SEED: THE CARDS: each row of YthponidjednfbaaGreatDoorRows.lean that lists a variable, with what it lists TIED to the program's text (the seventh form; the later family's looks); each row that meets fmt, with fmt's text TOLD by the authors' own Lean function (tested against real Go, not proved from fmt's source: count such statements apart). THE CARD IS WHAT COUNTS. Prove the row's statement (the work); the ties are given (YthponidjednfbaaGreatDoorTie.lean); close each card by the builder's one call (the guide's Derived/Test/ToyasCard.lean, 'card_holds'). Laid BY PROGRAM, IN A SANDBOX (cutbox-door.mjs). By AI agents, Wed Nov 11 2026. No macro, syntax, notation, axiom, sorry.
-/
import Derived.Test.YthponidjednfbaaGreatDoorRows
import GoSem.ClaimSeven
namespace Go.Proofs.YthponidjednfbaaGreatDoor
namespace Rows

/-- THE TIED CARD OF 'basculelaw28.TwinCompares'. -/
def twinComparesCard : Claim7 := { stood := { row := twinComparesRow, standIns := [], harness := (true, "3d56fc925d9ee27b77aec645808966cd45d94710f87432e5d080911fa352cf05"), looks := true }, kinds := [], alts := [], laidByText := true, laidKinds := [.data, .data, .data], laidTests := true, laidLooks := .later }
def TwinComparesCardSaid : Prop := Claim7.holds Tryz.pinned (.plain (OpenSpec.ofChange twinComparesSpec)) twinComparesCard

/-- THE SECOND FORM's CARD OF 'basculelaw28.TwinCompares'. -/
def twinComparesUptoCard : Claim7 := { stood := { row := twinComparesUptoRow, standIns := [], harness := (true, "3d56fc925d9ee27b77aec645808966cd45d94710f87432e5d080911fa352cf05"), looks := true }, kinds := [], alts := [], laidByText := true, laidKinds := [.data, .data, .data], laidTests := true, laidLooks := .later }
def TwinComparesUptoCardSaid : Prop := Claim7.holds Tryz.pinned (.plain (OpenSpec.upto twinComparesSpec)) twinComparesUptoCard
end Rows
end Go.Proofs.YthponidjednfbaaGreatDoor
