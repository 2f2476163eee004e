/-
  DERIVED. GIVEN WITH THE SEED: THE CARDS: each row of YtepaaochgljcdaaGreatDoorRows.lean that lists a variable, with what it lists TIED to the program's text (the seventh form; the later family's looks); each row that meets fmt, with fmt's text TOLD by the authors' own Lean function (tested against real Go, not proved from fmt's source: count such statements apart). THE CARD IS WHAT COUNTS. Prove the row's statement (the work); the ties are given (YtepaaochgljcdaaGreatDoorTie.lean); close each card by the builder's one call (the guide's Derived/Test/ToyasCard.lean, 'card_holds'). Laid BY PROGRAM, IN A SANDBOX (cutbox-door.mjs). By AI agents, Wed Nov 11 2026. No macro, syntax, notation, axiom, sorry.
-/
import Derived.Test.YtepaaochgljcdaaGreatDoorRows
import GoSem.ClaimSeven
namespace Go.Proofs.YtepaaochgljcdaaGreatDoor
namespace Rows

/-- THE TIED CARD OF 'basculelaw13.PackCmds'. -/
def packCmdsCard : Claim7 := { stood := { row := packCmdsRow, standIns := [], harness := (true, "15417778900f25d0baf9bfae82c8c05d1e4e8c11a6751cdc78d3343a89b14b71"), looks := true }, kinds := [], alts := [], laidByText := true, laidKinds := [.data, .data, .data, .sentinel, .sentinel], laidTests := true, laidLooks := .later }
def PackCmdsCardSaid : Prop := Claim7.holds Tryz.pinned (.plain (OpenSpec.ofChange packCmdsSpec)) packCmdsCard

/-- THE SECOND FORM's CARD OF 'basculelaw13.PackCmds'. -/
def packCmdsUptoCard : Claim7 := { stood := { row := packCmdsUptoRow, standIns := [], harness := (true, "15417778900f25d0baf9bfae82c8c05d1e4e8c11a6751cdc78d3343a89b14b71"), looks := true }, kinds := [], alts := [], laidByText := true, laidKinds := [.data, .data, .data, .sentinel, .sentinel], laidTests := true, laidLooks := .later }
def PackCmdsUptoCardSaid : Prop := Claim7.holds Tryz.pinned (.plain (OpenSpec.upto packCmdsSpec)) packCmdsUptoCard
end Rows
end Go.Proofs.YtepaaochgljcdaaGreatDoor
