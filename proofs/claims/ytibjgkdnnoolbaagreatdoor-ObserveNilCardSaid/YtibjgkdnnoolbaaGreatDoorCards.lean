/-
  DERIVED. GIVEN WITH THE SEED: THE CARDS: each row of YtibjgkdnnoolbaaGreatDoorRows.lean that lists a variable, with what it lists TIED to the program's text (the seventh form; the later family's looks); each row that meets fmt, with fmt's text TOLD by the authors' own Lean function (tested against real Go, not proved from fmt's source: count such statements apart). THE CARD IS WHAT COUNTS. Prove the row's statement (the work); the ties are given (YtibjgkdnnoolbaaGreatDoorTie.lean); close each card by the builder's one call (the guide's Derived/Test/ToyasCard.lean, 'card_holds'). Laid BY PROGRAM, IN A SANDBOX (cutbox-door.mjs). By AI agents, Wed Nov 11 2026. No macro, syntax, notation, axiom, sorry.
-/
import Derived.Test.YtibjgkdnnoolbaaGreatDoorRows
import GoSem.ClaimSeven
namespace Go.Proofs.YtibjgkdnnoolbaaGreatDoor
namespace Rows

/-- THE TIED CARD OF 'basculelaw24.ObserveNil'. -/
def observeNilCard : Claim7 := { stood := { row := observeNilRow, standIns := [], harness := (true, "eb8da913084ee6bac857365d0d71d321365169a43897098886de7ea63614fcee"), looks := true }, kinds := [], alts := [], laidByText := true, laidKinds := [.data, .data, .data], laidTests := true, laidLooks := .later }
def ObserveNilCardSaid : Prop := Claim7.holds Tryz.pinned (.plain (OpenSpec.ofChange observeNilSpec)) observeNilCard

/-- THE SECOND FORM's CARD OF 'basculelaw24.ObserveNil'. -/
def observeNilUptoCard : Claim7 := { stood := { row := observeNilUptoRow, standIns := [], harness := (true, "eb8da913084ee6bac857365d0d71d321365169a43897098886de7ea63614fcee"), looks := true }, kinds := [], alts := [], laidByText := true, laidKinds := [.data, .data, .data], laidTests := true, laidLooks := .later }
def ObserveNilUptoCardSaid : Prop := Claim7.holds Tryz.pinned (.plain (OpenSpec.upto observeNilSpec)) observeNilUptoCard
end Rows
end Go.Proofs.YtibjgkdnnoolbaaGreatDoor
