/-
  DERIVED. GIVEN WITH THE SEED: THE CARDS: each row of YtkbcdlabfbonoaaGreatDoorRows.lean that lists a variable, with what it lists TIED to the program's text (the seventh form; the later family's looks); each row that meets fmt, with fmt's text TOLD by the authors' own Lean function (tested against real Go, not proved from fmt's source: count such statements apart). THE CARD IS WHAT COUNTS. Prove the row's statement (the work); the ties are given (YtkbcdlabfbonoaaGreatDoorTie.lean); close each card by the builder's one call (the guide's Derived/Test/ToyasCard.lean, 'card_holds'). Laid BY PROGRAM, IN A SANDBOX (cutbox-door.mjs). By AI agents, Wed Nov 11 2026. No macro, syntax, notation, axiom, sorry.
-/
import Derived.Test.YtkbcdlabfbonoaaGreatDoorRows
import GoSem.ClaimSeven
namespace Go.Proofs.YtkbcdlabfbonoaaGreatDoor
namespace Rows

/-- THE TIED CARD OF 'basculelaw23.AuditSequence'. -/
def auditSequenceCard : Claim7 := { stood := { row := auditSequenceRow, standIns := [], harness := (true, "f0e21fd63bf893d12c81cdca1c20858ef6b55d5cd8dff088883d864cdb246115"), looks := true }, kinds := [], alts := [], laidByText := true, laidKinds := [.data, .data, .data], laidTests := true, laidLooks := .later }
def AuditSequenceCardSaid : Prop := Claim7.holds Tryz.pinned (.plain (OpenSpec.ofChange auditSequenceSpec)) auditSequenceCard

/-- THE SECOND FORM's CARD OF 'basculelaw23.AuditSequence'. -/
def auditSequenceUptoCard : Claim7 := { stood := { row := auditSequenceUptoRow, standIns := [], harness := (true, "f0e21fd63bf893d12c81cdca1c20858ef6b55d5cd8dff088883d864cdb246115"), looks := true }, kinds := [], alts := [], laidByText := true, laidKinds := [.data, .data, .data], laidTests := true, laidLooks := .later }
def AuditSequenceUptoCardSaid : Prop := Claim7.holds Tryz.pinned (.plain (OpenSpec.upto auditSequenceSpec)) auditSequenceUptoCard
end Rows
end Go.Proofs.YtkbcdlabfbonoaaGreatDoor
