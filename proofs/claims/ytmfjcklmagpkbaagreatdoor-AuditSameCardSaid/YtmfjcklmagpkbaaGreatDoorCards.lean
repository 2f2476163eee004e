/-
  DERIVED. GIVEN WITH THE SEED: THE CARDS: each row of YtmfjcklmagpkbaaGreatDoorRows.lean that lists a variable, with what it lists TIED to the program's text (the seventh form; the later family's looks); each row that meets fmt, with fmt's text TOLD by the authors' own Lean function (tested against real Go, not proved from fmt's source: count such statements apart). THE CARD IS WHAT COUNTS. Prove the row's statement (the work); the ties are given (YtmfjcklmagpkbaaGreatDoorTie.lean); close each card by the builder's one call (the guide's Derived/Test/ToyasCard.lean, 'card_holds'). Laid BY PROGRAM, IN A SANDBOX (cutbox-door.mjs). By AI agents, Wed Nov 11 2026. No macro, syntax, notation, axiom, sorry.
-/
import Derived.Test.YtmfjcklmagpkbaaGreatDoorRows
import GoSem.ClaimSeven
namespace Go.Proofs.YtmfjcklmagpkbaaGreatDoor
namespace Rows

/-- THE TIED CARD OF 'basculelaw22.EngineNil'. -/
def engineNilCard : Claim7 := { stood := { row := engineNilRow, standIns := [], harness := (true, "4234e93a9785799e5b962b34e76f8a3f2c3393fa29e9a58e35335dd703a91553"), looks := true }, kinds := [], alts := [], laidByText := true, laidKinds := [.data, .data, .data], laidTests := true, laidLooks := .later }
def EngineNilCardSaid : Prop := Claim7.holds Tryz.pinned (.plain (OpenSpec.ofChange engineNilSpec)) engineNilCard

/-- THE TIED CARD OF 'basculelaw23.AuditSequence'. -/
def auditSequenceCard : Claim7 := { stood := { row := auditSequenceRow, standIns := [], harness := (true, "4234e93a9785799e5b962b34e76f8a3f2c3393fa29e9a58e35335dd703a91553"), looks := true }, kinds := [], alts := [], laidByText := true, laidKinds := [.data, .data, .data], laidTests := true, laidLooks := .later }
def AuditSequenceCardSaid : Prop := Claim7.holds Tryz.pinned (.plain (OpenSpec.ofChange auditSequenceSpec)) auditSequenceCard

/-- THE TIED CARD OF 'basculelaw23.AuditSame'. -/
def auditSameCard : Claim7 := { stood := { row := auditSameRow, standIns := [], harness := (true, "4234e93a9785799e5b962b34e76f8a3f2c3393fa29e9a58e35335dd703a91553"), looks := true }, kinds := [], alts := [], laidByText := true, laidKinds := [.data, .data, .data], laidTests := true, laidLooks := .later }
def AuditSameCardSaid : Prop := Claim7.holds Tryz.pinned (.plain (OpenSpec.ofChange auditSameSpec)) auditSameCard

/-- THE SECOND FORM's CARD OF 'basculelaw22.EngineNil'. -/
def engineNilUptoCard : Claim7 := { stood := { row := engineNilUptoRow, standIns := [], harness := (true, "4234e93a9785799e5b962b34e76f8a3f2c3393fa29e9a58e35335dd703a91553"), looks := true }, kinds := [], alts := [], laidByText := true, laidKinds := [.data, .data, .data], laidTests := true, laidLooks := .later }
def EngineNilUptoCardSaid : Prop := Claim7.holds Tryz.pinned (.plain (OpenSpec.upto engineNilSpec)) engineNilUptoCard

/-- THE SECOND FORM's CARD OF 'basculelaw23.AuditSequence'. -/
def auditSequenceUptoCard : Claim7 := { stood := { row := auditSequenceUptoRow, standIns := [], harness := (true, "4234e93a9785799e5b962b34e76f8a3f2c3393fa29e9a58e35335dd703a91553"), looks := true }, kinds := [], alts := [], laidByText := true, laidKinds := [.data, .data, .data], laidTests := true, laidLooks := .later }
def AuditSequenceUptoCardSaid : Prop := Claim7.holds Tryz.pinned (.plain (OpenSpec.upto auditSequenceSpec)) auditSequenceUptoCard

/-- THE SECOND FORM's CARD OF 'basculelaw23.AuditSame'. -/
def auditSameUptoCard : Claim7 := { stood := { row := auditSameUptoRow, standIns := [], harness := (true, "4234e93a9785799e5b962b34e76f8a3f2c3393fa29e9a58e35335dd703a91553"), looks := true }, kinds := [], alts := [], laidByText := true, laidKinds := [.data, .data, .data], laidTests := true, laidLooks := .later }
def AuditSameUptoCardSaid : Prop := Claim7.holds Tryz.pinned (.plain (OpenSpec.upto auditSameSpec)) auditSameUptoCard
end Rows
end Go.Proofs.YtmfjcklmagpkbaaGreatDoor
