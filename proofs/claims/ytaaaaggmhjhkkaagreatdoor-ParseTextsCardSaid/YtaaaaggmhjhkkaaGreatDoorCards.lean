/-
  DERIVED. GIVEN WITH THE SEED: THE CARDS: each row of YtaaaaggmhjhkkaaGreatDoorRows.lean that lists a variable, with what it lists TIED to the program's text (the seventh form; the later family's looks); each row that meets fmt, with fmt's text TOLD by the authors' own Lean function (tested against real Go, not proved from fmt's source: count such statements apart). THE CARD IS WHAT COUNTS. Prove the row's statement (the work); the ties are given (YtaaaaggmhjhkkaaGreatDoorTie.lean); close each card by the builder's one call (the guide's Derived/Test/ToyasCard.lean, 'card_holds'). Laid BY PROGRAM, IN A SANDBOX (cutbox-door.mjs). By AI agents, Wed Nov 11 2026. No macro, syntax, notation, axiom, sorry.
-/
import Derived.Test.YtaaaaggmhjhkkaaGreatDoorRows
import GoSem.ClaimSeven
namespace Go.Proofs.YtaaaaggmhjhkkaaGreatDoor
namespace Rows

/-- THE TIED CARD OF 'basculelaw08.ParseTexts'. -/
def parseTextsCard : Claim7 := { stood := { row := parseTextsRow, standIns := [], harness := (true, "8a3943c001f986fcb28fbde391ff09c4c3920f34857b61d139bfcdf1ca9e50f8"), looks := true }, kinds := [], alts := [], laidByText := true, laidKinds := [.data, .data, .data, .sentinel, .sentinel], laidTests := true, laidLooks := .later }
def ParseTextsCardSaid : Prop := Claim7.holds Tryz.pinned (.plain (OpenSpec.ofChange parseTextsSpec)) parseTextsCard

/-- THE TIED CARD OF 'basculelaw08.ParseBack'. -/
def parseBackCard : Claim7 := { stood := { row := parseBackRow, standIns := [], harness := (true, "8a3943c001f986fcb28fbde391ff09c4c3920f34857b61d139bfcdf1ca9e50f8"), looks := true }, kinds := [], alts := [], laidByText := true, laidKinds := [.data, .data, .data, .sentinel, .sentinel], laidTests := true, laidLooks := .later }
def ParseBackCardSaid : Prop := Claim7.holds Tryz.pinned (.plain (OpenSpec.ofChange parseBackSpec)) parseBackCard

/-- THE TIED CARD OF 'basculelaw08.ParseInner'. -/
def parseInnerCard : Claim7 := { stood := { row := parseInnerRow, standIns := [], harness := (true, "8a3943c001f986fcb28fbde391ff09c4c3920f34857b61d139bfcdf1ca9e50f8"), looks := true }, kinds := [], alts := [], laidByText := true, laidKinds := [.data, .data, .data, .sentinel, .sentinel], laidTests := true, laidLooks := .later }
def ParseInnerCardSaid : Prop := Claim7.holds Tryz.pinned (.plain (OpenSpec.ofChange parseInnerSpec)) parseInnerCard

/-- THE TIED CARD OF 'basculelaw08.ParsePairs'. -/
def parsePairsCard : Claim7 := { stood := { row := parsePairsRow, standIns := [], harness := (true, "8a3943c001f986fcb28fbde391ff09c4c3920f34857b61d139bfcdf1ca9e50f8"), looks := true }, kinds := [], alts := [], laidByText := true, laidKinds := [.data, .data, .data, .sentinel, .sentinel], laidTests := true, laidLooks := .later }
def ParsePairsCardSaid : Prop := Claim7.holds Tryz.pinned (.plain (OpenSpec.ofChange parsePairsSpec)) parsePairsCard

/-- THE SECOND FORM's CARD OF 'basculelaw08.ParseTexts'. -/
def parseTextsUptoCard : Claim7 := { stood := { row := parseTextsUptoRow, standIns := [], harness := (true, "8a3943c001f986fcb28fbde391ff09c4c3920f34857b61d139bfcdf1ca9e50f8"), looks := true }, kinds := [], alts := [], laidByText := true, laidKinds := [.data, .data, .data, .sentinel, .sentinel], laidTests := true, laidLooks := .later }
def ParseTextsUptoCardSaid : Prop := Claim7.holds Tryz.pinned (.plain (OpenSpec.upto parseTextsSpec)) parseTextsUptoCard

/-- THE SECOND FORM's CARD OF 'basculelaw08.ParseBack'. -/
def parseBackUptoCard : Claim7 := { stood := { row := parseBackUptoRow, standIns := [], harness := (true, "8a3943c001f986fcb28fbde391ff09c4c3920f34857b61d139bfcdf1ca9e50f8"), looks := true }, kinds := [], alts := [], laidByText := true, laidKinds := [.data, .data, .data, .sentinel, .sentinel], laidTests := true, laidLooks := .later }
def ParseBackUptoCardSaid : Prop := Claim7.holds Tryz.pinned (.plain (OpenSpec.upto parseBackSpec)) parseBackUptoCard

/-- THE SECOND FORM's CARD OF 'basculelaw08.ParseInner'. -/
def parseInnerUptoCard : Claim7 := { stood := { row := parseInnerUptoRow, standIns := [], harness := (true, "8a3943c001f986fcb28fbde391ff09c4c3920f34857b61d139bfcdf1ca9e50f8"), looks := true }, kinds := [], alts := [], laidByText := true, laidKinds := [.data, .data, .data, .sentinel, .sentinel], laidTests := true, laidLooks := .later }
def ParseInnerUptoCardSaid : Prop := Claim7.holds Tryz.pinned (.plain (OpenSpec.upto parseInnerSpec)) parseInnerUptoCard

/-- THE SECOND FORM's CARD OF 'basculelaw08.ParsePairs'. -/
def parsePairsUptoCard : Claim7 := { stood := { row := parsePairsUptoRow, standIns := [], harness := (true, "8a3943c001f986fcb28fbde391ff09c4c3920f34857b61d139bfcdf1ca9e50f8"), looks := true }, kinds := [], alts := [], laidByText := true, laidKinds := [.data, .data, .data, .sentinel, .sentinel], laidTests := true, laidLooks := .later }
def ParsePairsUptoCardSaid : Prop := Claim7.holds Tryz.pinned (.plain (OpenSpec.upto parsePairsSpec)) parsePairsUptoCard
end Rows
end Go.Proofs.YtaaaaggmhjhkkaaGreatDoor
