/-
  DERIVED. GIVEN WITH THE SEED: THE CARDS: each row of YtblgfmjlajhipaaGreatDoorRows.lean that lists a variable, with what it lists TIED to the program's text (the seventh form; the later family's looks); each row that meets fmt, with fmt's text TOLD by the authors' own Lean function (tested against real Go, not proved from fmt's source: count such statements apart). THE CARD IS WHAT COUNTS. Prove the row's statement (the work); the ties are given (YtblgfmjlajhipaaGreatDoorTie.lean); close each card by the builder's one call (the guide's Derived/Test/ToyasCard.lean, 'card_holds'). Laid BY PROGRAM, IN A SANDBOX (cutbox-door.mjs). By AI agents, Wed Nov 11 2026. No macro, syntax, notation, axiom, sorry.
-/
import Derived.Test.YtblgfmjlajhipaaGreatDoorRows
import GoSem.ClaimSeven
namespace Go.Proofs.YtblgfmjlajhipaaGreatDoor
namespace Rows

/-- THE TIED CARD OF 'tithinglaw06.RateChecks'. -/
def rateChecksCard : Claim7 := { stood := { row := rateChecksRow, standIns := [], harness := (true, "093b5afe5483c9b1b0060407c090d874e2c3e7cad845655f2c8d3466eb564125"), looks := false }, kinds := [], alts := [], laidByText := true, laidKinds := [.data, .pinned], laidTests := true, laidLooks := .later }
def RateChecksCardSaid : Prop := Claim7.holds Tryz.pinned (.plain (OpenSpec.ofChange rateChecksSpec)) rateChecksCard

/-- THE TIED CARD OF 'tithinglaw06.RateAt'. -/
def rateAtCard : Claim7 := { stood := { row := rateAtRow, standIns := [], harness := (true, "093b5afe5483c9b1b0060407c090d874e2c3e7cad845655f2c8d3466eb564125"), looks := false }, kinds := [], alts := [], laidByText := true, laidKinds := [.data, .pinned], laidTests := true, laidLooks := .later }
def RateAtCardSaid : Prop := Claim7.holds Tryz.pinned (.plain (OpenSpec.ofChange rateAtSpec)) rateAtCard

/-- THE TIED CARD OF 'tithinglaw06.RatePieces'. -/
def ratePiecesCard : Claim7 := { stood := { row := ratePiecesRow, standIns := [], harness := (true, "093b5afe5483c9b1b0060407c090d874e2c3e7cad845655f2c8d3466eb564125"), looks := false }, kinds := [], alts := [], laidByText := true, laidKinds := [.data, .pinned], laidTests := true, laidLooks := .later }
def RatePiecesCardSaid : Prop := Claim7.holds Tryz.pinned (.plain (OpenSpec.ofChange ratePiecesSpec)) ratePiecesCard

/-- THE TIED CARD OF 'tithinglaw06.RateRises'. -/
def rateRisesCard : Claim7 := { stood := { row := rateRisesRow, standIns := [], harness := (true, "093b5afe5483c9b1b0060407c090d874e2c3e7cad845655f2c8d3466eb564125"), looks := false }, kinds := [], alts := [], laidByText := true, laidKinds := [.data, .pinned], laidTests := true, laidLooks := .later }
def RateRisesCardSaid : Prop := Claim7.holds Tryz.pinned (.plain (OpenSpec.ofChange rateRisesSpec)) rateRisesCard

/-- THE TIED CARD OF 'tithinglaw06.RateBack'. -/
def rateBackCard : Claim7 := { stood := { row := rateBackRow, standIns := [], harness := (true, "093b5afe5483c9b1b0060407c090d874e2c3e7cad845655f2c8d3466eb564125"), looks := false }, kinds := [], alts := [], laidByText := true, laidKinds := [.data, .pinned], laidTests := true, laidLooks := .later }
def RateBackCardSaid : Prop := Claim7.holds Tryz.pinned (.plain (OpenSpec.ofChange rateBackSpec)) rateBackCard

/-- THE TIED CARD OF 'tithinglaw06.RateNorms'. -/
def rateNormsCard : Claim7 := { stood := { row := rateNormsRow, standIns := [], harness := (true, "093b5afe5483c9b1b0060407c090d874e2c3e7cad845655f2c8d3466eb564125"), looks := false }, kinds := [], alts := [], laidByText := true, laidKinds := [.data, .pinned], laidTests := true, laidLooks := .later }
def RateNormsCardSaid : Prop := Claim7.holds Tryz.pinned (.plain (OpenSpec.ofChange rateNormsSpec)) rateNormsCard

/-- THE TIED CARD OF 'tithinglaw06.RateForce'. -/
def rateForceCard : Claim7 := { stood := { row := rateForceRow, standIns := [], harness := (true, "093b5afe5483c9b1b0060407c090d874e2c3e7cad845655f2c8d3466eb564125"), looks := false }, kinds := [], alts := [], laidByText := true, laidKinds := [.data, .pinned], laidTests := true, laidLooks := .later }
def RateForceCardSaid : Prop := Claim7.holds Tryz.pinned (.plain (OpenSpec.ofChange rateForceSpec)) rateForceCard

/-- THE TIED CARD OF 'tithinglaw06.RateOvers'. -/
def rateOversCard : Claim7 := { stood := { row := rateOversRow, standIns := [], harness := (true, "093b5afe5483c9b1b0060407c090d874e2c3e7cad845655f2c8d3466eb564125"), looks := false }, kinds := [], alts := [], laidByText := true, laidKinds := [.data, .pinned], laidTests := true, laidLooks := .later }
def RateOversCardSaid : Prop := Claim7.holds Tryz.pinned (.plain (OpenSpec.ofChange rateOversSpec)) rateOversCard

/-- THE TIED CARD OF 'tithinglaw06.RateSums'. -/
def rateSumsCard : Claim7 := { stood := { row := rateSumsRow, standIns := [], harness := (true, "093b5afe5483c9b1b0060407c090d874e2c3e7cad845655f2c8d3466eb564125"), looks := false }, kinds := [], alts := [], laidByText := true, laidKinds := [.data, .pinned], laidTests := true, laidLooks := .later }
def RateSumsCardSaid : Prop := Claim7.holds Tryz.pinned (.plain (OpenSpec.ofChange rateSumsSpec)) rateSumsCard

/-- THE SECOND FORM's CARD OF 'tithinglaw06.RateChecks'. -/
def rateChecksUptoCard : Claim7 := { stood := { row := rateChecksUptoRow, standIns := [], harness := (true, "093b5afe5483c9b1b0060407c090d874e2c3e7cad845655f2c8d3466eb564125"), looks := false }, kinds := [], alts := [], laidByText := true, laidKinds := [.data, .pinned], laidTests := true, laidLooks := .later }
def RateChecksUptoCardSaid : Prop := Claim7.holds Tryz.pinned (.plain (OpenSpec.upto rateChecksSpec)) rateChecksUptoCard

/-- THE SECOND FORM's CARD OF 'tithinglaw06.RateAt'. -/
def rateAtUptoCard : Claim7 := { stood := { row := rateAtUptoRow, standIns := [], harness := (true, "093b5afe5483c9b1b0060407c090d874e2c3e7cad845655f2c8d3466eb564125"), looks := false }, kinds := [], alts := [], laidByText := true, laidKinds := [.data, .pinned], laidTests := true, laidLooks := .later }
def RateAtUptoCardSaid : Prop := Claim7.holds Tryz.pinned (.plain (OpenSpec.upto rateAtSpec)) rateAtUptoCard

/-- THE SECOND FORM's CARD OF 'tithinglaw06.RatePieces'. -/
def ratePiecesUptoCard : Claim7 := { stood := { row := ratePiecesUptoRow, standIns := [], harness := (true, "093b5afe5483c9b1b0060407c090d874e2c3e7cad845655f2c8d3466eb564125"), looks := false }, kinds := [], alts := [], laidByText := true, laidKinds := [.data, .pinned], laidTests := true, laidLooks := .later }
def RatePiecesUptoCardSaid : Prop := Claim7.holds Tryz.pinned (.plain (OpenSpec.upto ratePiecesSpec)) ratePiecesUptoCard

/-- THE SECOND FORM's CARD OF 'tithinglaw06.RateRises'. -/
def rateRisesUptoCard : Claim7 := { stood := { row := rateRisesUptoRow, standIns := [], harness := (true, "093b5afe5483c9b1b0060407c090d874e2c3e7cad845655f2c8d3466eb564125"), looks := false }, kinds := [], alts := [], laidByText := true, laidKinds := [.data, .pinned], laidTests := true, laidLooks := .later }
def RateRisesUptoCardSaid : Prop := Claim7.holds Tryz.pinned (.plain (OpenSpec.upto rateRisesSpec)) rateRisesUptoCard

/-- THE SECOND FORM's CARD OF 'tithinglaw06.RateBack'. -/
def rateBackUptoCard : Claim7 := { stood := { row := rateBackUptoRow, standIns := [], harness := (true, "093b5afe5483c9b1b0060407c090d874e2c3e7cad845655f2c8d3466eb564125"), looks := false }, kinds := [], alts := [], laidByText := true, laidKinds := [.data, .pinned], laidTests := true, laidLooks := .later }
def RateBackUptoCardSaid : Prop := Claim7.holds Tryz.pinned (.plain (OpenSpec.upto rateBackSpec)) rateBackUptoCard

/-- THE SECOND FORM's CARD OF 'tithinglaw06.RateNorms'. -/
def rateNormsUptoCard : Claim7 := { stood := { row := rateNormsUptoRow, standIns := [], harness := (true, "093b5afe5483c9b1b0060407c090d874e2c3e7cad845655f2c8d3466eb564125"), looks := false }, kinds := [], alts := [], laidByText := true, laidKinds := [.data, .pinned], laidTests := true, laidLooks := .later }
def RateNormsUptoCardSaid : Prop := Claim7.holds Tryz.pinned (.plain (OpenSpec.upto rateNormsSpec)) rateNormsUptoCard

/-- THE SECOND FORM's CARD OF 'tithinglaw06.RateForce'. -/
def rateForceUptoCard : Claim7 := { stood := { row := rateForceUptoRow, standIns := [], harness := (true, "093b5afe5483c9b1b0060407c090d874e2c3e7cad845655f2c8d3466eb564125"), looks := false }, kinds := [], alts := [], laidByText := true, laidKinds := [.data, .pinned], laidTests := true, laidLooks := .later }
def RateForceUptoCardSaid : Prop := Claim7.holds Tryz.pinned (.plain (OpenSpec.upto rateForceSpec)) rateForceUptoCard

/-- THE SECOND FORM's CARD OF 'tithinglaw06.RateOvers'. -/
def rateOversUptoCard : Claim7 := { stood := { row := rateOversUptoRow, standIns := [], harness := (true, "093b5afe5483c9b1b0060407c090d874e2c3e7cad845655f2c8d3466eb564125"), looks := false }, kinds := [], alts := [], laidByText := true, laidKinds := [.data, .pinned], laidTests := true, laidLooks := .later }
def RateOversUptoCardSaid : Prop := Claim7.holds Tryz.pinned (.plain (OpenSpec.upto rateOversSpec)) rateOversUptoCard

/-- THE SECOND FORM's CARD OF 'tithinglaw06.RateSums'. -/
def rateSumsUptoCard : Claim7 := { stood := { row := rateSumsUptoRow, standIns := [], harness := (true, "093b5afe5483c9b1b0060407c090d874e2c3e7cad845655f2c8d3466eb564125"), looks := false }, kinds := [], alts := [], laidByText := true, laidKinds := [.data, .pinned], laidTests := true, laidLooks := .later }
def RateSumsUptoCardSaid : Prop := Claim7.holds Tryz.pinned (.plain (OpenSpec.upto rateSumsSpec)) rateSumsUptoCard
end Rows
end Go.Proofs.YtblgfmjlajhipaaGreatDoor
