/-
  DERIVED. GIVEN WITH THE SEED: THE CARDS: each row of YtakbkbmjeanboaaGreatDoorRows.lean that lists a variable, with what it lists TIED to the program's text (the seventh form; the later family's looks); each row that meets fmt, with fmt's text TOLD by the authors' own Lean function (tested against real Go, not proved from fmt's source: count such statements apart). THE CARD IS WHAT COUNTS. Prove the row's statement (the work); the ties are given (YtakbkbmjeanboaaGreatDoorTie.lean); close each card by the builder's one call (the guide's Derived/Test/ToyasCard.lean, 'card_holds'). Laid BY PROGRAM, IN A SANDBOX (cutbox-door.mjs). By AI agents, Wed Nov 11 2026. No macro, syntax, notation, axiom, sorry.
-/
import Derived.Test.YtakbkbmjeanboaaGreatDoorRows
import GoSem.ClaimSeven
namespace Go.Proofs.YtakbkbmjeanboaaGreatDoor
namespace Rows

/-- THE TIED CARD OF 'tithinglaw01.NatQuos'. -/
def natQuosCard : Claim7 := { stood := { row := natQuosRow, standIns := [], harness := (true, "d04a144ab633a848e7b8f2c6f4373735745c265b1fe0297e03fbf76b2c442c69"), looks := true }, kinds := [], alts := [], laidByText := true, laidKinds := [.data, .data, .data, .data, .sentinel, .sentinel, .pinned], laidTests := true, laidLooks := .later }
def NatQuosCardSaid : Prop := Claim7.holds Tryz.pinned (.plain (OpenSpec.ofChange natQuosSpec)) natQuosCard

/-- THE TIED CARD OF 'tithinglaw01.NatGcds'. -/
def natGcdsCard : Claim7 := { stood := { row := natGcdsRow, standIns := [], harness := (true, "d04a144ab633a848e7b8f2c6f4373735745c265b1fe0297e03fbf76b2c442c69"), looks := true }, kinds := [], alts := [], laidByText := true, laidKinds := [.data, .data, .data, .data, .sentinel, .sentinel, .pinned], laidTests := true, laidLooks := .later }
def NatGcdsCardSaid : Prop := Claim7.holds Tryz.pinned (.plain (OpenSpec.ofChange natGcdsSpec)) natGcdsCard

/-- THE TIED CARD OF 'tithinglaw01.NatPows'. -/
def natPowsCard : Claim7 := { stood := { row := natPowsRow, standIns := [], harness := (true, "d04a144ab633a848e7b8f2c6f4373735745c265b1fe0297e03fbf76b2c442c69"), looks := true }, kinds := [], alts := [], laidByText := true, laidKinds := [.data, .data, .data, .data, .sentinel, .sentinel, .pinned], laidTests := true, laidLooks := .later }
def NatPowsCardSaid : Prop := Claim7.holds Tryz.pinned (.plain (OpenSpec.ofChange natPowsSpec)) natPowsCard

/-- THE TIED CARD OF 'tithinglaw01.NatTexts'. -/
def natTextsCard : Claim7 := { stood := { row := natTextsRow, standIns := [], harness := (true, "d04a144ab633a848e7b8f2c6f4373735745c265b1fe0297e03fbf76b2c442c69"), looks := true }, kinds := [], alts := [], laidByText := true, laidKinds := [.data, .data, .data, .data, .sentinel, .sentinel, .pinned], laidTests := true, laidLooks := .later }
def NatTextsCardSaid : Prop := Claim7.holds Tryz.pinned (.plain (OpenSpec.ofChange natTextsSpec)) natTextsCard

/-- THE TIED CARD OF 'tithinglaw01.NatProducts'. -/
def natProductsCard : Claim7 := { stood := { row := natProductsRow, standIns := [], harness := (true, "d04a144ab633a848e7b8f2c6f4373735745c265b1fe0297e03fbf76b2c442c69"), looks := true }, kinds := [], alts := [], laidByText := true, laidKinds := [.data, .data, .data, .data, .sentinel, .sentinel, .pinned], laidTests := true, laidLooks := .later }
def NatProductsCardSaid : Prop := Claim7.holds Tryz.pinned (.plain (OpenSpec.ofChange natProductsSpec)) natProductsCard

/-- THE TIED CARD OF 'tithinglaw01.NatInts'. -/
def natIntsCard : Claim7 := { stood := { row := natIntsRow, standIns := [], harness := (true, "d04a144ab633a848e7b8f2c6f4373735745c265b1fe0297e03fbf76b2c442c69"), looks := true }, kinds := [], alts := [], laidByText := true, laidKinds := [.data, .data, .data, .data, .sentinel, .sentinel, .pinned], laidTests := true, laidLooks := .later }
def NatIntsCardSaid : Prop := Claim7.holds Tryz.pinned (.plain (OpenSpec.ofChange natIntsSpec)) natIntsCard

/-- THE TIED CARD OF 'tithinglaw01.NatRing'. -/
def natRingCard : Claim7 := { stood := { row := natRingRow, standIns := [], harness := (true, "d04a144ab633a848e7b8f2c6f4373735745c265b1fe0297e03fbf76b2c442c69"), looks := true }, kinds := [], alts := [], laidByText := true, laidKinds := [.data, .data, .data, .data, .sentinel, .sentinel, .pinned], laidTests := true, laidLooks := .later }
def NatRingCardSaid : Prop := Claim7.holds Tryz.pinned (.plain (OpenSpec.ofChange natRingSpec)) natRingCard

/-- THE TIED CARD OF 'tithinglaw01.NatFermat'. -/
def natFermatCard : Claim7 := { stood := { row := natFermatRow, standIns := [], harness := (true, "d04a144ab633a848e7b8f2c6f4373735745c265b1fe0297e03fbf76b2c442c69"), looks := true }, kinds := [], alts := [], laidByText := true, laidKinds := [.data, .data, .data, .data, .sentinel, .sentinel, .pinned], laidTests := true, laidLooks := .later }
def NatFermatCardSaid : Prop := Claim7.holds Tryz.pinned (.plain (OpenSpec.ofChange natFermatSpec)) natFermatCard

/-- THE TIED CARD OF 'tithinglaw01.NatSums'. -/
def natSumsCard : Claim7 := { stood := { row := natSumsRow, standIns := [], harness := (true, "d04a144ab633a848e7b8f2c6f4373735745c265b1fe0297e03fbf76b2c442c69"), looks := true }, kinds := [], alts := [], laidByText := true, laidKinds := [.data, .data, .data, .data, .sentinel, .sentinel, .pinned], laidTests := true, laidLooks := .later }
def NatSumsCardSaid : Prop := Claim7.holds Tryz.pinned (.plain (OpenSpec.ofChange natSumsSpec)) natSumsCard

/-- THE TIED CARD OF 'tithinglaw01.NatDivides'. -/
def natDividesCard : Claim7 := { stood := { row := natDividesRow, standIns := [], harness := (true, "d04a144ab633a848e7b8f2c6f4373735745c265b1fe0297e03fbf76b2c442c69"), looks := true }, kinds := [], alts := [], laidByText := true, laidKinds := [.data, .data, .data, .data, .sentinel, .sentinel, .pinned], laidTests := true, laidLooks := .later }
def NatDividesCardSaid : Prop := Claim7.holds Tryz.pinned (.plain (OpenSpec.ofChange natDividesSpec)) natDividesCard

/-- THE SECOND FORM's CARD OF 'tithinglaw01.NatQuos'. -/
def natQuosUptoCard : Claim7 := { stood := { row := natQuosUptoRow, standIns := [], harness := (true, "d04a144ab633a848e7b8f2c6f4373735745c265b1fe0297e03fbf76b2c442c69"), looks := true }, kinds := [], alts := [], laidByText := true, laidKinds := [.data, .data, .data, .data, .sentinel, .sentinel, .pinned], laidTests := true, laidLooks := .later }
def NatQuosUptoCardSaid : Prop := Claim7.holds Tryz.pinned (.plain (OpenSpec.upto natQuosSpec)) natQuosUptoCard

/-- THE SECOND FORM's CARD OF 'tithinglaw01.NatGcds'. -/
def natGcdsUptoCard : Claim7 := { stood := { row := natGcdsUptoRow, standIns := [], harness := (true, "d04a144ab633a848e7b8f2c6f4373735745c265b1fe0297e03fbf76b2c442c69"), looks := true }, kinds := [], alts := [], laidByText := true, laidKinds := [.data, .data, .data, .data, .sentinel, .sentinel, .pinned], laidTests := true, laidLooks := .later }
def NatGcdsUptoCardSaid : Prop := Claim7.holds Tryz.pinned (.plain (OpenSpec.upto natGcdsSpec)) natGcdsUptoCard

/-- THE SECOND FORM's CARD OF 'tithinglaw01.NatPows'. -/
def natPowsUptoCard : Claim7 := { stood := { row := natPowsUptoRow, standIns := [], harness := (true, "d04a144ab633a848e7b8f2c6f4373735745c265b1fe0297e03fbf76b2c442c69"), looks := true }, kinds := [], alts := [], laidByText := true, laidKinds := [.data, .data, .data, .data, .sentinel, .sentinel, .pinned], laidTests := true, laidLooks := .later }
def NatPowsUptoCardSaid : Prop := Claim7.holds Tryz.pinned (.plain (OpenSpec.upto natPowsSpec)) natPowsUptoCard

/-- THE SECOND FORM's CARD OF 'tithinglaw01.NatTexts'. -/
def natTextsUptoCard : Claim7 := { stood := { row := natTextsUptoRow, standIns := [], harness := (true, "d04a144ab633a848e7b8f2c6f4373735745c265b1fe0297e03fbf76b2c442c69"), looks := true }, kinds := [], alts := [], laidByText := true, laidKinds := [.data, .data, .data, .data, .sentinel, .sentinel, .pinned], laidTests := true, laidLooks := .later }
def NatTextsUptoCardSaid : Prop := Claim7.holds Tryz.pinned (.plain (OpenSpec.upto natTextsSpec)) natTextsUptoCard

/-- THE SECOND FORM's CARD OF 'tithinglaw01.NatProducts'. -/
def natProductsUptoCard : Claim7 := { stood := { row := natProductsUptoRow, standIns := [], harness := (true, "d04a144ab633a848e7b8f2c6f4373735745c265b1fe0297e03fbf76b2c442c69"), looks := true }, kinds := [], alts := [], laidByText := true, laidKinds := [.data, .data, .data, .data, .sentinel, .sentinel, .pinned], laidTests := true, laidLooks := .later }
def NatProductsUptoCardSaid : Prop := Claim7.holds Tryz.pinned (.plain (OpenSpec.upto natProductsSpec)) natProductsUptoCard

/-- THE SECOND FORM's CARD OF 'tithinglaw01.NatInts'. -/
def natIntsUptoCard : Claim7 := { stood := { row := natIntsUptoRow, standIns := [], harness := (true, "d04a144ab633a848e7b8f2c6f4373735745c265b1fe0297e03fbf76b2c442c69"), looks := true }, kinds := [], alts := [], laidByText := true, laidKinds := [.data, .data, .data, .data, .sentinel, .sentinel, .pinned], laidTests := true, laidLooks := .later }
def NatIntsUptoCardSaid : Prop := Claim7.holds Tryz.pinned (.plain (OpenSpec.upto natIntsSpec)) natIntsUptoCard

/-- THE SECOND FORM's CARD OF 'tithinglaw01.NatRing'. -/
def natRingUptoCard : Claim7 := { stood := { row := natRingUptoRow, standIns := [], harness := (true, "d04a144ab633a848e7b8f2c6f4373735745c265b1fe0297e03fbf76b2c442c69"), looks := true }, kinds := [], alts := [], laidByText := true, laidKinds := [.data, .data, .data, .data, .sentinel, .sentinel, .pinned], laidTests := true, laidLooks := .later }
def NatRingUptoCardSaid : Prop := Claim7.holds Tryz.pinned (.plain (OpenSpec.upto natRingSpec)) natRingUptoCard

/-- THE SECOND FORM's CARD OF 'tithinglaw01.NatFermat'. -/
def natFermatUptoCard : Claim7 := { stood := { row := natFermatUptoRow, standIns := [], harness := (true, "d04a144ab633a848e7b8f2c6f4373735745c265b1fe0297e03fbf76b2c442c69"), looks := true }, kinds := [], alts := [], laidByText := true, laidKinds := [.data, .data, .data, .data, .sentinel, .sentinel, .pinned], laidTests := true, laidLooks := .later }
def NatFermatUptoCardSaid : Prop := Claim7.holds Tryz.pinned (.plain (OpenSpec.upto natFermatSpec)) natFermatUptoCard

/-- THE SECOND FORM's CARD OF 'tithinglaw01.NatSums'. -/
def natSumsUptoCard : Claim7 := { stood := { row := natSumsUptoRow, standIns := [], harness := (true, "d04a144ab633a848e7b8f2c6f4373735745c265b1fe0297e03fbf76b2c442c69"), looks := true }, kinds := [], alts := [], laidByText := true, laidKinds := [.data, .data, .data, .data, .sentinel, .sentinel, .pinned], laidTests := true, laidLooks := .later }
def NatSumsUptoCardSaid : Prop := Claim7.holds Tryz.pinned (.plain (OpenSpec.upto natSumsSpec)) natSumsUptoCard

/-- THE SECOND FORM's CARD OF 'tithinglaw01.NatDivides'. -/
def natDividesUptoCard : Claim7 := { stood := { row := natDividesUptoRow, standIns := [], harness := (true, "d04a144ab633a848e7b8f2c6f4373735745c265b1fe0297e03fbf76b2c442c69"), looks := true }, kinds := [], alts := [], laidByText := true, laidKinds := [.data, .data, .data, .data, .sentinel, .sentinel, .pinned], laidTests := true, laidLooks := .later }
def NatDividesUptoCardSaid : Prop := Claim7.holds Tryz.pinned (.plain (OpenSpec.upto natDividesSpec)) natDividesUptoCard
end Rows
end Go.Proofs.YtakbkbmjeanboaaGreatDoor
