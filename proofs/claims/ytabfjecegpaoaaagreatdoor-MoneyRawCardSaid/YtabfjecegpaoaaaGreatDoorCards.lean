/-
  DERIVED. GIVEN WITH THE SEED: THE CARDS: each row of YtabfjecegpaoaaaGreatDoorRows.lean that lists a variable, with what it lists TIED to the program's text (the seventh form; the later family's looks); each row that meets fmt, with fmt's text TOLD by the authors' own Lean function (tested against real Go, not proved from fmt's source: count such statements apart). THE CARD IS WHAT COUNTS. Prove the row's statement (the work); the ties are given (YtabfjecegpaoaaaGreatDoorTie.lean); close each card by the builder's one call (the guide's Derived/Test/ToyasCard.lean, 'card_holds'). Laid BY PROGRAM, IN A SANDBOX (cutbox-door.mjs). By AI agents, Wed Nov 11 2026. No macro, syntax, notation, axiom, sorry.
-/
import Derived.Test.YtabfjecegpaoaaaGreatDoorRows
import GoSem.ClaimSeven
namespace Go.Proofs.YtabfjecegpaoaaaGreatDoor
namespace Rows

/-- THE TIED CARD OF 'tithinglaw04.MoneyRounds'. -/
def moneyRoundsCard : Claim7 := { stood := { row := moneyRoundsRow, standIns := [], harness := (true, "f388b49f1bdf6c99ecbc34c3076287eda714bf5e20249a731fb496dc4c75224c"), looks := true }, kinds := [], alts := [], laidByText := true, laidKinds := [.data, .data, .data, .data, .sentinel, .sentinel, .pinned], laidTests := true, laidLooks := .later }
def MoneyRoundsCardSaid : Prop := Claim7.holds Tryz.pinned (.plain (OpenSpec.ofChange moneyRoundsSpec)) moneyRoundsCard

/-- THE TIED CARD OF 'tithinglaw04.MoneyRaw'. -/
def moneyRawCard : Claim7 := { stood := { row := moneyRawRow, standIns := [], harness := (true, "f388b49f1bdf6c99ecbc34c3076287eda714bf5e20249a731fb496dc4c75224c"), looks := true }, kinds := [], alts := [], laidByText := true, laidKinds := [.data, .data, .data, .data, .sentinel, .sentinel, .pinned], laidTests := true, laidLooks := .later }
def MoneyRawCardSaid : Prop := Claim7.holds Tryz.pinned (.plain (OpenSpec.ofChange moneyRawSpec)) moneyRawCard

/-- THE TIED CARD OF 'tithinglaw04.MoneyBetween'. -/
def moneyBetweenCard : Claim7 := { stood := { row := moneyBetweenRow, standIns := [], harness := (true, "f388b49f1bdf6c99ecbc34c3076287eda714bf5e20249a731fb496dc4c75224c"), looks := true }, kinds := [], alts := [], laidByText := true, laidKinds := [.data, .data, .data, .data, .sentinel, .sentinel, .pinned], laidTests := true, laidLooks := .later }
def MoneyBetweenCardSaid : Prop := Claim7.holds Tryz.pinned (.plain (OpenSpec.ofChange moneyBetweenSpec)) moneyBetweenCard

/-- THE TIED CARD OF 'tithinglaw04.MoneyOrder'. -/
def moneyOrderCard : Claim7 := { stood := { row := moneyOrderRow, standIns := [], harness := (true, "f388b49f1bdf6c99ecbc34c3076287eda714bf5e20249a731fb496dc4c75224c"), looks := true }, kinds := [], alts := [], laidByText := true, laidKinds := [.data, .data, .data, .data, .sentinel, .sentinel, .pinned], laidTests := true, laidLooks := .later }
def MoneyOrderCardSaid : Prop := Claim7.holds Tryz.pinned (.plain (OpenSpec.ofChange moneyOrderSpec)) moneyOrderCard

/-- THE TIED CARD OF 'tithinglaw04.MoneyCents'. -/
def moneyCentsCard : Claim7 := { stood := { row := moneyCentsRow, standIns := [], harness := (true, "f388b49f1bdf6c99ecbc34c3076287eda714bf5e20249a731fb496dc4c75224c"), looks := true }, kinds := [], alts := [], laidByText := true, laidKinds := [.data, .data, .data, .data, .sentinel, .sentinel, .pinned], laidTests := true, laidLooks := .later }
def MoneyCentsCardSaid : Prop := Claim7.holds Tryz.pinned (.plain (OpenSpec.ofChange moneyCentsSpec)) moneyCentsCard

/-- THE TIED CARD OF 'tithinglaw04.MoneyTexts'. -/
def moneyTextsCard : Claim7 := { stood := { row := moneyTextsRow, standIns := [], harness := (true, "f388b49f1bdf6c99ecbc34c3076287eda714bf5e20249a731fb496dc4c75224c"), looks := true }, kinds := [], alts := [], laidByText := true, laidKinds := [.data, .data, .data, .data, .sentinel, .sentinel, .pinned], laidTests := true, laidLooks := .later }
def MoneyTextsCardSaid : Prop := Claim7.holds Tryz.pinned (.plain (OpenSpec.ofChange moneyTextsSpec)) moneyTextsCard

/-- THE TIED CARD OF 'tithinglaw04.MoneySplits'. -/
def moneySplitsCard : Claim7 := { stood := { row := moneySplitsRow, standIns := [], harness := (true, "f388b49f1bdf6c99ecbc34c3076287eda714bf5e20249a731fb496dc4c75224c"), looks := true }, kinds := [], alts := [], laidByText := true, laidKinds := [.data, .data, .data, .data, .sentinel, .sentinel, .pinned], laidTests := true, laidLooks := .later }
def MoneySplitsCardSaid : Prop := Claim7.holds Tryz.pinned (.plain (OpenSpec.ofChange moneySplitsSpec)) moneySplitsCard

/-- THE TIED CARD OF 'tithinglaw04.MoneyParts'. -/
def moneyPartsCard : Claim7 := { stood := { row := moneyPartsRow, standIns := [], harness := (true, "f388b49f1bdf6c99ecbc34c3076287eda714bf5e20249a731fb496dc4c75224c"), looks := true }, kinds := [], alts := [], laidByText := true, laidKinds := [.data, .data, .data, .data, .sentinel, .sentinel, .pinned], laidTests := true, laidLooks := .later }
def MoneyPartsCardSaid : Prop := Claim7.holds Tryz.pinned (.plain (OpenSpec.ofChange moneyPartsSpec)) moneyPartsCard

/-- THE SECOND FORM's CARD OF 'tithinglaw04.MoneyRounds'. -/
def moneyRoundsUptoCard : Claim7 := { stood := { row := moneyRoundsUptoRow, standIns := [], harness := (true, "f388b49f1bdf6c99ecbc34c3076287eda714bf5e20249a731fb496dc4c75224c"), looks := true }, kinds := [], alts := [], laidByText := true, laidKinds := [.data, .data, .data, .data, .sentinel, .sentinel, .pinned], laidTests := true, laidLooks := .later }
def MoneyRoundsUptoCardSaid : Prop := Claim7.holds Tryz.pinned (.plain (OpenSpec.upto moneyRoundsSpec)) moneyRoundsUptoCard

/-- THE SECOND FORM's CARD OF 'tithinglaw04.MoneyRaw'. -/
def moneyRawUptoCard : Claim7 := { stood := { row := moneyRawUptoRow, standIns := [], harness := (true, "f388b49f1bdf6c99ecbc34c3076287eda714bf5e20249a731fb496dc4c75224c"), looks := true }, kinds := [], alts := [], laidByText := true, laidKinds := [.data, .data, .data, .data, .sentinel, .sentinel, .pinned], laidTests := true, laidLooks := .later }
def MoneyRawUptoCardSaid : Prop := Claim7.holds Tryz.pinned (.plain (OpenSpec.upto moneyRawSpec)) moneyRawUptoCard

/-- THE SECOND FORM's CARD OF 'tithinglaw04.MoneyBetween'. -/
def moneyBetweenUptoCard : Claim7 := { stood := { row := moneyBetweenUptoRow, standIns := [], harness := (true, "f388b49f1bdf6c99ecbc34c3076287eda714bf5e20249a731fb496dc4c75224c"), looks := true }, kinds := [], alts := [], laidByText := true, laidKinds := [.data, .data, .data, .data, .sentinel, .sentinel, .pinned], laidTests := true, laidLooks := .later }
def MoneyBetweenUptoCardSaid : Prop := Claim7.holds Tryz.pinned (.plain (OpenSpec.upto moneyBetweenSpec)) moneyBetweenUptoCard

/-- THE SECOND FORM's CARD OF 'tithinglaw04.MoneyOrder'. -/
def moneyOrderUptoCard : Claim7 := { stood := { row := moneyOrderUptoRow, standIns := [], harness := (true, "f388b49f1bdf6c99ecbc34c3076287eda714bf5e20249a731fb496dc4c75224c"), looks := true }, kinds := [], alts := [], laidByText := true, laidKinds := [.data, .data, .data, .data, .sentinel, .sentinel, .pinned], laidTests := true, laidLooks := .later }
def MoneyOrderUptoCardSaid : Prop := Claim7.holds Tryz.pinned (.plain (OpenSpec.upto moneyOrderSpec)) moneyOrderUptoCard

/-- THE SECOND FORM's CARD OF 'tithinglaw04.MoneyCents'. -/
def moneyCentsUptoCard : Claim7 := { stood := { row := moneyCentsUptoRow, standIns := [], harness := (true, "f388b49f1bdf6c99ecbc34c3076287eda714bf5e20249a731fb496dc4c75224c"), looks := true }, kinds := [], alts := [], laidByText := true, laidKinds := [.data, .data, .data, .data, .sentinel, .sentinel, .pinned], laidTests := true, laidLooks := .later }
def MoneyCentsUptoCardSaid : Prop := Claim7.holds Tryz.pinned (.plain (OpenSpec.upto moneyCentsSpec)) moneyCentsUptoCard

/-- THE SECOND FORM's CARD OF 'tithinglaw04.MoneyTexts'. -/
def moneyTextsUptoCard : Claim7 := { stood := { row := moneyTextsUptoRow, standIns := [], harness := (true, "f388b49f1bdf6c99ecbc34c3076287eda714bf5e20249a731fb496dc4c75224c"), looks := true }, kinds := [], alts := [], laidByText := true, laidKinds := [.data, .data, .data, .data, .sentinel, .sentinel, .pinned], laidTests := true, laidLooks := .later }
def MoneyTextsUptoCardSaid : Prop := Claim7.holds Tryz.pinned (.plain (OpenSpec.upto moneyTextsSpec)) moneyTextsUptoCard

/-- THE SECOND FORM's CARD OF 'tithinglaw04.MoneySplits'. -/
def moneySplitsUptoCard : Claim7 := { stood := { row := moneySplitsUptoRow, standIns := [], harness := (true, "f388b49f1bdf6c99ecbc34c3076287eda714bf5e20249a731fb496dc4c75224c"), looks := true }, kinds := [], alts := [], laidByText := true, laidKinds := [.data, .data, .data, .data, .sentinel, .sentinel, .pinned], laidTests := true, laidLooks := .later }
def MoneySplitsUptoCardSaid : Prop := Claim7.holds Tryz.pinned (.plain (OpenSpec.upto moneySplitsSpec)) moneySplitsUptoCard

/-- THE SECOND FORM's CARD OF 'tithinglaw04.MoneyParts'. -/
def moneyPartsUptoCard : Claim7 := { stood := { row := moneyPartsUptoRow, standIns := [], harness := (true, "f388b49f1bdf6c99ecbc34c3076287eda714bf5e20249a731fb496dc4c75224c"), looks := true }, kinds := [], alts := [], laidByText := true, laidKinds := [.data, .data, .data, .data, .sentinel, .sentinel, .pinned], laidTests := true, laidLooks := .later }
def MoneyPartsUptoCardSaid : Prop := Claim7.holds Tryz.pinned (.plain (OpenSpec.upto moneyPartsSpec)) moneyPartsUptoCard
end Rows
end Go.Proofs.YtabfjecegpaoaaaGreatDoor
