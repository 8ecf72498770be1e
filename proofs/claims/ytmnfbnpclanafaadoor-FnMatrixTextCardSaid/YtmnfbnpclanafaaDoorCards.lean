/-
  DERIVED. GIVEN WITH THE SEED: THE CARDS: each row of YtmnfbnpclanafaaDoorRows.lean that lists a variable, with what it lists TIED to the program's text (the seventh form; the later family's looks); each row that meets fmt, with fmt's text TOLD by the authors' own Lean function (tested against real Go, not proved from fmt's source: count such statements apart). THE CARD IS WHAT COUNTS. Prove the row's statement (the work); the ties are given (YtmnfbnpclanafaaDoorTie.lean); close each card by the builder's one call (the guide's Derived/Test/ToyasCard.lean, 'card_holds'). Laid BY PROGRAM, IN A SANDBOX (cutbox-door.mjs). By AI agents, Wed Nov 11 2026. No macro, syntax, notation, axiom, sorry.
-/
import Derived.Test.YtmnfbnpclanafaaDoorRows
import GoSem.ClaimSeven
namespace Go.Proofs.YtmnfbnpclanafaaDoor
namespace Rows

/-- THE TIED CARD OF 'laws.FnExactFormatCost'. -/
def fnExactFormatCostCard : Claim7 := { stood := { row := fnExactFormatCostRow, standIns := [], harness := (true, "5aa8531d22a1cd0301d2d207905024cd19b153a08acb7406dc7f430960dd9c7d"), looks := true }, kinds := [], alts := [], laidByText := true, laidKinds := [.data, .data, .data], laidTests := true, laidLooks := .later }
def FnExactFormatCostCardSaid : Prop := Claim7.holds Tryd.pinned (.plain (OpenSpec.ofChange fnExactFormatCostSpec)) fnExactFormatCostCard

/-- THE TIED CARD OF 'laws.FnExactFormatCosts'. -/
def fnExactFormatCostsCard : Claim7 := { stood := { row := fnExactFormatCostsRow, standIns := [], harness := (true, "5aa8531d22a1cd0301d2d207905024cd19b153a08acb7406dc7f430960dd9c7d"), looks := true }, kinds := [], alts := [], laidByText := true, laidKinds := [.data, .data, .data], laidTests := true, laidLooks := .later }
def FnExactFormatCostsCardSaid : Prop := Claim7.holds Tryd.pinned (.plain (OpenSpec.ofChange fnExactFormatCostsSpec)) fnExactFormatCostsCard

/-- THE TIED CARD OF 'laws.FnExactParseCost'. -/
def fnExactParseCostCard : Claim7 := { stood := { row := fnExactParseCostRow, standIns := [], harness := (true, "5aa8531d22a1cd0301d2d207905024cd19b153a08acb7406dc7f430960dd9c7d"), looks := true }, kinds := [], alts := [], laidByText := true, laidKinds := [.data, .data, .data, .sentinel, .sentinel], laidTests := true, laidLooks := .later }
def FnExactParseCostCardSaid : Prop := Claim7.holds Tryd.pinned (.plain (OpenSpec.ofChange fnExactParseCostSpec)) fnExactParseCostCard

/-- THE TIED CARD OF 'laws.FnExactParseCosts'. -/
def fnExactParseCostsCard : Claim7 := { stood := { row := fnExactParseCostsRow, standIns := [], harness := (true, "5aa8531d22a1cd0301d2d207905024cd19b153a08acb7406dc7f430960dd9c7d"), looks := true }, kinds := [], alts := [], laidByText := true, laidKinds := [.data, .data, .data, .data, .sentinel, .sentinel, .pinned], laidTests := true, laidLooks := .later }
def FnExactParseCostsCardSaid : Prop := Claim7.holds Tryd.pinned (.plain (OpenSpec.ofChange fnExactParseCostsSpec)) fnExactParseCostsCard

/-- THE TIED CARD OF 'laws.FnCostText'. -/
def fnCostTextCard : Claim7 := { stood := { row := fnCostTextRow, standIns := [], harness := (true, "5aa8531d22a1cd0301d2d207905024cd19b153a08acb7406dc7f430960dd9c7d"), looks := true }, kinds := [], alts := [], laidByText := true, laidKinds := [.data, .data, .data, .data, .sentinel, .sentinel, .pinned], laidTests := true, laidLooks := .later }
def FnCostTextCardSaid : Prop := Claim7.holds Tryd.pinned (.plain (OpenSpec.ofChange fnCostTextSpec)) fnCostTextCard

/-- THE TIED CARD OF 'laws.FnExactFormatMatrix'. -/
def fnExactFormatMatrixCard : Claim7 := { stood := { row := fnExactFormatMatrixRow, standIns := [], harness := (true, "5aa8531d22a1cd0301d2d207905024cd19b153a08acb7406dc7f430960dd9c7d"), looks := true }, kinds := [], alts := [], laidByText := true, laidKinds := [.data, .data, .data], laidTests := true, laidLooks := .later }
def FnExactFormatMatrixCardSaid : Prop := Claim7.holds Tryd.pinned (.plain (OpenSpec.ofChange fnExactFormatMatrixSpec)) fnExactFormatMatrixCard

/-- THE TIED CARD OF 'laws.FnExactParseMatrix'. -/
def fnExactParseMatrixCard : Claim7 := { stood := { row := fnExactParseMatrixRow, standIns := [], harness := (true, "5aa8531d22a1cd0301d2d207905024cd19b153a08acb7406dc7f430960dd9c7d"), looks := true }, kinds := [], alts := [], laidByText := true, laidKinds := [.data, .data, .data, .data, .sentinel, .sentinel, .pinned], laidTests := true, laidLooks := .later }
def FnExactParseMatrixCardSaid : Prop := Claim7.holds Tryd.pinned (.plain (OpenSpec.ofChange fnExactParseMatrixSpec)) fnExactParseMatrixCard

/-- THE TIED CARD OF 'laws.FnMatrixText'. -/
def fnMatrixTextCard : Claim7 := { stood := { row := fnMatrixTextRow, standIns := [], harness := (true, "5aa8531d22a1cd0301d2d207905024cd19b153a08acb7406dc7f430960dd9c7d"), looks := true }, kinds := [], alts := [], laidByText := true, laidKinds := [.data, .data, .data, .data, .sentinel, .sentinel, .pinned], laidTests := true, laidLooks := .later }
def FnMatrixTextCardSaid : Prop := Claim7.holds Tryd.pinned (.plain (OpenSpec.ofChange fnMatrixTextSpec)) fnMatrixTextCard

/-- THE SECOND FORM's CARD OF 'laws.FnExactFormatCost'. -/
def fnExactFormatCostUptoCard : Claim7 := { stood := { row := fnExactFormatCostUptoRow, standIns := [], harness := (true, "5aa8531d22a1cd0301d2d207905024cd19b153a08acb7406dc7f430960dd9c7d"), looks := true }, kinds := [], alts := [], laidByText := true, laidKinds := [.data, .data, .data], laidTests := true, laidLooks := .later }
def FnExactFormatCostUptoCardSaid : Prop := Claim7.holds Tryd.pinned (.plain (OpenSpec.upto fnExactFormatCostSpec)) fnExactFormatCostUptoCard

/-- THE SECOND FORM's CARD OF 'laws.FnExactFormatCosts'. -/
def fnExactFormatCostsUptoCard : Claim7 := { stood := { row := fnExactFormatCostsUptoRow, standIns := [], harness := (true, "5aa8531d22a1cd0301d2d207905024cd19b153a08acb7406dc7f430960dd9c7d"), looks := true }, kinds := [], alts := [], laidByText := true, laidKinds := [.data, .data, .data], laidTests := true, laidLooks := .later }
def FnExactFormatCostsUptoCardSaid : Prop := Claim7.holds Tryd.pinned (.plain (OpenSpec.upto fnExactFormatCostsSpec)) fnExactFormatCostsUptoCard

/-- THE SECOND FORM's CARD OF 'laws.FnExactParseCost'. -/
def fnExactParseCostUptoCard : Claim7 := { stood := { row := fnExactParseCostUptoRow, standIns := [], harness := (true, "5aa8531d22a1cd0301d2d207905024cd19b153a08acb7406dc7f430960dd9c7d"), looks := true }, kinds := [], alts := [], laidByText := true, laidKinds := [.data, .data, .data, .sentinel, .sentinel], laidTests := true, laidLooks := .later }
def FnExactParseCostUptoCardSaid : Prop := Claim7.holds Tryd.pinned (.plain (OpenSpec.upto fnExactParseCostSpec)) fnExactParseCostUptoCard

/-- THE SECOND FORM's CARD OF 'laws.FnExactParseCosts'. -/
def fnExactParseCostsUptoCard : Claim7 := { stood := { row := fnExactParseCostsUptoRow, standIns := [], harness := (true, "5aa8531d22a1cd0301d2d207905024cd19b153a08acb7406dc7f430960dd9c7d"), looks := true }, kinds := [], alts := [], laidByText := true, laidKinds := [.data, .data, .data, .data, .sentinel, .sentinel, .pinned], laidTests := true, laidLooks := .later }
def FnExactParseCostsUptoCardSaid : Prop := Claim7.holds Tryd.pinned (.plain (OpenSpec.upto fnExactParseCostsSpec)) fnExactParseCostsUptoCard

/-- THE SECOND FORM's CARD OF 'laws.FnCostText'. -/
def fnCostTextUptoCard : Claim7 := { stood := { row := fnCostTextUptoRow, standIns := [], harness := (true, "5aa8531d22a1cd0301d2d207905024cd19b153a08acb7406dc7f430960dd9c7d"), looks := true }, kinds := [], alts := [], laidByText := true, laidKinds := [.data, .data, .data, .data, .sentinel, .sentinel, .pinned], laidTests := true, laidLooks := .later }
def FnCostTextUptoCardSaid : Prop := Claim7.holds Tryd.pinned (.plain (OpenSpec.upto fnCostTextSpec)) fnCostTextUptoCard

/-- THE SECOND FORM's CARD OF 'laws.FnExactFormatMatrix'. -/
def fnExactFormatMatrixUptoCard : Claim7 := { stood := { row := fnExactFormatMatrixUptoRow, standIns := [], harness := (true, "5aa8531d22a1cd0301d2d207905024cd19b153a08acb7406dc7f430960dd9c7d"), looks := true }, kinds := [], alts := [], laidByText := true, laidKinds := [.data, .data, .data], laidTests := true, laidLooks := .later }
def FnExactFormatMatrixUptoCardSaid : Prop := Claim7.holds Tryd.pinned (.plain (OpenSpec.upto fnExactFormatMatrixSpec)) fnExactFormatMatrixUptoCard

/-- THE SECOND FORM's CARD OF 'laws.FnExactParseMatrix'. -/
def fnExactParseMatrixUptoCard : Claim7 := { stood := { row := fnExactParseMatrixUptoRow, standIns := [], harness := (true, "5aa8531d22a1cd0301d2d207905024cd19b153a08acb7406dc7f430960dd9c7d"), looks := true }, kinds := [], alts := [], laidByText := true, laidKinds := [.data, .data, .data, .data, .sentinel, .sentinel, .pinned], laidTests := true, laidLooks := .later }
def FnExactParseMatrixUptoCardSaid : Prop := Claim7.holds Tryd.pinned (.plain (OpenSpec.upto fnExactParseMatrixSpec)) fnExactParseMatrixUptoCard

/-- THE SECOND FORM's CARD OF 'laws.FnMatrixText'. -/
def fnMatrixTextUptoCard : Claim7 := { stood := { row := fnMatrixTextUptoRow, standIns := [], harness := (true, "5aa8531d22a1cd0301d2d207905024cd19b153a08acb7406dc7f430960dd9c7d"), looks := true }, kinds := [], alts := [], laidByText := true, laidKinds := [.data, .data, .data, .data, .sentinel, .sentinel, .pinned], laidTests := true, laidLooks := .later }
def FnMatrixTextUptoCardSaid : Prop := Claim7.holds Tryd.pinned (.plain (OpenSpec.upto fnMatrixTextSpec)) fnMatrixTextUptoCard
end Rows
end Go.Proofs.YtmnfbnpclanafaaDoor
