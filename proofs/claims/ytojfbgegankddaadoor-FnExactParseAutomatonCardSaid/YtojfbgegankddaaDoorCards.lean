/-
  DERIVED. GIVEN WITH THE SEED: THE CARDS: each row of YtojfbgegankddaaDoorRows.lean that lists a variable, with what it lists TIED to the program's text (the seventh form; the later family's looks); each row that meets fmt, with fmt's text TOLD by the authors' own Lean function (tested against real Go, not proved from fmt's source: count such statements apart). THE CARD IS WHAT COUNTS. Prove the row's statement (the work); the ties are given (YtojfbgegankddaaDoorTie.lean); close each card by the builder's one call (the guide's Derived/Test/ToyasCard.lean, 'card_holds'). Laid BY PROGRAM, IN A SANDBOX (cutbox-door.mjs). By AI agents, Wed Nov 11 2026. No macro, syntax, notation, axiom, sorry.
-/
import Derived.Test.YtojfbgegankddaaDoorRows
import GoSem.ClaimSeven
namespace Go.Proofs.YtojfbgegankddaaDoor
namespace Rows

/-- THE TIED CARD OF 'laws.FnExactFormatAutomaton'. -/
def fnExactFormatAutomatonCard : Claim7 := { stood := { row := fnExactFormatAutomatonRow, standIns := [], harness := (true, "4867aac586ca53431f0528aa89ef19daa1b18222738bf83f4b657e1e6fa9d79a"), looks := true }, kinds := [], alts := [], laidByText := true, laidKinds := [.data, .data, .data], laidTests := true, laidLooks := .later }
def FnExactFormatAutomatonCardSaid : Prop := Claim7.holds Tryd.pinned (.plain (OpenSpec.ofChange fnExactFormatAutomatonSpec)) fnExactFormatAutomatonCard

/-- THE TIED CARD OF 'laws.FnExactParseAutomaton'. -/
def fnExactParseAutomatonCard : Claim7 := { stood := { row := fnExactParseAutomatonRow, standIns := [], harness := (true, "4867aac586ca53431f0528aa89ef19daa1b18222738bf83f4b657e1e6fa9d79a"), looks := true }, kinds := [], alts := [], laidByText := true, laidKinds := [.data, .data, .data, .data, .sentinel, .sentinel, .listed, .data, .pinned], laidTests := true, laidLooks := .later }
def FnExactParseAutomatonCardSaid : Prop := Claim7.holds Tryd.pinned (.plain (OpenSpec.ofChange fnExactParseAutomatonSpec)) fnExactParseAutomatonCard

/-- THE SECOND FORM's CARD OF 'laws.FnExactFormatAutomaton'. -/
def fnExactFormatAutomatonUptoCard : Claim7 := { stood := { row := fnExactFormatAutomatonUptoRow, standIns := [], harness := (true, "4867aac586ca53431f0528aa89ef19daa1b18222738bf83f4b657e1e6fa9d79a"), looks := true }, kinds := [], alts := [], laidByText := true, laidKinds := [.data, .data, .data], laidTests := true, laidLooks := .later }
def FnExactFormatAutomatonUptoCardSaid : Prop := Claim7.holds Tryd.pinned (.plain (OpenSpec.upto fnExactFormatAutomatonSpec)) fnExactFormatAutomatonUptoCard

/-- THE SECOND FORM's CARD OF 'laws.FnExactParseAutomaton'. -/
def fnExactParseAutomatonUptoCard : Claim7 := { stood := { row := fnExactParseAutomatonUptoRow, standIns := [], harness := (true, "4867aac586ca53431f0528aa89ef19daa1b18222738bf83f4b657e1e6fa9d79a"), looks := true }, kinds := [], alts := [], laidByText := true, laidKinds := [.data, .data, .data, .data, .sentinel, .sentinel, .listed, .data, .pinned], laidTests := true, laidLooks := .later }
def FnExactParseAutomatonUptoCardSaid : Prop := Claim7.holds Tryd.pinned (.plain (OpenSpec.upto fnExactParseAutomatonSpec)) fnExactParseAutomatonUptoCard
end Rows
end Go.Proofs.YtojfbgegankddaaDoor
