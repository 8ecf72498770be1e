/-
  DERIVED. GIVEN WITH THE SEED: THE CARDS: each row of YtojfbgegankddaaGreatDoorRows.lean that lists a variable, with what it lists TIED to the program's text (the seventh form; the later family's looks); each row that meets fmt, with fmt's text TOLD by the authors' own Lean function (tested against real Go, not proved from fmt's source: count such statements apart). THE CARD IS WHAT COUNTS. Prove the row's statement (the work); the ties are given (YtojfbgegankddaaGreatDoorTie.lean); close each card by the builder's one call (the guide's Derived/Test/ToyasCard.lean, 'card_holds'). Laid BY PROGRAM, IN A SANDBOX (cutbox-door.mjs). By AI agents, Wed Nov 11 2026. No macro, syntax, notation, axiom, sorry.
-/
import Derived.Test.YtojfbgegankddaaGreatDoorRows
import GoSem.ClaimSeven
namespace Go.Proofs.YtojfbgegankddaaGreatDoor
namespace Rows

/-- THE TIED CARD OF 'laws.FnAutomatonText'. -/
def fnAutomatonTextCard : Claim7 := { stood := { row := fnAutomatonTextRow, standIns := [], harness := (true, "79f11d392c7df38e6df7b7e99b16492c93f1da60cabe956bf872be3cb6189e7c"), looks := true }, kinds := [], alts := [], laidByText := true, laidKinds := [.data, .data, .data, .data, .sentinel, .sentinel, .listed, .data, .pinned], laidTests := true, laidLooks := .later }
def FnAutomatonTextCardSaid : Prop := Claim7.holds Tryz.pinned (.plain (OpenSpec.ofChange fnAutomatonTextSpec)) fnAutomatonTextCard

/-- THE SECOND FORM's CARD OF 'laws.FnAutomatonText'. -/
def fnAutomatonTextUptoCard : Claim7 := { stood := { row := fnAutomatonTextUptoRow, standIns := [], harness := (true, "79f11d392c7df38e6df7b7e99b16492c93f1da60cabe956bf872be3cb6189e7c"), looks := true }, kinds := [], alts := [], laidByText := true, laidKinds := [.data, .data, .data, .data, .sentinel, .sentinel, .listed, .data, .pinned], laidTests := true, laidLooks := .later }
def FnAutomatonTextUptoCardSaid : Prop := Claim7.holds Tryz.pinned (.plain (OpenSpec.upto fnAutomatonTextSpec)) fnAutomatonTextUptoCard
end Rows
end Go.Proofs.YtojfbgegankddaaGreatDoor
