/-
  No cell of these rows narrows 'for every input' (looked for: loops, veiled, ifaces, maps, wideKeys, modest, calm, conditions, laid).
  DERIVED. THE GIVEN ROWS OF THIS SEAT. 11 by the template 'for every input the law returns true; each argument reads behind the call as it read before'; 0 by the template 'total and deterministic' (their statements: YthojienhgeiknaaTotals.lean).
  GIVEN WITH THE SEED: the statements are not yours to turn. If you find one false, say at which input.
  Laid BY PROGRAM, IN A SANDBOX (cutbox-rows.mjs): the forced cells as the released guide's own fill.sh prints them over the translation fa06d83e616e6969… (all of the seat's roots in one cut). By AI agents, Wed Nov 11 2026. No macro, syntax, notation, axiom, sorry.
-/
import Derived.Test.YthojienhgeiknaaChecked
import GoSem.Claim
import GoSem.ClaimJoined
import GoSem.ClaimMapViews
import Derived.JoinedTies
import Derived.KernelRfl
namespace Go.Proofs.Ythojienhgeiknaa
/- THE CELL 'sum', in the pinned program and in every row, IS THE sha256 OF THE DUMP (.gsa) THAT YthojienhgeiknaaProg.lean LOADS. Nothing in Lean hashes anything: it is a label: what it is worth is what the hold of that sum in a sandbox is worth. -/
noncomputable def Try.pinned : Pinned := { name := "ythojienhgeiknaa", sum := "fa06d83e616e69691e498ae7728bac62c19d03972a0a1ab07898b7a82a238073", checked := Try.checked }
namespace Rows
def none {H : Type} : Left H := { results := [], args := [] }

/-- 'laws.FnExactMatrixValid': WHATEVER THE INPUT: true; the input reads as it did. -/
def fnExactMatrixValidSpec : ChangeSpec := { name := "fnExactMatrixValid", fn := fun _ => fun
  | [d] => { results := [.lit (.bool true)], args := [d] }
  | _ => none }
def fnExactMatrixValidRow : OpenClaim := { program := "ythojienhgeiknaa", sum := "fa06d83e616e69691e498ae7728bac62c19d03972a0a1ab07898b7a82a238073", func := "loop.example/distanceautomata/laws.FnExactMatrixValid", spec := "fnExactMatrixValid", unfollowed := true, recurses := true, apart := false }
def FnExactMatrixValidSaid : Prop := fnExactMatrixValidRow.holds Try.pinned (OpenSpec.ofChange fnExactMatrixValidSpec)

/-- ITS FALSE NEIGHBOUR: 'it returns false'. Refute it at one input. -/
def fnExactMatrixValidWrong : ChangeSpec := { name := "fnExactMatrixValid", fn := fun _ => fun
  | [d] => { results := [.lit (.bool false)], args := [d] }
  | _ => none }
def FnExactMatrixValidWrongFalsely : Prop := fnExactMatrixValidRow.holds Try.pinned (OpenSpec.ofChange fnExactMatrixValidWrong)

/-- 'laws.FnExactUnitMatrix': WHATEVER THE INPUT: true; the input reads as it did. -/
def fnExactUnitMatrixSpec : ChangeSpec := { name := "fnExactUnitMatrix", fn := fun _ => fun
  | [d] => { results := [.lit (.bool true)], args := [d] }
  | _ => none }
def fnExactUnitMatrixRow : OpenClaim := { program := "ythojienhgeiknaa", sum := "fa06d83e616e69691e498ae7728bac62c19d03972a0a1ab07898b7a82a238073", func := "loop.example/distanceautomata/laws.FnExactUnitMatrix", spec := "fnExactUnitMatrix", unfollowed := true, recurses := true, apart := false }
def FnExactUnitMatrixSaid : Prop := fnExactUnitMatrixRow.holds Try.pinned (OpenSpec.ofChange fnExactUnitMatrixSpec)

/-- ITS FALSE NEIGHBOUR: 'it returns false'. Refute it at one input. -/
def fnExactUnitMatrixWrong : ChangeSpec := { name := "fnExactUnitMatrix", fn := fun _ => fun
  | [d] => { results := [.lit (.bool false)], args := [d] }
  | _ => none }
def FnExactUnitMatrixWrongFalsely : Prop := fnExactUnitMatrixRow.holds Try.pinned (OpenSpec.ofChange fnExactUnitMatrixWrong)

/-- 'laws.FnExactTurnMatrix': WHATEVER THE INPUT: true; the input reads as it did. -/
def fnExactTurnMatrixSpec : ChangeSpec := { name := "fnExactTurnMatrix", fn := fun _ => fun
  | [d] => { results := [.lit (.bool true)], args := [d] }
  | _ => none }
def fnExactTurnMatrixRow : OpenClaim := { program := "ythojienhgeiknaa", sum := "fa06d83e616e69691e498ae7728bac62c19d03972a0a1ab07898b7a82a238073", func := "loop.example/distanceautomata/laws.FnExactTurnMatrix", spec := "fnExactTurnMatrix", unfollowed := true, recurses := true, apart := false }
def FnExactTurnMatrixSaid : Prop := fnExactTurnMatrixRow.holds Try.pinned (OpenSpec.ofChange fnExactTurnMatrixSpec)

/-- ITS FALSE NEIGHBOUR: 'it returns false'. Refute it at one input. -/
def fnExactTurnMatrixWrong : ChangeSpec := { name := "fnExactTurnMatrix", fn := fun _ => fun
  | [d] => { results := [.lit (.bool false)], args := [d] }
  | _ => none }
def FnExactTurnMatrixWrongFalsely : Prop := fnExactTurnMatrixRow.holds Try.pinned (OpenSpec.ofChange fnExactTurnMatrixWrong)

/-- 'laws.FnExactMinMatrix': WHATEVER THE INPUT: true; the input reads as it did. -/
def fnExactMinMatrixSpec : ChangeSpec := { name := "fnExactMinMatrix", fn := fun _ => fun
  | [d1, d2] => { results := [.lit (.bool true)], args := [d1, d2] }
  | _ => none }
def fnExactMinMatrixRow : OpenClaim := { program := "ythojienhgeiknaa", sum := "fa06d83e616e69691e498ae7728bac62c19d03972a0a1ab07898b7a82a238073", func := "loop.example/distanceautomata/laws.FnExactMinMatrix", spec := "fnExactMinMatrix", unfollowed := true, recurses := true, apart := false }
def FnExactMinMatrixSaid : Prop := fnExactMinMatrixRow.holds Try.pinned (OpenSpec.ofChange fnExactMinMatrixSpec)

/-- ITS FALSE NEIGHBOUR: 'it returns false'. Refute it at one input. -/
def fnExactMinMatrixWrong : ChangeSpec := { name := "fnExactMinMatrix", fn := fun _ => fun
  | [d1, d2] => { results := [.lit (.bool false)], args := [d1, d2] }
  | _ => none }
def FnExactMinMatrixWrongFalsely : Prop := fnExactMinMatrixRow.holds Try.pinned (OpenSpec.ofChange fnExactMinMatrixWrong)

/-- 'laws.FnExactMulMatrix': WHATEVER THE INPUT: true; the input reads as it did. -/
def fnExactMulMatrixSpec : ChangeSpec := { name := "fnExactMulMatrix", fn := fun _ => fun
  | [d1, d2] => { results := [.lit (.bool true)], args := [d1, d2] }
  | _ => none }
def fnExactMulMatrixRow : OpenClaim := { program := "ythojienhgeiknaa", sum := "fa06d83e616e69691e498ae7728bac62c19d03972a0a1ab07898b7a82a238073", func := "loop.example/distanceautomata/laws.FnExactMulMatrix", spec := "fnExactMulMatrix", unfollowed := true, recurses := true, apart := false }
def FnExactMulMatrixSaid : Prop := fnExactMulMatrixRow.holds Try.pinned (OpenSpec.ofChange fnExactMulMatrixSpec)

/-- ITS FALSE NEIGHBOUR: 'it returns false'. Refute it at one input. -/
def fnExactMulMatrixWrong : ChangeSpec := { name := "fnExactMulMatrix", fn := fun _ => fun
  | [d1, d2] => { results := [.lit (.bool false)], args := [d1, d2] }
  | _ => none }
def FnExactMulMatrixWrongFalsely : Prop := fnExactMulMatrixRow.holds Try.pinned (OpenSpec.ofChange fnExactMulMatrixWrong)

/-- 'laws.FnMinMatrix': WHATEVER THE INPUT: true; the input reads as it did. -/
def fnMinMatrixSpec : ChangeSpec := { name := "fnMinMatrix", fn := fun _ => fun
  | [d1, d2] => { results := [.lit (.bool true)], args := [d1, d2] }
  | _ => none }
def fnMinMatrixRow : OpenClaim := { program := "ythojienhgeiknaa", sum := "fa06d83e616e69691e498ae7728bac62c19d03972a0a1ab07898b7a82a238073", func := "loop.example/distanceautomata/laws.FnMinMatrix", spec := "fnMinMatrix", unfollowed := true, recurses := true, apart := false }
def FnMinMatrixSaid : Prop := fnMinMatrixRow.holds Try.pinned (OpenSpec.ofChange fnMinMatrixSpec)

/-- ITS FALSE NEIGHBOUR: 'it returns false'. Refute it at one input. -/
def fnMinMatrixWrong : ChangeSpec := { name := "fnMinMatrix", fn := fun _ => fun
  | [d1, d2] => { results := [.lit (.bool false)], args := [d1, d2] }
  | _ => none }
def FnMinMatrixWrongFalsely : Prop := fnMinMatrixRow.holds Try.pinned (OpenSpec.ofChange fnMinMatrixWrong)

/-- 'laws.FnMulMatrix': WHATEVER THE INPUT: true; the input reads as it did. -/
def fnMulMatrixSpec : ChangeSpec := { name := "fnMulMatrix", fn := fun _ => fun
  | [d1, d2] => { results := [.lit (.bool true)], args := [d1, d2] }
  | _ => none }
def fnMulMatrixRow : OpenClaim := { program := "ythojienhgeiknaa", sum := "fa06d83e616e69691e498ae7728bac62c19d03972a0a1ab07898b7a82a238073", func := "loop.example/distanceautomata/laws.FnMulMatrix", spec := "fnMulMatrix", unfollowed := true, recurses := true, apart := false }
def FnMulMatrixSaid : Prop := fnMulMatrixRow.holds Try.pinned (OpenSpec.ofChange fnMulMatrixSpec)

/-- ITS FALSE NEIGHBOUR: 'it returns false'. Refute it at one input. -/
def fnMulMatrixWrong : ChangeSpec := { name := "fnMulMatrix", fn := fun _ => fun
  | [d1, d2] => { results := [.lit (.bool false)], args := [d1, d2] }
  | _ => none }
def FnMulMatrixWrongFalsely : Prop := fnMulMatrixRow.holds Try.pinned (OpenSpec.ofChange fnMulMatrixWrong)

/-- 'laws.FnPowerMatrix': WHATEVER THE INPUT: true; the input reads as it did. -/
def fnPowerMatrixSpec : ChangeSpec := { name := "fnPowerMatrix", fn := fun _ => fun
  | [d1, d2] => { results := [.lit (.bool true)], args := [d1, d2] }
  | _ => none }
def fnPowerMatrixRow : OpenClaim := { program := "ythojienhgeiknaa", sum := "fa06d83e616e69691e498ae7728bac62c19d03972a0a1ab07898b7a82a238073", func := "loop.example/distanceautomata/laws.FnPowerMatrix", spec := "fnPowerMatrix", unfollowed := true, recurses := true, apart := false }
def FnPowerMatrixSaid : Prop := fnPowerMatrixRow.holds Try.pinned (OpenSpec.ofChange fnPowerMatrixSpec)

/-- ITS FALSE NEIGHBOUR: 'it returns false'. Refute it at one input. -/
def fnPowerMatrixWrong : ChangeSpec := { name := "fnPowerMatrix", fn := fun _ => fun
  | [d1, d2] => { results := [.lit (.bool false)], args := [d1, d2] }
  | _ => none }
def FnPowerMatrixWrongFalsely : Prop := fnPowerMatrixRow.holds Try.pinned (OpenSpec.ofChange fnPowerMatrixWrong)

/-- 'laws.FnStarMatrix': WHATEVER THE INPUT: true; the input reads as it did. -/
def fnStarMatrixSpec : ChangeSpec := { name := "fnStarMatrix", fn := fun _ => fun
  | [d] => { results := [.lit (.bool true)], args := [d] }
  | _ => none }
def fnStarMatrixRow : OpenClaim := { program := "ythojienhgeiknaa", sum := "fa06d83e616e69691e498ae7728bac62c19d03972a0a1ab07898b7a82a238073", func := "loop.example/distanceautomata/laws.FnStarMatrix", spec := "fnStarMatrix", unfollowed := true, recurses := true, apart := false }
def FnStarMatrixSaid : Prop := fnStarMatrixRow.holds Try.pinned (OpenSpec.ofChange fnStarMatrixSpec)

/-- ITS FALSE NEIGHBOUR: 'it returns false'. Refute it at one input. -/
def fnStarMatrixWrong : ChangeSpec := { name := "fnStarMatrix", fn := fun _ => fun
  | [d] => { results := [.lit (.bool false)], args := [d] }
  | _ => none }
def FnStarMatrixWrongFalsely : Prop := fnStarMatrixRow.holds Try.pinned (OpenSpec.ofChange fnStarMatrixWrong)

/-- 'laws.FnExactPowerMatrix': WHATEVER THE INPUT: true; the input reads as it did. -/
def fnExactPowerMatrixSpec : ChangeSpec := { name := "fnExactPowerMatrix", fn := fun _ => fun
  | [d1, d2] => { results := [.lit (.bool true)], args := [d1, d2] }
  | _ => none }
def fnExactPowerMatrixRow : OpenClaim := { program := "ythojienhgeiknaa", sum := "fa06d83e616e69691e498ae7728bac62c19d03972a0a1ab07898b7a82a238073", func := "loop.example/distanceautomata/laws.FnExactPowerMatrix", spec := "fnExactPowerMatrix", unfollowed := true, recurses := true, apart := false }
def FnExactPowerMatrixSaid : Prop := fnExactPowerMatrixRow.holds Try.pinned (OpenSpec.ofChange fnExactPowerMatrixSpec)

/-- ITS FALSE NEIGHBOUR: 'it returns false'. Refute it at one input. -/
def fnExactPowerMatrixWrong : ChangeSpec := { name := "fnExactPowerMatrix", fn := fun _ => fun
  | [d1, d2] => { results := [.lit (.bool false)], args := [d1, d2] }
  | _ => none }
def FnExactPowerMatrixWrongFalsely : Prop := fnExactPowerMatrixRow.holds Try.pinned (OpenSpec.ofChange fnExactPowerMatrixWrong)

/-- 'laws.FnExactStarMatrix': WHATEVER THE INPUT: true; the input reads as it did. -/
def fnExactStarMatrixSpec : ChangeSpec := { name := "fnExactStarMatrix", fn := fun _ => fun
  | [d] => { results := [.lit (.bool true)], args := [d] }
  | _ => none }
def fnExactStarMatrixRow : OpenClaim := { program := "ythojienhgeiknaa", sum := "fa06d83e616e69691e498ae7728bac62c19d03972a0a1ab07898b7a82a238073", func := "loop.example/distanceautomata/laws.FnExactStarMatrix", spec := "fnExactStarMatrix", unfollowed := true, recurses := true, apart := false }
def FnExactStarMatrixSaid : Prop := fnExactStarMatrixRow.holds Try.pinned (OpenSpec.ofChange fnExactStarMatrixSpec)

/-- ITS FALSE NEIGHBOUR: 'it returns false'. Refute it at one input. -/
def fnExactStarMatrixWrong : ChangeSpec := { name := "fnExactStarMatrix", fn := fun _ => fun
  | [d] => { results := [.lit (.bool false)], args := [d] }
  | _ => none }
def FnExactStarMatrixWrongFalsely : Prop := fnExactStarMatrixRow.holds Try.pinned (OpenSpec.ofChange fnExactStarMatrixWrong)

/- THE SECOND FORM. 'bulk': how many values and letters a reading holds, each counted each time it is reached (what is shared counts as often as it is met; a slice's spare places count too). A statement '..UptoSaid' is the law's where the arguments, and the package variables that the reading takes, are together of bulk at most 1048576: NARROWER than '..Said'. Prove '..Said' where nothing that the law and all that it calls make is longer than what came in: it says more and counts as full. Else prove '..UptoSaid'. A law counts once. -/
mutual
def uptoBulk {H : Type} : DataW H → Nat
  | .lit (.string bytes) => bytes.length + 1
  | .lit _ => 1
  | .nil => 1
  | .ptr d => uptoBulk d + 1
  | .slice elems spare => uptoBulkAll elems + uptoBulkAll spare + 1
  | .agg parts => uptoBulkAll parts + 1
  | .iface _ d => uptoBulk d + 1
  | .map entries => uptoBulkEntries entries + 1
  | .held _ => 1
def uptoBulkAll {H : Type} : List (DataW H) → Nat
  | [] => 0
  | d :: r => uptoBulk d + uptoBulkAll r
def uptoBulkEntries {H : Type} : List (Lit × DataW H) → Nat
  | [] => 0
  | x :: r => uptoBulkEntry x + uptoBulkEntries r
def uptoBulkEntry {H : Type} : Lit × DataW H → Nat
  | (.string bytes, d) => bytes.length + uptoBulk d + 1
  | (_, d) => uptoBulk d + 1
 end
def uptoSmall : (H : Type) → List (DataW H) → Bool := fun _ ds => decide (uptoBulkAll ds ≤ 1048576)
def OpenSpec.upto (s : _root_.Go.ChangeSpec) : _root_.Go.OpenSpec := { _root_.Go.OpenSpec.ofChange s with cond := some uptoSmall }

/-- 'laws.FnExactMatrixValid', WHERE WHAT IT READS IS OF BULK AT MOST 1048576: true; the input reads as it did. -/
def fnExactMatrixValidUptoRow : OpenClaim := { program := "ythojienhgeiknaa", sum := "fa06d83e616e69691e498ae7728bac62c19d03972a0a1ab07898b7a82a238073", func := "loop.example/distanceautomata/laws.FnExactMatrixValid", spec := "fnExactMatrixValid", unfollowed := true, recurses := true, apart := false, narrowed := true }
def FnExactMatrixValidUptoSaid : Prop := fnExactMatrixValidUptoRow.holds Try.pinned (OpenSpec.upto fnExactMatrixValidSpec)

/-- 'laws.FnExactUnitMatrix', WHERE WHAT IT READS IS OF BULK AT MOST 1048576: true; the input reads as it did. -/
def fnExactUnitMatrixUptoRow : OpenClaim := { program := "ythojienhgeiknaa", sum := "fa06d83e616e69691e498ae7728bac62c19d03972a0a1ab07898b7a82a238073", func := "loop.example/distanceautomata/laws.FnExactUnitMatrix", spec := "fnExactUnitMatrix", unfollowed := true, recurses := true, apart := false, narrowed := true }
def FnExactUnitMatrixUptoSaid : Prop := fnExactUnitMatrixUptoRow.holds Try.pinned (OpenSpec.upto fnExactUnitMatrixSpec)

/-- 'laws.FnExactTurnMatrix', WHERE WHAT IT READS IS OF BULK AT MOST 1048576: true; the input reads as it did. -/
def fnExactTurnMatrixUptoRow : OpenClaim := { program := "ythojienhgeiknaa", sum := "fa06d83e616e69691e498ae7728bac62c19d03972a0a1ab07898b7a82a238073", func := "loop.example/distanceautomata/laws.FnExactTurnMatrix", spec := "fnExactTurnMatrix", unfollowed := true, recurses := true, apart := false, narrowed := true }
def FnExactTurnMatrixUptoSaid : Prop := fnExactTurnMatrixUptoRow.holds Try.pinned (OpenSpec.upto fnExactTurnMatrixSpec)

/-- 'laws.FnExactMinMatrix', WHERE WHAT IT READS IS OF BULK AT MOST 1048576: true; the input reads as it did. -/
def fnExactMinMatrixUptoRow : OpenClaim := { program := "ythojienhgeiknaa", sum := "fa06d83e616e69691e498ae7728bac62c19d03972a0a1ab07898b7a82a238073", func := "loop.example/distanceautomata/laws.FnExactMinMatrix", spec := "fnExactMinMatrix", unfollowed := true, recurses := true, apart := false, narrowed := true }
def FnExactMinMatrixUptoSaid : Prop := fnExactMinMatrixUptoRow.holds Try.pinned (OpenSpec.upto fnExactMinMatrixSpec)

/-- 'laws.FnExactMulMatrix', WHERE WHAT IT READS IS OF BULK AT MOST 1048576: true; the input reads as it did. -/
def fnExactMulMatrixUptoRow : OpenClaim := { program := "ythojienhgeiknaa", sum := "fa06d83e616e69691e498ae7728bac62c19d03972a0a1ab07898b7a82a238073", func := "loop.example/distanceautomata/laws.FnExactMulMatrix", spec := "fnExactMulMatrix", unfollowed := true, recurses := true, apart := false, narrowed := true }
def FnExactMulMatrixUptoSaid : Prop := fnExactMulMatrixUptoRow.holds Try.pinned (OpenSpec.upto fnExactMulMatrixSpec)

/-- 'laws.FnMinMatrix', WHERE WHAT IT READS IS OF BULK AT MOST 1048576: true; the input reads as it did. -/
def fnMinMatrixUptoRow : OpenClaim := { program := "ythojienhgeiknaa", sum := "fa06d83e616e69691e498ae7728bac62c19d03972a0a1ab07898b7a82a238073", func := "loop.example/distanceautomata/laws.FnMinMatrix", spec := "fnMinMatrix", unfollowed := true, recurses := true, apart := false, narrowed := true }
def FnMinMatrixUptoSaid : Prop := fnMinMatrixUptoRow.holds Try.pinned (OpenSpec.upto fnMinMatrixSpec)

/-- 'laws.FnMulMatrix', WHERE WHAT IT READS IS OF BULK AT MOST 1048576: true; the input reads as it did. -/
def fnMulMatrixUptoRow : OpenClaim := { program := "ythojienhgeiknaa", sum := "fa06d83e616e69691e498ae7728bac62c19d03972a0a1ab07898b7a82a238073", func := "loop.example/distanceautomata/laws.FnMulMatrix", spec := "fnMulMatrix", unfollowed := true, recurses := true, apart := false, narrowed := true }
def FnMulMatrixUptoSaid : Prop := fnMulMatrixUptoRow.holds Try.pinned (OpenSpec.upto fnMulMatrixSpec)

/-- 'laws.FnPowerMatrix', WHERE WHAT IT READS IS OF BULK AT MOST 1048576: true; the input reads as it did. -/
def fnPowerMatrixUptoRow : OpenClaim := { program := "ythojienhgeiknaa", sum := "fa06d83e616e69691e498ae7728bac62c19d03972a0a1ab07898b7a82a238073", func := "loop.example/distanceautomata/laws.FnPowerMatrix", spec := "fnPowerMatrix", unfollowed := true, recurses := true, apart := false, narrowed := true }
def FnPowerMatrixUptoSaid : Prop := fnPowerMatrixUptoRow.holds Try.pinned (OpenSpec.upto fnPowerMatrixSpec)

/-- 'laws.FnStarMatrix', WHERE WHAT IT READS IS OF BULK AT MOST 1048576: true; the input reads as it did. -/
def fnStarMatrixUptoRow : OpenClaim := { program := "ythojienhgeiknaa", sum := "fa06d83e616e69691e498ae7728bac62c19d03972a0a1ab07898b7a82a238073", func := "loop.example/distanceautomata/laws.FnStarMatrix", spec := "fnStarMatrix", unfollowed := true, recurses := true, apart := false, narrowed := true }
def FnStarMatrixUptoSaid : Prop := fnStarMatrixUptoRow.holds Try.pinned (OpenSpec.upto fnStarMatrixSpec)

/-- 'laws.FnExactPowerMatrix', WHERE WHAT IT READS IS OF BULK AT MOST 1048576: true; the input reads as it did. -/
def fnExactPowerMatrixUptoRow : OpenClaim := { program := "ythojienhgeiknaa", sum := "fa06d83e616e69691e498ae7728bac62c19d03972a0a1ab07898b7a82a238073", func := "loop.example/distanceautomata/laws.FnExactPowerMatrix", spec := "fnExactPowerMatrix", unfollowed := true, recurses := true, apart := false, narrowed := true }
def FnExactPowerMatrixUptoSaid : Prop := fnExactPowerMatrixUptoRow.holds Try.pinned (OpenSpec.upto fnExactPowerMatrixSpec)

/-- 'laws.FnExactStarMatrix', WHERE WHAT IT READS IS OF BULK AT MOST 1048576: true; the input reads as it did. -/
def fnExactStarMatrixUptoRow : OpenClaim := { program := "ythojienhgeiknaa", sum := "fa06d83e616e69691e498ae7728bac62c19d03972a0a1ab07898b7a82a238073", func := "loop.example/distanceautomata/laws.FnExactStarMatrix", spec := "fnExactStarMatrix", unfollowed := true, recurses := true, apart := false, narrowed := true }
def FnExactStarMatrixUptoSaid : Prop := fnExactStarMatrixUptoRow.holds Try.pinned (OpenSpec.upto fnExactStarMatrixSpec)

end Rows
end Go.Proofs.Ythojienhgeiknaa
