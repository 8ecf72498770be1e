/-
  No cell of these rows narrows 'for every input' (looked for: loops, veiled, ifaces, maps, wideKeys, modest, calm, conditions, laid).
  DERIVED. THE GIVEN ROWS OF THIS SEAT. 8 by the template 'for every input the law returns true; each argument reads behind the call as it read before'; 0 by the template 'total and deterministic' (their statements: YtejnpldoakgadaaTotals.lean).
  GIVEN WITH THE SEED: the statements are not yours to turn. If you find one false, say at which input.
  Laid BY PROGRAM, IN A SANDBOX (cutbox-rows.mjs): the forced cells as the released guide's own fill.sh prints them over the translation 7acc9e196fa22eef… (all of the seat's roots in one cut). By AI agents, Wed Nov 11 2026. No macro, syntax, notation, axiom, sorry.
-/
import Derived.Test.YtejnpldoakgadaaChecked
import GoSem.Claim
import GoSem.ClaimJoined
import GoSem.ClaimMapViews
import Derived.JoinedTies
import Derived.KernelRfl
namespace Go.Proofs.Ytejnpldoakgadaa
/- THE CELL 'sum', in the pinned program and in every row, IS THE sha256 OF THE DUMP (.gsa) THAT YtejnpldoakgadaaProg.lean LOADS. Nothing in Lean hashes anything: it is a label: what it is worth is what the hold of that sum in a sandbox is worth. -/
noncomputable def Try.pinned : Pinned := { name := "ytejnpldoakgadaa", sum := "7acc9e196fa22eefac2923c8e3ccad81aaf7e445b46066783b31720842da8d1d", checked := Try.checked }
namespace Rows
def none {H : Type} : Left H := { results := [], args := [] }

/-- 'laws.FnExactAutomatonValid': WHATEVER THE INPUT: true; the input reads as it did. -/
def fnExactAutomatonValidSpec : ChangeSpec := { name := "fnExactAutomatonValid", fn := fun _ => fun
  | [d] => { results := [.lit (.bool true)], args := [d] }
  | _ => none }
def fnExactAutomatonValidRow : OpenClaim := { program := "ytejnpldoakgadaa", sum := "7acc9e196fa22eefac2923c8e3ccad81aaf7e445b46066783b31720842da8d1d", func := "loop.example/distanceautomata/laws.FnExactAutomatonValid", spec := "fnExactAutomatonValid", inPlace := ["internal/bytealg.abigen_runtime_cmpstring"], apart := false }
def FnExactAutomatonValidSaid : Prop := fnExactAutomatonValidRow.holds Try.pinned (OpenSpec.ofChange fnExactAutomatonValidSpec)

/-- ITS FALSE NEIGHBOUR: 'it returns false'. Refute it at one input. -/
def fnExactAutomatonValidWrong : ChangeSpec := { name := "fnExactAutomatonValid", fn := fun _ => fun
  | [d] => { results := [.lit (.bool false)], args := [d] }
  | _ => none }
def FnExactAutomatonValidWrongFalsely : Prop := fnExactAutomatonValidRow.holds Try.pinned (OpenSpec.ofChange fnExactAutomatonValidWrong)

/-- 'laws.FnExactLettersOf': WHATEVER THE INPUT: true; the input reads as it did. -/
def fnExactLettersOfSpec : ChangeSpec := { name := "fnExactLettersOf", fn := fun _ => fun
  | [d] => { results := [.lit (.bool true)], args := [d] }
  | _ => none }
def fnExactLettersOfRow : OpenClaim := { program := "ytejnpldoakgadaa", sum := "7acc9e196fa22eefac2923c8e3ccad81aaf7e445b46066783b31720842da8d1d", func := "loop.example/distanceautomata/laws.FnExactLettersOf", spec := "fnExactLettersOf", inPlace := ["internal/bytealg.abigen_runtime_cmpstring"], unfollowed := true, recurses := true, apart := false }
def FnExactLettersOfSaid : Prop := fnExactLettersOfRow.holds Try.pinned (OpenSpec.ofChange fnExactLettersOfSpec)

/-- ITS FALSE NEIGHBOUR: 'it returns false'. Refute it at one input. -/
def fnExactLettersOfWrong : ChangeSpec := { name := "fnExactLettersOf", fn := fun _ => fun
  | [d] => { results := [.lit (.bool false)], args := [d] }
  | _ => none }
def FnExactLettersOfWrongFalsely : Prop := fnExactLettersOfRow.holds Try.pinned (OpenSpec.ofChange fnExactLettersOfWrong)

/-- 'laws.FnExactCostOfRun': WHATEVER THE INPUT: true; the input reads as it did. -/
def fnExactCostOfRunSpec : ChangeSpec := { name := "fnExactCostOfRun", fn := fun _ => fun
  | [d1, d2, d3] => { results := [.lit (.bool true)], args := [d1, d2, d3] }
  | _ => none }
def fnExactCostOfRunRow : OpenClaim := { program := "ytejnpldoakgadaa", sum := "7acc9e196fa22eefac2923c8e3ccad81aaf7e445b46066783b31720842da8d1d", func := "loop.example/distanceautomata/laws.FnExactCostOfRun", spec := "fnExactCostOfRun", inPlace := ["internal/bytealg.abigen_runtime_cmpstring"], unfollowed := true, recurses := true, apart := false }
def FnExactCostOfRunSaid : Prop := fnExactCostOfRunRow.holds Try.pinned (OpenSpec.ofChange fnExactCostOfRunSpec)

/-- ITS FALSE NEIGHBOUR: 'it returns false'. Refute it at one input. -/
def fnExactCostOfRunWrong : ChangeSpec := { name := "fnExactCostOfRun", fn := fun _ => fun
  | [d1, d2, d3] => { results := [.lit (.bool false)], args := [d1, d2, d3] }
  | _ => none }
def FnExactCostOfRunWrongFalsely : Prop := fnExactCostOfRunRow.holds Try.pinned (OpenSpec.ofChange fnExactCostOfRunWrong)

/-- 'laws.FnExactStepMatrix': WHATEVER THE INPUT: true; the input reads as it did. -/
def fnExactStepMatrixSpec : ChangeSpec := { name := "fnExactStepMatrix", fn := fun _ => fun
  | [d1, d2] => { results := [.lit (.bool true)], args := [d1, d2] }
  | _ => none }
def fnExactStepMatrixRow : OpenClaim := { program := "ytejnpldoakgadaa", sum := "7acc9e196fa22eefac2923c8e3ccad81aaf7e445b46066783b31720842da8d1d", func := "loop.example/distanceautomata/laws.FnExactStepMatrix", spec := "fnExactStepMatrix", inPlace := ["internal/bytealg.abigen_runtime_cmpstring"], unfollowed := true, recurses := true, apart := false }
def FnExactStepMatrixSaid : Prop := fnExactStepMatrixRow.holds Try.pinned (OpenSpec.ofChange fnExactStepMatrixSpec)

/-- ITS FALSE NEIGHBOUR: 'it returns false'. Refute it at one input. -/
def fnExactStepMatrixWrong : ChangeSpec := { name := "fnExactStepMatrix", fn := fun _ => fun
  | [d1, d2] => { results := [.lit (.bool false)], args := [d1, d2] }
  | _ => none }
def FnExactStepMatrixWrongFalsely : Prop := fnExactStepMatrixRow.holds Try.pinned (OpenSpec.ofChange fnExactStepMatrixWrong)

/-- 'laws.FnStepMatrix': WHATEVER THE INPUT: true; the input reads as it did. -/
def fnStepMatrixSpec : ChangeSpec := { name := "fnStepMatrix", fn := fun _ => fun
  | [d] => { results := [.lit (.bool true)], args := [d] }
  | _ => none }
def fnStepMatrixRow : OpenClaim := { program := "ytejnpldoakgadaa", sum := "7acc9e196fa22eefac2923c8e3ccad81aaf7e445b46066783b31720842da8d1d", func := "loop.example/distanceautomata/laws.FnStepMatrix", spec := "fnStepMatrix", inPlace := ["internal/bytealg.abigen_runtime_cmpstring"], unfollowed := true, recurses := true, apart := false }
def FnStepMatrixSaid : Prop := fnStepMatrixRow.holds Try.pinned (OpenSpec.ofChange fnStepMatrixSpec)

/-- ITS FALSE NEIGHBOUR: 'it returns false'. Refute it at one input. -/
def fnStepMatrixWrong : ChangeSpec := { name := "fnStepMatrix", fn := fun _ => fun
  | [d] => { results := [.lit (.bool false)], args := [d] }
  | _ => none }
def FnStepMatrixWrongFalsely : Prop := fnStepMatrixRow.holds Try.pinned (OpenSpec.ofChange fnStepMatrixWrong)

/-- 'laws.FnExactCostOf': WHATEVER THE INPUT: true; the input reads as it did. -/
def fnExactCostOfSpec : ChangeSpec := { name := "fnExactCostOf", fn := fun _ => fun
  | [d1, d2] => { results := [.lit (.bool true)], args := [d1, d2] }
  | _ => none }
def fnExactCostOfRow : OpenClaim := { program := "ytejnpldoakgadaa", sum := "7acc9e196fa22eefac2923c8e3ccad81aaf7e445b46066783b31720842da8d1d", func := "loop.example/distanceautomata/laws.FnExactCostOf", spec := "fnExactCostOf", inPlace := ["internal/bytealg.abigen_runtime_cmpstring"], apart := false }
def FnExactCostOfSaid : Prop := fnExactCostOfRow.holds Try.pinned (OpenSpec.ofChange fnExactCostOfSpec)

/-- ITS FALSE NEIGHBOUR: 'it returns false'. Refute it at one input. -/
def fnExactCostOfWrong : ChangeSpec := { name := "fnExactCostOf", fn := fun _ => fun
  | [d1, d2] => { results := [.lit (.bool false)], args := [d1, d2] }
  | _ => none }
def FnExactCostOfWrongFalsely : Prop := fnExactCostOfRow.holds Try.pinned (OpenSpec.ofChange fnExactCostOfWrong)

/-- 'laws.FnExactCostliestWord': WHATEVER THE INPUT: true; the input reads as it did. -/
def fnExactCostliestWordSpec : ChangeSpec := { name := "fnExactCostliestWord", fn := fun _ => fun
  | [d1, d2] => { results := [.lit (.bool true)], args := [d1, d2] }
  | _ => none }
def fnExactCostliestWordRow : OpenClaim := { program := "ytejnpldoakgadaa", sum := "7acc9e196fa22eefac2923c8e3ccad81aaf7e445b46066783b31720842da8d1d", func := "loop.example/distanceautomata/laws.FnExactCostliestWord", spec := "fnExactCostliestWord", inPlace := ["internal/bytealg.abigen_runtime_cmpstring"], apart := false }
def FnExactCostliestWordSaid : Prop := fnExactCostliestWordRow.holds Try.pinned (OpenSpec.ofChange fnExactCostliestWordSpec)

/-- ITS FALSE NEIGHBOUR: 'it returns false'. Refute it at one input. -/
def fnExactCostliestWordWrong : ChangeSpec := { name := "fnExactCostliestWord", fn := fun _ => fun
  | [d1, d2] => { results := [.lit (.bool false)], args := [d1, d2] }
  | _ => none }
def FnExactCostliestWordWrongFalsely : Prop := fnExactCostliestWordRow.holds Try.pinned (OpenSpec.ofChange fnExactCostliestWordWrong)

/-- 'laws.FnExactCountAccepted': WHATEVER THE INPUT: true; the input reads as it did. -/
def fnExactCountAcceptedSpec : ChangeSpec := { name := "fnExactCountAccepted", fn := fun _ => fun
  | [d1, d2] => { results := [.lit (.bool true)], args := [d1, d2] }
  | _ => none }
def fnExactCountAcceptedRow : OpenClaim := { program := "ytejnpldoakgadaa", sum := "7acc9e196fa22eefac2923c8e3ccad81aaf7e445b46066783b31720842da8d1d", func := "loop.example/distanceautomata/laws.FnExactCountAccepted", spec := "fnExactCountAccepted", inPlace := ["internal/bytealg.abigen_runtime_cmpstring"], apart := false }
def FnExactCountAcceptedSaid : Prop := fnExactCountAcceptedRow.holds Try.pinned (OpenSpec.ofChange fnExactCountAcceptedSpec)

/-- ITS FALSE NEIGHBOUR: 'it returns false'. Refute it at one input. -/
def fnExactCountAcceptedWrong : ChangeSpec := { name := "fnExactCountAccepted", fn := fun _ => fun
  | [d1, d2] => { results := [.lit (.bool false)], args := [d1, d2] }
  | _ => none }
def FnExactCountAcceptedWrongFalsely : Prop := fnExactCountAcceptedRow.holds Try.pinned (OpenSpec.ofChange fnExactCountAcceptedWrong)

/- THE SECOND FORM. 'bulk': how many values and letters a reading holds, each counted each time it is reached (what is shared counts as often as it is met; a slice's spare places count too). A statement '..UptoSaid' is the law's where the arguments, and the package variables that the reading takes, are together of bulk at most 1048576: NARROWER than '..Said'. Prove '..Said' where nothing that the law and all that it calls make is longer than what came in: it says more and counts as full. Else prove '..UptoSaid'. A law counts once. -/
mutual
def uptoBulk {H : Type} : DataW H → Nat
  | .lit (.string bytes) => bytes.length + 1
  | .lit _ => 1
  | .nil => 1
  | .ptr d => uptoBulk d + 1
  | .slice elems spare => uptoBulkAll elems + uptoBulkAll spare + 1
  | .agg parts => uptoBulkAll parts + 1
  | .iface _ d => uptoBulk d + 1
  | .map entries => uptoBulkEntries entries + 1
  | .held _ => 1
def uptoBulkAll {H : Type} : List (DataW H) → Nat
  | [] => 0
  | d :: r => uptoBulk d + uptoBulkAll r
def uptoBulkEntries {H : Type} : List (Lit × DataW H) → Nat
  | [] => 0
  | x :: r => uptoBulkEntry x + uptoBulkEntries r
def uptoBulkEntry {H : Type} : Lit × DataW H → Nat
  | (.string bytes, d) => bytes.length + uptoBulk d + 1
  | (_, d) => uptoBulk d + 1
 end
def uptoSmall : (H : Type) → List (DataW H) → Bool := fun _ ds => decide (uptoBulkAll ds ≤ 1048576)
def OpenSpec.upto (s : _root_.Go.ChangeSpec) : _root_.Go.OpenSpec := { _root_.Go.OpenSpec.ofChange s with cond := some uptoSmall }

/-- 'laws.FnExactAutomatonValid', WHERE WHAT IT READS IS OF BULK AT MOST 1048576: true; the input reads as it did. -/
def fnExactAutomatonValidUptoRow : OpenClaim := { program := "ytejnpldoakgadaa", sum := "7acc9e196fa22eefac2923c8e3ccad81aaf7e445b46066783b31720842da8d1d", func := "loop.example/distanceautomata/laws.FnExactAutomatonValid", spec := "fnExactAutomatonValid", inPlace := ["internal/bytealg.abigen_runtime_cmpstring"], apart := false, narrowed := true }
def FnExactAutomatonValidUptoSaid : Prop := fnExactAutomatonValidUptoRow.holds Try.pinned (OpenSpec.upto fnExactAutomatonValidSpec)

/-- 'laws.FnExactLettersOf', WHERE WHAT IT READS IS OF BULK AT MOST 1048576: true; the input reads as it did. -/
def fnExactLettersOfUptoRow : OpenClaim := { program := "ytejnpldoakgadaa", sum := "7acc9e196fa22eefac2923c8e3ccad81aaf7e445b46066783b31720842da8d1d", func := "loop.example/distanceautomata/laws.FnExactLettersOf", spec := "fnExactLettersOf", inPlace := ["internal/bytealg.abigen_runtime_cmpstring"], unfollowed := true, recurses := true, apart := false, narrowed := true }
def FnExactLettersOfUptoSaid : Prop := fnExactLettersOfUptoRow.holds Try.pinned (OpenSpec.upto fnExactLettersOfSpec)

/-- 'laws.FnExactCostOfRun', WHERE WHAT IT READS IS OF BULK AT MOST 1048576: true; the input reads as it did. -/
def fnExactCostOfRunUptoRow : OpenClaim := { program := "ytejnpldoakgadaa", sum := "7acc9e196fa22eefac2923c8e3ccad81aaf7e445b46066783b31720842da8d1d", func := "loop.example/distanceautomata/laws.FnExactCostOfRun", spec := "fnExactCostOfRun", inPlace := ["internal/bytealg.abigen_runtime_cmpstring"], unfollowed := true, recurses := true, apart := false, narrowed := true }
def FnExactCostOfRunUptoSaid : Prop := fnExactCostOfRunUptoRow.holds Try.pinned (OpenSpec.upto fnExactCostOfRunSpec)

/-- 'laws.FnExactStepMatrix', WHERE WHAT IT READS IS OF BULK AT MOST 1048576: true; the input reads as it did. -/
def fnExactStepMatrixUptoRow : OpenClaim := { program := "ytejnpldoakgadaa", sum := "7acc9e196fa22eefac2923c8e3ccad81aaf7e445b46066783b31720842da8d1d", func := "loop.example/distanceautomata/laws.FnExactStepMatrix", spec := "fnExactStepMatrix", inPlace := ["internal/bytealg.abigen_runtime_cmpstring"], unfollowed := true, recurses := true, apart := false, narrowed := true }
def FnExactStepMatrixUptoSaid : Prop := fnExactStepMatrixUptoRow.holds Try.pinned (OpenSpec.upto fnExactStepMatrixSpec)

/-- 'laws.FnStepMatrix', WHERE WHAT IT READS IS OF BULK AT MOST 1048576: true; the input reads as it did. -/
def fnStepMatrixUptoRow : OpenClaim := { program := "ytejnpldoakgadaa", sum := "7acc9e196fa22eefac2923c8e3ccad81aaf7e445b46066783b31720842da8d1d", func := "loop.example/distanceautomata/laws.FnStepMatrix", spec := "fnStepMatrix", inPlace := ["internal/bytealg.abigen_runtime_cmpstring"], unfollowed := true, recurses := true, apart := false, narrowed := true }
def FnStepMatrixUptoSaid : Prop := fnStepMatrixUptoRow.holds Try.pinned (OpenSpec.upto fnStepMatrixSpec)

/-- 'laws.FnExactCostOf', WHERE WHAT IT READS IS OF BULK AT MOST 1048576: true; the input reads as it did. -/
def fnExactCostOfUptoRow : OpenClaim := { program := "ytejnpldoakgadaa", sum := "7acc9e196fa22eefac2923c8e3ccad81aaf7e445b46066783b31720842da8d1d", func := "loop.example/distanceautomata/laws.FnExactCostOf", spec := "fnExactCostOf", inPlace := ["internal/bytealg.abigen_runtime_cmpstring"], apart := false, narrowed := true }
def FnExactCostOfUptoSaid : Prop := fnExactCostOfUptoRow.holds Try.pinned (OpenSpec.upto fnExactCostOfSpec)

/-- 'laws.FnExactCostliestWord', WHERE WHAT IT READS IS OF BULK AT MOST 1048576: true; the input reads as it did. -/
def fnExactCostliestWordUptoRow : OpenClaim := { program := "ytejnpldoakgadaa", sum := "7acc9e196fa22eefac2923c8e3ccad81aaf7e445b46066783b31720842da8d1d", func := "loop.example/distanceautomata/laws.FnExactCostliestWord", spec := "fnExactCostliestWord", inPlace := ["internal/bytealg.abigen_runtime_cmpstring"], apart := false, narrowed := true }
def FnExactCostliestWordUptoSaid : Prop := fnExactCostliestWordUptoRow.holds Try.pinned (OpenSpec.upto fnExactCostliestWordSpec)

/-- 'laws.FnExactCountAccepted', WHERE WHAT IT READS IS OF BULK AT MOST 1048576: true; the input reads as it did. -/
def fnExactCountAcceptedUptoRow : OpenClaim := { program := "ytejnpldoakgadaa", sum := "7acc9e196fa22eefac2923c8e3ccad81aaf7e445b46066783b31720842da8d1d", func := "loop.example/distanceautomata/laws.FnExactCountAccepted", spec := "fnExactCountAccepted", inPlace := ["internal/bytealg.abigen_runtime_cmpstring"], apart := false, narrowed := true }
def FnExactCountAcceptedUptoSaid : Prop := fnExactCountAcceptedUptoRow.holds Try.pinned (OpenSpec.upto fnExactCountAcceptedSpec)

end Rows
end Go.Proofs.Ytejnpldoakgadaa
