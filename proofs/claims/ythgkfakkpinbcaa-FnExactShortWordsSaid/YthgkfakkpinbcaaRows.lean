/-
  No cell of these rows narrows 'for every input' (looked for: loops, veiled, ifaces, maps, wideKeys, modest, calm, conditions, laid).
  DERIVED. THE GIVEN ROWS OF THIS SEAT. 13 by the template 'for every input the law returns true; each argument reads behind the call as it read before'; 0 by the template 'total and deterministic' (their statements: YthgkfakkpinbcaaTotals.lean).
  GIVEN WITH THE SEED: the statements are not yours to turn. If you find one false, say at which input.
  Laid BY PROGRAM, IN A SANDBOX (cutbox-rows.mjs): the forced cells as the released guide's own fill.sh prints them over the translation f1c518b5e782ab70… (all of the seat's roots in one cut). By AI agents, Wed Nov 11 2026. No macro, syntax, notation, axiom, sorry.
-/
import Derived.Test.YthgkfakkpinbcaaChecked
import GoSem.Claim
import GoSem.ClaimJoined
import GoSem.ClaimMapViews
import Derived.JoinedTies
import Derived.KernelRfl
namespace Go.Proofs.Ythgkfakkpinbcaa
/- THE CELL 'sum', in the pinned program and in every row, IS THE sha256 OF THE DUMP (.gsa) THAT YthgkfakkpinbcaaProg.lean LOADS. Nothing in Lean hashes anything: it is a label: what it is worth is what the hold of that sum in a sandbox is worth. -/
noncomputable def Try.pinned : Pinned := { name := "ythgkfakkpinbcaa", sum := "f1c518b5e782ab70e96c1208169bbd6f5564fc91ab2c8fd0bd7aefc39a665f0b", checked := Try.checked }
namespace Rows
def none {H : Type} : Left H := { results := [], args := [] }

/-- 'laws.FnExactConstants': WHATEVER THE INPUT: true; the input reads as it did. -/
def fnExactConstantsSpec : ChangeSpec := { name := "fnExactConstants", fn := fun _ => fun
  | [] => { results := [.lit (.bool true)], args := [] }
  | _ => none }
def fnExactConstantsRow : OpenClaim := { program := "ythgkfakkpinbcaa", sum := "f1c518b5e782ab70e96c1208169bbd6f5564fc91ab2c8fd0bd7aefc39a665f0b", func := "loop.example/distanceautomata/laws.FnExactConstants", spec := "fnExactConstants", apart := false }
def FnExactConstantsSaid : Prop := fnExactConstantsRow.holds Try.pinned (OpenSpec.ofChange fnExactConstantsSpec)

/-- ITS FALSE NEIGHBOUR: 'it returns false'. Refute it at one input. -/
def fnExactConstantsWrong : ChangeSpec := { name := "fnExactConstants", fn := fun _ => fun
  | [] => { results := [.lit (.bool false)], args := [] }
  | _ => none }
def FnExactConstantsWrongFalsely : Prop := fnExactConstantsRow.holds Try.pinned (OpenSpec.ofChange fnExactConstantsWrong)

/-- 'laws.FnExactCostValid': WHATEVER THE INPUT: true; the input reads as it did. -/
def fnExactCostValidSpec : ChangeSpec := { name := "fnExactCostValid", fn := fun _ => fun
  | [d] => { results := [.lit (.bool true)], args := [d] }
  | _ => none }
def fnExactCostValidRow : OpenClaim := { program := "ythgkfakkpinbcaa", sum := "f1c518b5e782ab70e96c1208169bbd6f5564fc91ab2c8fd0bd7aefc39a665f0b", func := "loop.example/distanceautomata/laws.FnExactCostValid", spec := "fnExactCostValid", apart := false }
def FnExactCostValidSaid : Prop := fnExactCostValidRow.holds Try.pinned (OpenSpec.ofChange fnExactCostValidSpec)

/-- ITS FALSE NEIGHBOUR: 'it returns false'. Refute it at one input. -/
def fnExactCostValidWrong : ChangeSpec := { name := "fnExactCostValid", fn := fun _ => fun
  | [d] => { results := [.lit (.bool false)], args := [d] }
  | _ => none }
def FnExactCostValidWrongFalsely : Prop := fnExactCostValidRow.holds Try.pinned (OpenSpec.ofChange fnExactCostValidWrong)

/-- 'laws.FnExactWordValid': WHATEVER THE INPUT: true; the input reads as it did. -/
def fnExactWordValidSpec : ChangeSpec := { name := "fnExactWordValid", fn := fun _ => fun
  | [d] => { results := [.lit (.bool true)], args := [d] }
  | _ => none }
def fnExactWordValidRow : OpenClaim := { program := "ythgkfakkpinbcaa", sum := "f1c518b5e782ab70e96c1208169bbd6f5564fc91ab2c8fd0bd7aefc39a665f0b", func := "loop.example/distanceautomata/laws.FnExactWordValid", spec := "fnExactWordValid", apart := false }
def FnExactWordValidSaid : Prop := fnExactWordValidRow.holds Try.pinned (OpenSpec.ofChange fnExactWordValidSpec)

/-- ITS FALSE NEIGHBOUR: 'it returns false'. Refute it at one input. -/
def fnExactWordValidWrong : ChangeSpec := { name := "fnExactWordValid", fn := fun _ => fun
  | [d] => { results := [.lit (.bool false)], args := [d] }
  | _ => none }
def FnExactWordValidWrongFalsely : Prop := fnExactWordValidRow.holds Try.pinned (OpenSpec.ofChange fnExactWordValidWrong)

/-- 'laws.FnExactMinCost': WHATEVER THE INPUT: true; the input reads as it did. -/
def fnExactMinCostSpec : ChangeSpec := { name := "fnExactMinCost", fn := fun _ => fun
  | [d1, d2] => { results := [.lit (.bool true)], args := [d1, d2] }
  | _ => none }
def fnExactMinCostRow : OpenClaim := { program := "ythgkfakkpinbcaa", sum := "f1c518b5e782ab70e96c1208169bbd6f5564fc91ab2c8fd0bd7aefc39a665f0b", func := "loop.example/distanceautomata/laws.FnExactMinCost", spec := "fnExactMinCost", apart := false }
def FnExactMinCostSaid : Prop := fnExactMinCostRow.holds Try.pinned (OpenSpec.ofChange fnExactMinCostSpec)

/-- ITS FALSE NEIGHBOUR: 'it returns false'. Refute it at one input. -/
def fnExactMinCostWrong : ChangeSpec := { name := "fnExactMinCost", fn := fun _ => fun
  | [d1, d2] => { results := [.lit (.bool false)], args := [d1, d2] }
  | _ => none }
def FnExactMinCostWrongFalsely : Prop := fnExactMinCostRow.holds Try.pinned (OpenSpec.ofChange fnExactMinCostWrong)

/-- 'laws.FnExactAddCost': WHATEVER THE INPUT: true; the input reads as it did. -/
def fnExactAddCostSpec : ChangeSpec := { name := "fnExactAddCost", fn := fun _ => fun
  | [d1, d2] => { results := [.lit (.bool true)], args := [d1, d2] }
  | _ => none }
def fnExactAddCostRow : OpenClaim := { program := "ythgkfakkpinbcaa", sum := "f1c518b5e782ab70e96c1208169bbd6f5564fc91ab2c8fd0bd7aefc39a665f0b", func := "loop.example/distanceautomata/laws.FnExactAddCost", spec := "fnExactAddCost", apart := false }
def FnExactAddCostSaid : Prop := fnExactAddCostRow.holds Try.pinned (OpenSpec.ofChange fnExactAddCostSpec)

/-- ITS FALSE NEIGHBOUR: 'it returns false'. Refute it at one input. -/
def fnExactAddCostWrong : ChangeSpec := { name := "fnExactAddCost", fn := fun _ => fun
  | [d1, d2] => { results := [.lit (.bool false)], args := [d1, d2] }
  | _ => none }
def FnExactAddCostWrongFalsely : Prop := fnExactAddCostRow.holds Try.pinned (OpenSpec.ofChange fnExactAddCostWrong)

/-- 'laws.FnExactTimesCost': WHATEVER THE INPUT: true; the input reads as it did. -/
def fnExactTimesCostSpec : ChangeSpec := { name := "fnExactTimesCost", fn := fun _ => fun
  | [d1, d2] => { results := [.lit (.bool true)], args := [d1, d2] }
  | _ => none }
def fnExactTimesCostRow : OpenClaim := { program := "ythgkfakkpinbcaa", sum := "f1c518b5e782ab70e96c1208169bbd6f5564fc91ab2c8fd0bd7aefc39a665f0b", func := "loop.example/distanceautomata/laws.FnExactTimesCost", spec := "fnExactTimesCost", apart := false }
def FnExactTimesCostSaid : Prop := fnExactTimesCostRow.holds Try.pinned (OpenSpec.ofChange fnExactTimesCostSpec)

/-- ITS FALSE NEIGHBOUR: 'it returns false'. Refute it at one input. -/
def fnExactTimesCostWrong : ChangeSpec := { name := "fnExactTimesCost", fn := fun _ => fun
  | [d1, d2] => { results := [.lit (.bool false)], args := [d1, d2] }
  | _ => none }
def FnExactTimesCostWrongFalsely : Prop := fnExactTimesCostRow.holds Try.pinned (OpenSpec.ofChange fnExactTimesCostWrong)

/-- 'laws.FnExactLeastCost': WHATEVER THE INPUT: true; the input reads as it did. -/
def fnExactLeastCostSpec : ChangeSpec := { name := "fnExactLeastCost", fn := fun _ => fun
  | [d] => { results := [.lit (.bool true)], args := [d] }
  | _ => none }
def fnExactLeastCostRow : OpenClaim := { program := "ythgkfakkpinbcaa", sum := "f1c518b5e782ab70e96c1208169bbd6f5564fc91ab2c8fd0bd7aefc39a665f0b", func := "loop.example/distanceautomata/laws.FnExactLeastCost", spec := "fnExactLeastCost", apart := false }
def FnExactLeastCostSaid : Prop := fnExactLeastCostRow.holds Try.pinned (OpenSpec.ofChange fnExactLeastCostSpec)

/-- ITS FALSE NEIGHBOUR: 'it returns false'. Refute it at one input. -/
def fnExactLeastCostWrong : ChangeSpec := { name := "fnExactLeastCost", fn := fun _ => fun
  | [d] => { results := [.lit (.bool false)], args := [d] }
  | _ => none }
def FnExactLeastCostWrongFalsely : Prop := fnExactLeastCostRow.holds Try.pinned (OpenSpec.ofChange fnExactLeastCostWrong)

/-- 'laws.FnExactSumCosts': WHATEVER THE INPUT: true; the input reads as it did. -/
def fnExactSumCostsSpec : ChangeSpec := { name := "fnExactSumCosts", fn := fun _ => fun
  | [d] => { results := [.lit (.bool true)], args := [d] }
  | _ => none }
def fnExactSumCostsRow : OpenClaim := { program := "ythgkfakkpinbcaa", sum := "f1c518b5e782ab70e96c1208169bbd6f5564fc91ab2c8fd0bd7aefc39a665f0b", func := "loop.example/distanceautomata/laws.FnExactSumCosts", spec := "fnExactSumCosts", apart := false }
def FnExactSumCostsSaid : Prop := fnExactSumCostsRow.holds Try.pinned (OpenSpec.ofChange fnExactSumCostsSpec)

/-- ITS FALSE NEIGHBOUR: 'it returns false'. Refute it at one input. -/
def fnExactSumCostsWrong : ChangeSpec := { name := "fnExactSumCosts", fn := fun _ => fun
  | [d] => { results := [.lit (.bool false)], args := [d] }
  | _ => none }
def FnExactSumCostsWrongFalsely : Prop := fnExactSumCostsRow.holds Try.pinned (OpenSpec.ofChange fnExactSumCostsWrong)

/-- 'laws.FnAddCost': WHATEVER THE INPUT: true; the input reads as it did. -/
def fnAddCostSpec : ChangeSpec := { name := "fnAddCost", fn := fun _ => fun
  | [d1, d2] => { results := [.lit (.bool true)], args := [d1, d2] }
  | _ => none }
def fnAddCostRow : OpenClaim := { program := "ythgkfakkpinbcaa", sum := "f1c518b5e782ab70e96c1208169bbd6f5564fc91ab2c8fd0bd7aefc39a665f0b", func := "loop.example/distanceautomata/laws.FnAddCost", spec := "fnAddCost", apart := false }
def FnAddCostSaid : Prop := fnAddCostRow.holds Try.pinned (OpenSpec.ofChange fnAddCostSpec)

/-- ITS FALSE NEIGHBOUR: 'it returns false'. Refute it at one input. -/
def fnAddCostWrong : ChangeSpec := { name := "fnAddCost", fn := fun _ => fun
  | [d1, d2] => { results := [.lit (.bool false)], args := [d1, d2] }
  | _ => none }
def FnAddCostWrongFalsely : Prop := fnAddCostRow.holds Try.pinned (OpenSpec.ofChange fnAddCostWrong)

/-- 'laws.FnExactShortWords': WHATEVER THE INPUT: true; the input reads as it did. -/
def fnExactShortWordsSpec : ChangeSpec := { name := "fnExactShortWords", fn := fun _ => fun
  | [d] => { results := [.lit (.bool true)], args := [d] }
  | _ => none }
def fnExactShortWordsRow : OpenClaim := { program := "ythgkfakkpinbcaa", sum := "f1c518b5e782ab70e96c1208169bbd6f5564fc91ab2c8fd0bd7aefc39a665f0b", func := "loop.example/distanceautomata/laws.FnExactShortWords", spec := "fnExactShortWords", apart := false }
def FnExactShortWordsSaid : Prop := fnExactShortWordsRow.holds Try.pinned (OpenSpec.ofChange fnExactShortWordsSpec)

/-- ITS FALSE NEIGHBOUR: 'it returns false'. Refute it at one input. -/
def fnExactShortWordsWrong : ChangeSpec := { name := "fnExactShortWords", fn := fun _ => fun
  | [d] => { results := [.lit (.bool false)], args := [d] }
  | _ => none }
def FnExactShortWordsWrongFalsely : Prop := fnExactShortWordsRow.holds Try.pinned (OpenSpec.ofChange fnExactShortWordsWrong)

/-- 'laws.FnExactSameMatrix': WHATEVER THE INPUT: true; the input reads as it did. -/
def fnExactSameMatrixSpec : ChangeSpec := { name := "fnExactSameMatrix", fn := fun _ => fun
  | [d1, d2] => { results := [.lit (.bool true)], args := [d1, d2] }
  | _ => none }
def fnExactSameMatrixRow : OpenClaim := { program := "ythgkfakkpinbcaa", sum := "f1c518b5e782ab70e96c1208169bbd6f5564fc91ab2c8fd0bd7aefc39a665f0b", func := "loop.example/distanceautomata/laws.FnExactSameMatrix", spec := "fnExactSameMatrix", apart := false }
def FnExactSameMatrixSaid : Prop := fnExactSameMatrixRow.holds Try.pinned (OpenSpec.ofChange fnExactSameMatrixSpec)

/-- ITS FALSE NEIGHBOUR: 'it returns false'. Refute it at one input. -/
def fnExactSameMatrixWrong : ChangeSpec := { name := "fnExactSameMatrix", fn := fun _ => fun
  | [d1, d2] => { results := [.lit (.bool false)], args := [d1, d2] }
  | _ => none }
def FnExactSameMatrixWrongFalsely : Prop := fnExactSameMatrixRow.holds Try.pinned (OpenSpec.ofChange fnExactSameMatrixWrong)

/-- 'laws.FnTimesCost': WHATEVER THE INPUT: true; the input reads as it did. -/
def fnTimesCostSpec : ChangeSpec := { name := "fnTimesCost", fn := fun _ => fun
  | [d1, d2] => { results := [.lit (.bool true)], args := [d1, d2] }
  | _ => none }
def fnTimesCostRow : OpenClaim := { program := "ythgkfakkpinbcaa", sum := "f1c518b5e782ab70e96c1208169bbd6f5564fc91ab2c8fd0bd7aefc39a665f0b", func := "loop.example/distanceautomata/laws.FnTimesCost", spec := "fnTimesCost", apart := false }
def FnTimesCostSaid : Prop := fnTimesCostRow.holds Try.pinned (OpenSpec.ofChange fnTimesCostSpec)

/-- ITS FALSE NEIGHBOUR: 'it returns false'. Refute it at one input. -/
def fnTimesCostWrong : ChangeSpec := { name := "fnTimesCost", fn := fun _ => fun
  | [d1, d2] => { results := [.lit (.bool false)], args := [d1, d2] }
  | _ => none }
def FnTimesCostWrongFalsely : Prop := fnTimesCostRow.holds Try.pinned (OpenSpec.ofChange fnTimesCostWrong)

/-- 'laws.FnSums': WHATEVER THE INPUT: true; the input reads as it did. -/
def fnSumsSpec : ChangeSpec := { name := "fnSums", fn := fun _ => fun
  | [d] => { results := [.lit (.bool true)], args := [d] }
  | _ => none }
def fnSumsRow : OpenClaim := { program := "ythgkfakkpinbcaa", sum := "f1c518b5e782ab70e96c1208169bbd6f5564fc91ab2c8fd0bd7aefc39a665f0b", func := "loop.example/distanceautomata/laws.FnSums", spec := "fnSums", apart := false }
def FnSumsSaid : Prop := fnSumsRow.holds Try.pinned (OpenSpec.ofChange fnSumsSpec)

/-- ITS FALSE NEIGHBOUR: 'it returns false'. Refute it at one input. -/
def fnSumsWrong : ChangeSpec := { name := "fnSums", fn := fun _ => fun
  | [d] => { results := [.lit (.bool false)], args := [d] }
  | _ => none }
def FnSumsWrongFalsely : Prop := fnSumsRow.holds Try.pinned (OpenSpec.ofChange fnSumsWrong)

/- THE SECOND FORM. 'bulk': how many values and letters a reading holds, each counted each time it is reached (what is shared counts as often as it is met; a slice's spare places count too). A statement '..UptoSaid' is the law's where the arguments, and the package variables that the reading takes, are together of bulk at most 1048576: NARROWER than '..Said'. Prove '..Said' where nothing that the law and all that it calls make is longer than what came in: it says more and counts as full. Else prove '..UptoSaid'. A law counts once. -/
mutual
def uptoBulk {H : Type} : DataW H → Nat
  | .lit (.string bytes) => bytes.length + 1
  | .lit _ => 1
  | .nil => 1
  | .ptr d => uptoBulk d + 1
  | .slice elems spare => uptoBulkAll elems + uptoBulkAll spare + 1
  | .agg parts => uptoBulkAll parts + 1
  | .iface _ d => uptoBulk d + 1
  | .map entries => uptoBulkEntries entries + 1
  | .held _ => 1
def uptoBulkAll {H : Type} : List (DataW H) → Nat
  | [] => 0
  | d :: r => uptoBulk d + uptoBulkAll r
def uptoBulkEntries {H : Type} : List (Lit × DataW H) → Nat
  | [] => 0
  | x :: r => uptoBulkEntry x + uptoBulkEntries r
def uptoBulkEntry {H : Type} : Lit × DataW H → Nat
  | (.string bytes, d) => bytes.length + uptoBulk d + 1
  | (_, d) => uptoBulk d + 1
 end
def uptoSmall : (H : Type) → List (DataW H) → Bool := fun _ ds => decide (uptoBulkAll ds ≤ 1048576)
def OpenSpec.upto (s : _root_.Go.ChangeSpec) : _root_.Go.OpenSpec := { _root_.Go.OpenSpec.ofChange s with cond := some uptoSmall }

/-- 'laws.FnExactConstants', WHERE WHAT IT READS IS OF BULK AT MOST 1048576: true; the input reads as it did. -/
def fnExactConstantsUptoRow : OpenClaim := { program := "ythgkfakkpinbcaa", sum := "f1c518b5e782ab70e96c1208169bbd6f5564fc91ab2c8fd0bd7aefc39a665f0b", func := "loop.example/distanceautomata/laws.FnExactConstants", spec := "fnExactConstants", apart := false, narrowed := true }
def FnExactConstantsUptoSaid : Prop := fnExactConstantsUptoRow.holds Try.pinned (OpenSpec.upto fnExactConstantsSpec)

/-- 'laws.FnExactCostValid', WHERE WHAT IT READS IS OF BULK AT MOST 1048576: true; the input reads as it did. -/
def fnExactCostValidUptoRow : OpenClaim := { program := "ythgkfakkpinbcaa", sum := "f1c518b5e782ab70e96c1208169bbd6f5564fc91ab2c8fd0bd7aefc39a665f0b", func := "loop.example/distanceautomata/laws.FnExactCostValid", spec := "fnExactCostValid", apart := false, narrowed := true }
def FnExactCostValidUptoSaid : Prop := fnExactCostValidUptoRow.holds Try.pinned (OpenSpec.upto fnExactCostValidSpec)

/-- 'laws.FnExactWordValid', WHERE WHAT IT READS IS OF BULK AT MOST 1048576: true; the input reads as it did. -/
def fnExactWordValidUptoRow : OpenClaim := { program := "ythgkfakkpinbcaa", sum := "f1c518b5e782ab70e96c1208169bbd6f5564fc91ab2c8fd0bd7aefc39a665f0b", func := "loop.example/distanceautomata/laws.FnExactWordValid", spec := "fnExactWordValid", apart := false, narrowed := true }
def FnExactWordValidUptoSaid : Prop := fnExactWordValidUptoRow.holds Try.pinned (OpenSpec.upto fnExactWordValidSpec)

/-- 'laws.FnExactMinCost', WHERE WHAT IT READS IS OF BULK AT MOST 1048576: true; the input reads as it did. -/
def fnExactMinCostUptoRow : OpenClaim := { program := "ythgkfakkpinbcaa", sum := "f1c518b5e782ab70e96c1208169bbd6f5564fc91ab2c8fd0bd7aefc39a665f0b", func := "loop.example/distanceautomata/laws.FnExactMinCost", spec := "fnExactMinCost", apart := false, narrowed := true }
def FnExactMinCostUptoSaid : Prop := fnExactMinCostUptoRow.holds Try.pinned (OpenSpec.upto fnExactMinCostSpec)

/-- 'laws.FnExactAddCost', WHERE WHAT IT READS IS OF BULK AT MOST 1048576: true; the input reads as it did. -/
def fnExactAddCostUptoRow : OpenClaim := { program := "ythgkfakkpinbcaa", sum := "f1c518b5e782ab70e96c1208169bbd6f5564fc91ab2c8fd0bd7aefc39a665f0b", func := "loop.example/distanceautomata/laws.FnExactAddCost", spec := "fnExactAddCost", apart := false, narrowed := true }
def FnExactAddCostUptoSaid : Prop := fnExactAddCostUptoRow.holds Try.pinned (OpenSpec.upto fnExactAddCostSpec)

/-- 'laws.FnExactTimesCost', WHERE WHAT IT READS IS OF BULK AT MOST 1048576: true; the input reads as it did. -/
def fnExactTimesCostUptoRow : OpenClaim := { program := "ythgkfakkpinbcaa", sum := "f1c518b5e782ab70e96c1208169bbd6f5564fc91ab2c8fd0bd7aefc39a665f0b", func := "loop.example/distanceautomata/laws.FnExactTimesCost", spec := "fnExactTimesCost", apart := false, narrowed := true }
def FnExactTimesCostUptoSaid : Prop := fnExactTimesCostUptoRow.holds Try.pinned (OpenSpec.upto fnExactTimesCostSpec)

/-- 'laws.FnExactLeastCost', WHERE WHAT IT READS IS OF BULK AT MOST 1048576: true; the input reads as it did. -/
def fnExactLeastCostUptoRow : OpenClaim := { program := "ythgkfakkpinbcaa", sum := "f1c518b5e782ab70e96c1208169bbd6f5564fc91ab2c8fd0bd7aefc39a665f0b", func := "loop.example/distanceautomata/laws.FnExactLeastCost", spec := "fnExactLeastCost", apart := false, narrowed := true }
def FnExactLeastCostUptoSaid : Prop := fnExactLeastCostUptoRow.holds Try.pinned (OpenSpec.upto fnExactLeastCostSpec)

/-- 'laws.FnExactSumCosts', WHERE WHAT IT READS IS OF BULK AT MOST 1048576: true; the input reads as it did. -/
def fnExactSumCostsUptoRow : OpenClaim := { program := "ythgkfakkpinbcaa", sum := "f1c518b5e782ab70e96c1208169bbd6f5564fc91ab2c8fd0bd7aefc39a665f0b", func := "loop.example/distanceautomata/laws.FnExactSumCosts", spec := "fnExactSumCosts", apart := false, narrowed := true }
def FnExactSumCostsUptoSaid : Prop := fnExactSumCostsUptoRow.holds Try.pinned (OpenSpec.upto fnExactSumCostsSpec)

/-- 'laws.FnAddCost', WHERE WHAT IT READS IS OF BULK AT MOST 1048576: true; the input reads as it did. -/
def fnAddCostUptoRow : OpenClaim := { program := "ythgkfakkpinbcaa", sum := "f1c518b5e782ab70e96c1208169bbd6f5564fc91ab2c8fd0bd7aefc39a665f0b", func := "loop.example/distanceautomata/laws.FnAddCost", spec := "fnAddCost", apart := false, narrowed := true }
def FnAddCostUptoSaid : Prop := fnAddCostUptoRow.holds Try.pinned (OpenSpec.upto fnAddCostSpec)

/-- 'laws.FnExactShortWords', WHERE WHAT IT READS IS OF BULK AT MOST 1048576: true; the input reads as it did. -/
def fnExactShortWordsUptoRow : OpenClaim := { program := "ythgkfakkpinbcaa", sum := "f1c518b5e782ab70e96c1208169bbd6f5564fc91ab2c8fd0bd7aefc39a665f0b", func := "loop.example/distanceautomata/laws.FnExactShortWords", spec := "fnExactShortWords", apart := false, narrowed := true }
def FnExactShortWordsUptoSaid : Prop := fnExactShortWordsUptoRow.holds Try.pinned (OpenSpec.upto fnExactShortWordsSpec)

/-- 'laws.FnExactSameMatrix', WHERE WHAT IT READS IS OF BULK AT MOST 1048576: true; the input reads as it did. -/
def fnExactSameMatrixUptoRow : OpenClaim := { program := "ythgkfakkpinbcaa", sum := "f1c518b5e782ab70e96c1208169bbd6f5564fc91ab2c8fd0bd7aefc39a665f0b", func := "loop.example/distanceautomata/laws.FnExactSameMatrix", spec := "fnExactSameMatrix", apart := false, narrowed := true }
def FnExactSameMatrixUptoSaid : Prop := fnExactSameMatrixUptoRow.holds Try.pinned (OpenSpec.upto fnExactSameMatrixSpec)

/-- 'laws.FnTimesCost', WHERE WHAT IT READS IS OF BULK AT MOST 1048576: true; the input reads as it did. -/
def fnTimesCostUptoRow : OpenClaim := { program := "ythgkfakkpinbcaa", sum := "f1c518b5e782ab70e96c1208169bbd6f5564fc91ab2c8fd0bd7aefc39a665f0b", func := "loop.example/distanceautomata/laws.FnTimesCost", spec := "fnTimesCost", apart := false, narrowed := true }
def FnTimesCostUptoSaid : Prop := fnTimesCostUptoRow.holds Try.pinned (OpenSpec.upto fnTimesCostSpec)

/-- 'laws.FnSums', WHERE WHAT IT READS IS OF BULK AT MOST 1048576: true; the input reads as it did. -/
def fnSumsUptoRow : OpenClaim := { program := "ythgkfakkpinbcaa", sum := "f1c518b5e782ab70e96c1208169bbd6f5564fc91ab2c8fd0bd7aefc39a665f0b", func := "loop.example/distanceautomata/laws.FnSums", spec := "fnSums", apart := false, narrowed := true }
def FnSumsUptoSaid : Prop := fnSumsUptoRow.holds Try.pinned (OpenSpec.upto fnSumsSpec)

end Rows
end Go.Proofs.Ythgkfakkpinbcaa
