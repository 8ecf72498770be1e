/-
  No cell of these rows narrows 'for every input' (looked for: loops, veiled, ifaces, maps, wideKeys, modest, calm, conditions, laid).
  DERIVED. THE GIVEN ROWS OF THIS SEAT. 6 by the template 'for every input the law returns true; each argument reads behind the call as it read before'; 0 by the template 'total and deterministic' (their statements: YtojfbgegankddaaTotals.lean).
  GIVEN WITH THE SEED: the statements are not yours to turn. If you find one false, say at which input.
  Laid BY PROGRAM, IN A SANDBOX (cutbox-rows.mjs): the forced cells as the released guide's own fill.sh prints them over the translation 36d8e4543405c39b… (all of the seat's roots in one cut). By AI agents, Wed Nov 11 2026. No macro, syntax, notation, axiom, sorry.
-/
import Derived.Test.YtojfbgegankddaaChecked
import GoSem.Claim
import GoSem.ClaimJoined
import GoSem.ClaimMapViews
import Derived.JoinedTies
import Derived.KernelRfl
namespace Go.Proofs.Ytojfbgegankddaa
/- THE CELL 'sum', in the pinned program and in every row, IS THE sha256 OF THE DUMP (.gsa) THAT YtojfbgegankddaaProg.lean LOADS. Nothing in Lean hashes anything: it is a label: what it is worth is what the hold of that sum in a sandbox is worth. -/
noncomputable def Try.pinned : Pinned := { name := "ytojfbgegankddaa", sum := "36d8e4543405c39bee397761ede35684f20a666a4b18bcf6ff5cae350e55c449", checked := Try.checked }
namespace Rows
def none {H : Type} : Left H := { results := [], args := [] }

/-- 'laws.FnFree': WHATEVER THE INPUT: true; the input reads as it did. -/
def fnFreeSpec : ChangeSpec := { name := "fnFree", fn := fun _ => fun
  | [d] => { results := [.lit (.bool true)], args := [d] }
  | _ => none }
def fnFreeRow : OpenClaim := { program := "ytojfbgegankddaa", sum := "36d8e4543405c39bee397761ede35684f20a666a4b18bcf6ff5cae350e55c449", func := "loop.example/distanceautomata/laws.FnFree", spec := "fnFree", inPlace := ["internal/bytealg.abigen_runtime_cmpstring"], unfollowed := true, recurses := true, apart := false }
def FnFreeSaid : Prop := fnFreeRow.holds Try.pinned (OpenSpec.ofChange fnFreeSpec)

/-- ITS FALSE NEIGHBOUR: 'it returns false'. Refute it at one input. -/
def fnFreeWrong : ChangeSpec := { name := "fnFree", fn := fun _ => fun
  | [d] => { results := [.lit (.bool false)], args := [d] }
  | _ => none }
def FnFreeWrongFalsely : Prop := fnFreeRow.holds Try.pinned (OpenSpec.ofChange fnFreeWrong)

/-- 'laws.FnExactUsefulOf': WHATEVER THE INPUT: true; the input reads as it did. -/
def fnExactUsefulOfSpec : ChangeSpec := { name := "fnExactUsefulOf", fn := fun _ => fun
  | [d] => { results := [.lit (.bool true)], args := [d] }
  | _ => none }
def fnExactUsefulOfRow : OpenClaim := { program := "ytojfbgegankddaa", sum := "36d8e4543405c39bee397761ede35684f20a666a4b18bcf6ff5cae350e55c449", func := "loop.example/distanceautomata/laws.FnExactUsefulOf", spec := "fnExactUsefulOf", inPlace := ["internal/bytealg.abigen_runtime_cmpstring"], unfollowed := true, recurses := true, apart := false }
def FnExactUsefulOfSaid : Prop := fnExactUsefulOfRow.holds Try.pinned (OpenSpec.ofChange fnExactUsefulOfSpec)

/-- ITS FALSE NEIGHBOUR: 'it returns false'. Refute it at one input. -/
def fnExactUsefulOfWrong : ChangeSpec := { name := "fnExactUsefulOf", fn := fun _ => fun
  | [d] => { results := [.lit (.bool false)], args := [d] }
  | _ => none }
def FnExactUsefulOfWrongFalsely : Prop := fnExactUsefulOfRow.holds Try.pinned (OpenSpec.ofChange fnExactUsefulOfWrong)

/-- 'laws.FnExactReverseAutomaton': WHATEVER THE INPUT: true; the input reads as it did. -/
def fnExactReverseAutomatonSpec : ChangeSpec := { name := "fnExactReverseAutomaton", fn := fun _ => fun
  | [d] => { results := [.lit (.bool true)], args := [d] }
  | _ => none }
def fnExactReverseAutomatonRow : OpenClaim := { program := "ytojfbgegankddaa", sum := "36d8e4543405c39bee397761ede35684f20a666a4b18bcf6ff5cae350e55c449", func := "loop.example/distanceautomata/laws.FnExactReverseAutomaton", spec := "fnExactReverseAutomaton", inPlace := ["internal/bytealg.abigen_runtime_cmpstring"], unfollowed := true, recurses := true, apart := false }
def FnExactReverseAutomatonSaid : Prop := fnExactReverseAutomatonRow.holds Try.pinned (OpenSpec.ofChange fnExactReverseAutomatonSpec)

/-- ITS FALSE NEIGHBOUR: 'it returns false'. Refute it at one input. -/
def fnExactReverseAutomatonWrong : ChangeSpec := { name := "fnExactReverseAutomaton", fn := fun _ => fun
  | [d] => { results := [.lit (.bool false)], args := [d] }
  | _ => none }
def FnExactReverseAutomatonWrongFalsely : Prop := fnExactReverseAutomatonRow.holds Try.pinned (OpenSpec.ofChange fnExactReverseAutomatonWrong)

/-- 'laws.FnExactFreeAutomaton': WHATEVER THE INPUT: true; the input reads as it did. -/
def fnExactFreeAutomatonSpec : ChangeSpec := { name := "fnExactFreeAutomaton", fn := fun _ => fun
  | [d] => { results := [.lit (.bool true)], args := [d] }
  | _ => none }
def fnExactFreeAutomatonRow : OpenClaim := { program := "ytojfbgegankddaa", sum := "36d8e4543405c39bee397761ede35684f20a666a4b18bcf6ff5cae350e55c449", func := "loop.example/distanceautomata/laws.FnExactFreeAutomaton", spec := "fnExactFreeAutomaton", inPlace := ["internal/bytealg.abigen_runtime_cmpstring"], unfollowed := true, recurses := true, apart := false }
def FnExactFreeAutomatonSaid : Prop := fnExactFreeAutomatonRow.holds Try.pinned (OpenSpec.ofChange fnExactFreeAutomatonSpec)

/-- ITS FALSE NEIGHBOUR: 'it returns false'. Refute it at one input. -/
def fnExactFreeAutomatonWrong : ChangeSpec := { name := "fnExactFreeAutomaton", fn := fun _ => fun
  | [d] => { results := [.lit (.bool false)], args := [d] }
  | _ => none }
def FnExactFreeAutomatonWrongFalsely : Prop := fnExactFreeAutomatonRow.holds Try.pinned (OpenSpec.ofChange fnExactFreeAutomatonWrong)

/-- 'laws.FnReverse': WHATEVER THE INPUT: true; the input reads as it did. -/
def fnReverseSpec : ChangeSpec := { name := "fnReverse", fn := fun _ => fun
  | [d] => { results := [.lit (.bool true)], args := [d] }
  | _ => none }
def fnReverseRow : OpenClaim := { program := "ytojfbgegankddaa", sum := "36d8e4543405c39bee397761ede35684f20a666a4b18bcf6ff5cae350e55c449", func := "loop.example/distanceautomata/laws.FnReverse", spec := "fnReverse", inPlace := ["internal/bytealg.abigen_runtime_cmpstring"], unfollowed := true, recurses := true, apart := false }
def FnReverseSaid : Prop := fnReverseRow.holds Try.pinned (OpenSpec.ofChange fnReverseSpec)

/-- ITS FALSE NEIGHBOUR: 'it returns false'. Refute it at one input. -/
def fnReverseWrong : ChangeSpec := { name := "fnReverse", fn := fun _ => fun
  | [d] => { results := [.lit (.bool false)], args := [d] }
  | _ => none }
def FnReverseWrongFalsely : Prop := fnReverseRow.holds Try.pinned (OpenSpec.ofChange fnReverseWrong)

/-- 'laws.FnUseful': WHATEVER THE INPUT: true; the input reads as it did. -/
def fnUsefulSpec : ChangeSpec := { name := "fnUseful", fn := fun _ => fun
  | [d] => { results := [.lit (.bool true)], args := [d] }
  | _ => none }
def fnUsefulRow : OpenClaim := { program := "ytojfbgegankddaa", sum := "36d8e4543405c39bee397761ede35684f20a666a4b18bcf6ff5cae350e55c449", func := "loop.example/distanceautomata/laws.FnUseful", spec := "fnUseful", inPlace := ["internal/bytealg.abigen_runtime_cmpstring"], unfollowed := true, recurses := true, apart := false }
def FnUsefulSaid : Prop := fnUsefulRow.holds Try.pinned (OpenSpec.ofChange fnUsefulSpec)

/-- ITS FALSE NEIGHBOUR: 'it returns false'. Refute it at one input. -/
def fnUsefulWrong : ChangeSpec := { name := "fnUseful", fn := fun _ => fun
  | [d] => { results := [.lit (.bool false)], args := [d] }
  | _ => none }
def FnUsefulWrongFalsely : Prop := fnUsefulRow.holds Try.pinned (OpenSpec.ofChange fnUsefulWrong)

/- THE SECOND FORM. 'bulk': how many values and letters a reading holds, each counted each time it is reached (what is shared counts as often as it is met; a slice's spare places count too). A statement '..UptoSaid' is the law's where the arguments, and the package variables that the reading takes, are together of bulk at most 1048576: NARROWER than '..Said'. Prove '..Said' where nothing that the law and all that it calls make is longer than what came in: it says more and counts as full. Else prove '..UptoSaid'. A law counts once. -/
mutual
def uptoBulk {H : Type} : DataW H → Nat
  | .lit (.string bytes) => bytes.length + 1
  | .lit _ => 1
  | .nil => 1
  | .ptr d => uptoBulk d + 1
  | .slice elems spare => uptoBulkAll elems + uptoBulkAll spare + 1
  | .agg parts => uptoBulkAll parts + 1
  | .iface _ d => uptoBulk d + 1
  | .map entries => uptoBulkEntries entries + 1
  | .held _ => 1
def uptoBulkAll {H : Type} : List (DataW H) → Nat
  | [] => 0
  | d :: r => uptoBulk d + uptoBulkAll r
def uptoBulkEntries {H : Type} : List (Lit × DataW H) → Nat
  | [] => 0
  | x :: r => uptoBulkEntry x + uptoBulkEntries r
def uptoBulkEntry {H : Type} : Lit × DataW H → Nat
  | (.string bytes, d) => bytes.length + uptoBulk d + 1
  | (_, d) => uptoBulk d + 1
 end
def uptoSmall : (H : Type) → List (DataW H) → Bool := fun _ ds => decide (uptoBulkAll ds ≤ 1048576)
def OpenSpec.upto (s : _root_.Go.ChangeSpec) : _root_.Go.OpenSpec := { _root_.Go.OpenSpec.ofChange s with cond := some uptoSmall }

/-- 'laws.FnFree', WHERE WHAT IT READS IS OF BULK AT MOST 1048576: true; the input reads as it did. -/
def fnFreeUptoRow : OpenClaim := { program := "ytojfbgegankddaa", sum := "36d8e4543405c39bee397761ede35684f20a666a4b18bcf6ff5cae350e55c449", func := "loop.example/distanceautomata/laws.FnFree", spec := "fnFree", inPlace := ["internal/bytealg.abigen_runtime_cmpstring"], unfollowed := true, recurses := true, apart := false, narrowed := true }
def FnFreeUptoSaid : Prop := fnFreeUptoRow.holds Try.pinned (OpenSpec.upto fnFreeSpec)

/-- 'laws.FnExactUsefulOf', WHERE WHAT IT READS IS OF BULK AT MOST 1048576: true; the input reads as it did. -/
def fnExactUsefulOfUptoRow : OpenClaim := { program := "ytojfbgegankddaa", sum := "36d8e4543405c39bee397761ede35684f20a666a4b18bcf6ff5cae350e55c449", func := "loop.example/distanceautomata/laws.FnExactUsefulOf", spec := "fnExactUsefulOf", inPlace := ["internal/bytealg.abigen_runtime_cmpstring"], unfollowed := true, recurses := true, apart := false, narrowed := true }
def FnExactUsefulOfUptoSaid : Prop := fnExactUsefulOfUptoRow.holds Try.pinned (OpenSpec.upto fnExactUsefulOfSpec)

/-- 'laws.FnExactReverseAutomaton', WHERE WHAT IT READS IS OF BULK AT MOST 1048576: true; the input reads as it did. -/
def fnExactReverseAutomatonUptoRow : OpenClaim := { program := "ytojfbgegankddaa", sum := "36d8e4543405c39bee397761ede35684f20a666a4b18bcf6ff5cae350e55c449", func := "loop.example/distanceautomata/laws.FnExactReverseAutomaton", spec := "fnExactReverseAutomaton", inPlace := ["internal/bytealg.abigen_runtime_cmpstring"], unfollowed := true, recurses := true, apart := false, narrowed := true }
def FnExactReverseAutomatonUptoSaid : Prop := fnExactReverseAutomatonUptoRow.holds Try.pinned (OpenSpec.upto fnExactReverseAutomatonSpec)

/-- 'laws.FnExactFreeAutomaton', WHERE WHAT IT READS IS OF BULK AT MOST 1048576: true; the input reads as it did. -/
def fnExactFreeAutomatonUptoRow : OpenClaim := { program := "ytojfbgegankddaa", sum := "36d8e4543405c39bee397761ede35684f20a666a4b18bcf6ff5cae350e55c449", func := "loop.example/distanceautomata/laws.FnExactFreeAutomaton", spec := "fnExactFreeAutomaton", inPlace := ["internal/bytealg.abigen_runtime_cmpstring"], unfollowed := true, recurses := true, apart := false, narrowed := true }
def FnExactFreeAutomatonUptoSaid : Prop := fnExactFreeAutomatonUptoRow.holds Try.pinned (OpenSpec.upto fnExactFreeAutomatonSpec)

/-- 'laws.FnReverse', WHERE WHAT IT READS IS OF BULK AT MOST 1048576: true; the input reads as it did. -/
def fnReverseUptoRow : OpenClaim := { program := "ytojfbgegankddaa", sum := "36d8e4543405c39bee397761ede35684f20a666a4b18bcf6ff5cae350e55c449", func := "loop.example/distanceautomata/laws.FnReverse", spec := "fnReverse", inPlace := ["internal/bytealg.abigen_runtime_cmpstring"], unfollowed := true, recurses := true, apart := false, narrowed := true }
def FnReverseUptoSaid : Prop := fnReverseUptoRow.holds Try.pinned (OpenSpec.upto fnReverseSpec)

/-- 'laws.FnUseful', WHERE WHAT IT READS IS OF BULK AT MOST 1048576: true; the input reads as it did. -/
def fnUsefulUptoRow : OpenClaim := { program := "ytojfbgegankddaa", sum := "36d8e4543405c39bee397761ede35684f20a666a4b18bcf6ff5cae350e55c449", func := "loop.example/distanceautomata/laws.FnUseful", spec := "fnUseful", inPlace := ["internal/bytealg.abigen_runtime_cmpstring"], unfollowed := true, recurses := true, apart := false, narrowed := true }
def FnUsefulUptoSaid : Prop := fnUsefulUptoRow.holds Try.pinned (OpenSpec.upto fnUsefulSpec)

end Rows
end Go.Proofs.Ytojfbgegankddaa
