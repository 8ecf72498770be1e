/- Small laws of this claim: what the texts of this seat import beyond the words of the walks; the steps of a region in short. -/
import Derived.Test.YtojfbgegankddaaGreatDoorMyMore
import Derived.Test.YtojfbgegankddaaGreatDoorWLast
import Derived.Test.YtojfbgegankddaaGreatDoorWTab
import Derived.Lib.Strings
import Derived.Lib.Slices
import Derived.Lib.Walk
import Derived.Lib.Bytealg
set_option linter.unusedVariables false
set_option linter.unusedSimpArgs false
namespace Go.Proofs.YtojfbgegankddaaGreatDoorW.PrintWords
open Go.RowKit
end Go.Proofs.YtojfbgegankddaaGreatDoorW.PrintWords
namespace Go.Proofs.YtojfbgegankddaaGreatDoorW.PrintLast
open Go.RowKit Go.Proofs.YtojfbgegankddaaGreatDoorW.PrintWords
/-- So many truths, off the bits of a number. -/
def bitsL : Nat → Nat → List Bool
  | 0, _ => []
  | n + 1, b => (b % 2 == 1) :: bitsL n (b / 2)
def mk (n b : Nat) : Array Bool := ⟨bitsL n b⟩
section
variable {P : Program} {md : Region.Mode} {ops : Array Oper} {Q : Exit → Act → World → Prop} {S : World → Prop} {ds : List Nat}
theorem pv {T : Bool × List (List Nat × List Nat)} {fuel : Nat} {l : Array Bool} {a : Act} {w : World} (i : Nat) (t : Tmp) (n b : Nat) (hT : Aside0 (rtab md ops = T)) {oi : Oper} {v : Value} {a' : Act}
    (h : wpAnyLast P md ops Q S ds fuel (mk n b) a' w)
    (hs : (ops[i]? = some oi ∧ oi.dst = some t) ∧ anyT T l.toList (mk n b).toList i = true ∧ (∀ c a w, Q (.panic c) (a.put oi.dst v) w → Q (.panic c) a w) ∧ Yields P ops oi v a ∧ a.put (some t) v = a' := by
      refine ⟨⟨rfl, rfl⟩, by kernel_rfl, fun _ _ _ h => h, Or.inl ⟨by rfl, by intro w'; go_simp; with_reducible rfl⟩, by simp only [Act.put, List.setIfInBounds_toArray, List.set_cons_zero, List.set_cons_succ, i64_w, i32_w]; rfl⟩)
    : wpAnyLast P md ops Q S ds (fuel + 1) l a w :=
  pure_ (mk n b) hs.1.1 hs.1.2 (any_of hT.out hs.2.1) hs.2.2.1 hs.2.2.2.1 hs.2.2.2.2 h
end
end Go.Proofs.YtojfbgegankddaaGreatDoorW.PrintLast
