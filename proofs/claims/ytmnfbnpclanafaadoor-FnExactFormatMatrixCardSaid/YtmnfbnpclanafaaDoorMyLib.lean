/- Small laws of this claim: what the texts of this seat import beyond the words of the walks; the steps of a region in short. -/
import Derived.Test.YtmnfbnpclanafaaDoorMyMore
import Derived.Test.YtmnfbnpclanafaaDoorWLast
import Derived.Test.YtmnfbnpclanafaaDoorWTab
import Derived.Lib.Strings
import Derived.Lib.Slices
import Derived.Lib.Walk
import Derived.Lib.Bytealg
set_option linter.unusedVariables false
set_option linter.unusedSimpArgs false
namespace Go.Proofs.YtmnfbnpclanafaaDoorW.PrintWords
open Go.RowKit
/-- A row, behind two cells set in a block of another type and behind what was made and drawn. -/
theorem r2z {α : Type} {d : Kd α} {e : Nat} {W W' : World} {base : Nat} {ok : Nat → Prop} {v : Value} {xs : List α} {g t : Nat} {cs : Array Value} (h : Aside0 (d.R e W base ok v xs)) (hb : Aside0 (W.heap[g]? = some (.cells cs t (0, 0)))) (ht : ∀ q, q ∈ e :: d.E → q ≠ t)
    (s : (∀ a b : Value, d.R e ((W.setCell ⟨g, 0, none⟩ a).setCell ⟨g, 1, none⟩ b) base ok v xs) → d.R e W' base ok v xs := by intro h_; (with_reducible repeat (first | apply ra | apply rn | apply rw_)); exact h_ _ _) : d.R e W' base ok v xs :=
  s fun a b => r2 h hb ht
end Go.Proofs.YtmnfbnpclanafaaDoorW.PrintWords
namespace Go.Proofs.YtmnfbnpclanafaaDoorW.PrintLast
open Go.RowKit Go.Proofs.YtmnfbnpclanafaaDoorW.PrintWords
/-- So many truths, off the bits of a number. -/
def bitsL : Nat → Nat → List Bool
  | 0, _ => []
  | n + 1, b => (b % 2 == 1) :: bitsL n (b / 2)
def mk (n b : Nat) : Array Bool := ⟨bitsL n b⟩
section
variable {P : Program} {md : Region.Mode} {ops : Array Oper} {Q : Exit → Act → World → Prop} {S : World → Prop} {ds : List Nat}
end
end Go.Proofs.YtmnfbnpclanafaaDoorW.PrintLast
