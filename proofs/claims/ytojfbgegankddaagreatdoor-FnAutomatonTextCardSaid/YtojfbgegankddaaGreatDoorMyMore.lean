/- Small laws of this claim: shorter words for what the walks of the large laws say again and again. -/
import Derived.Test.YtojfbgegankddaaGreatDoorMyWords
set_option linter.unusedVariables false
set_option linter.unusedSimpArgs false
namespace Go.Proofs.YtojfbgegankddaaGreatDoorW.PrintWords
open Go.RowKit
/-- Laid aside. -/
theorem am {p : Prop} (h : p) : Aside0 p := ⟨h⟩
/-- The block isn't that of this row. -/
abbrev NS {α : Type} (A : Option Addr) (l : List α) (c k : Nat) : Prop := some k ≠ (Value.slice A l.length c).ownBlock
/-- What was below is below, behind steps that make, draw and set cells of their own. -/
theorem bw {w W W' : World} (h : Below w.heap.size w W) (s : Below w.heap.size w W → Below w.heap.size w W' := by intro hB_; repeat (first | (with_reducible first | exact hB_ | apply ba | apply bn | apply bd | refine bs ?_ (by assumption)) | exact hB_)) : Below w.heap.size w W' := s h
/-- A block of our own lies there still, behind what was made and drawn and behind cells set elsewhere. -/
theorem kff {w : World} {g g' j : Nat} {t : TypeId} {cs : Array Value} {v : Value} (h : w.heap[g]? = some (.cells cs t (0, 0))) (hn : Aside0 (g ≠ g')) : (w.setCell ⟨g', j, none⟩ v).heap[g]? = some (.cells cs t (0, 0)) := blk_far h hn.out v
theorem kf {W W' : World} {g : Nat} {o : Obj} (h : W.heap[g]? = some o) (s : W.heap[g]? = some o → W'.heap[g]? = some o := by intro hB_; with_reducible repeat (first | exact hB_ | refine kn ?_ _ | refine kd ?_ | refine ka ?_ _ | refine kff ?_ (by assumption))) : W'.heap[g]? = some o := s h
/-- A row, behind two cells set in a block of another type. -/
theorem r2 {α : Type} {d : Kd α} {e : Nat} {W : World} {base : Nat} {ok : Nat → Prop} {v : Value} {xs : List α} {g t : Nat} {cs : Array Value} {a b : Value} (h : Aside0 (d.R e W base ok v xs)) (hb : Aside0 (W.heap[g]? = some (.cells cs t (0, 0)))) (ht : ∀ q, q ∈ e :: d.E → q ≠ t) : d.R e ((W.setCell ⟨g, 0, none⟩ a).setCell ⟨g, 1, none⟩ b) base ok v xs :=
  Kd.R_mono (Kd.R_far (p := ⟨g, 1, none⟩) (Kd.R_far (p := ⟨g, 0, none⟩) (Kd.R_types h.out hb.out ht) (fun _ hk => hk.2) a) (fun _ hk => hk.2) b) (fun _ h_ => h_.1)
end Go.Proofs.YtojfbgegankddaaGreatDoorW.PrintWords
