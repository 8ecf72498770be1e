/- Small laws of this claim: a call through a function value, a block that was there before, rows of structs that come in. -/
import Derived.Test.YtojfbgegankddaaGreatDoorWMore
import Derived.Test.YtojfbgegankddaaGreatDoorWLast
import Derived.Lib.SmallJoins
import Derived.Deep.Slices
import Derived.Deep.Fields
import Derived.ChangeSame
set_option linter.unusedVariables false
set_option linter.unusedSimpArgs false
namespace Go.Proofs.YtojfbgegankddaaGreatDoorW.PrintWords
open Go.RowKit
section
variable {P : Program} {ops : Array Oper} {Q : Exit → Act → World → Prop}
end
/-- The world has only grown by new blocks and draws. -/
class Up (W W' : World) : Prop where
  bel : Below W.heap.size W W'
instance up_refl (W : World) : Up W W := ⟨Below.refl _ _⟩
instance up_alloc (W W' : World) (o : Obj) [h : Up W W'] : Up W (W'.alloc o) := ⟨below_alloc h.bel o⟩
instance up_drewN (W W' : World) (n : Nat) [h : Up W W'] : Up W (W'.drewN n) := ⟨pw_below_drewN h.bel n⟩
instance up_drew (W W' : World) [h : Up W W'] : Up W W'.drew := ⟨below_drew h.bel⟩
theorem kz {W W' : World} {g : Nat} {o : Obj} (h : W.heap[g]? = some o) [u : Up W W'] : W'.heap[g]? = some o := blk_below h u.bel
theorem rz {α : Type} {d : Kd α} {e : Nat} {W W' : World} {base : Nat} {ok : Nat → Prop} {v : Value} {xs : List α} (h : d.R e W base ok v xs) [u : Up W W'] : d.R e W' base ok v xs := Kd.R_below h u.bel
theorem bz {w W W' : World} (h : Below w.heap.size w W) [u : Up W W'] : Below w.heap.size w W' := below_step h u.bel
theorem ba {w W : World} (h : Below w.heap.size w W) (o : Obj) : Below w.heap.size w (W.alloc o) := below_alloc h o
theorem bn {B : Nat} {w W : World} (h : Below B w W) (n : Nat) : Below B w (W.drewN n) := pw_below_drewN h n
theorem bd {B : Nat} {w W : World} (h : Below B w W) : Below B w W.drew := below_drew1 h
theorem bs {w W : World} {g j : Nat} {v : Value} (h : Below w.heap.size w W) (hg : Aside0 (w.heap.size ≤ g)) : Below w.heap.size w (W.setCell ⟨g, j, none⟩ v) := below_set h hg.out
theorem kn {w : World} {g : Nat} {o : Obj} (h : w.heap[g]? = some o) (n : Nat) : (w.drewN n).heap[g]? = some o := blk_drewN h n
theorem kd {w : World} {g : Nat} {o : Obj} (h : w.heap[g]? = some o) : w.drew.heap[g]? = some o := blk_drew h
theorem ka {w : World} {g : Nat} {o : Obj} (h : w.heap[g]? = some o) (o' : Obj) : (w.alloc o').heap[g]? = some o := blk_alloc h o'
theorem ra {α : Type} {d : Kd α} {e : Nat} {w : World} {base : Nat} {ok : Nat → Prop} {v : Value} {xs : List α} (h : d.R e w base ok v xs) (o : Obj) : d.R e (w.alloc o) base ok v xs := Kd.R_alloc h o
theorem rn {α : Type} {d : Kd α} {e : Nat} {w : World} {base : Nat} {ok : Nat → Prop} {v : Value} {xs : List α} (h : d.R e w base ok v xs) (m : Nat) : d.R e (w.drewN m) base ok v xs := Kd.R_drewN h m
theorem rw_ {α : Type} {d : Kd α} {e : Nat} {w : World} {base : Nat} {ok : Nat → Prop} {v : Value} {xs : List α} (h : d.R e w base ok v xs) : d.R e w.drew base ok v xs := Kd.R_drew h
theorem el {α : Type} {d : Kd α} {e : Nat} {W W1 w1 : World} {base : Nat} {ok : Nat → Prop} {u v : Value} {xs : List α} (hu : Aside0 (d.R e W base ok u xs)) [q : Up W W1] (hbase : ∀ k, v.ownBlock = some k → W1.heap.size ≤ k) (hb : Below W1.heap.size W1 w1) : Aside0 (d.R e w1 base (fun k => ok k ∧ some k ≠ v.ownBlock) u xs) := ⟨Kd.R_elder' (rz hu.out) hbase hb⟩
theorem bk {W W1 w1 : World} {g : Nat} {o : Obj} (h : Aside0 (W.heap[g]? = some o)) [q : Up W W1] (hb : Below W1.heap.size W1 w1) : Aside0 (w1.heap[g]? = some o) := ⟨blk_below (kz h.out) hb⟩
theorem cz {w : World} {g : Nat} {t : TypeId} {cs : Array Value} (h : w.heap[g]? = some (.cells cs t (0, 0))) (i : Nat) {a : Value} (ha : cs[i]? = some a) : w.cell? ⟨g, i, none⟩ = some a := (blk_cell h i).trans ha
end Go.Proofs.YtojfbgegankddaaGreatDoorW.PrintWords
