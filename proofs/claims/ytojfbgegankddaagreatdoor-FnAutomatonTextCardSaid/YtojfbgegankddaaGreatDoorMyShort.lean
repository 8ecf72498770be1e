/- Small laws of this claim: shorter words still: the steps of a region in the text's order, blocks and rows behind what was made, drawn and set. -/
import Derived.Test.YtojfbgegankddaaGreatDoorMyLib
set_option linter.unusedVariables false
set_option linter.unusedSimpArgs false
namespace Go.Proofs.YtojfbgegankddaaGreatDoorW.PrintWords
open Go.RowKit
section
variable {w W W' : World} {g t : Nat} {a b c d' : Value}
theorem zf4 (h : w.heap[g]? = some (.cells #[a, b, c, d'] t (0, 0))) : w.cell? ⟨g, 0, none⟩ = some a ∧ w.cell? ⟨g, 1, none⟩ = some b ∧ w.cell? ⟨g, 2, none⟩ = some c ∧ w.cell? ⟨g, 3, none⟩ = some d' ∧ w.frozen? ⟨g, 0, none⟩ = false ∧ w.frozen? ⟨g, 1, none⟩ = false ∧ w.frozen? ⟨g, 2, none⟩ = false ∧ w.frozen? ⟨g, 3, none⟩ = false := ⟨cz h 0 rfl, cz h 1 rfl, cz h 2 rfl, cz h 3 rfl, blk_frozen h 0, blk_frozen h 1, blk_frozen h 2, blk_frozen h 3⟩
theorem bl {cs : Array Value} (h : w.heap[g]? = some (.cells cs t (0, 0))) (i : Nat) {v : Value} (hv : cs[i]? = some v := by rfl) : w.cell? ⟨g, i, none⟩ = some v := (blk_cell h i).trans hv
/-- What could be read below can be read still. -/
theorem lx {p : Addr} {v : Value} (hb : Below w.heap.size w W) (h : w.cell? p = some v) : W.cell? p = some v := (hb.cell (World.block_lt_of_cell? w _ h)).trans h
/-- A test that lies decided. -/
theorem da {p : Prop} [Decidable p] (h : decide p = true := by first | (with_reducible assumption) | assumption) : p := of_decide_eq_true h
theorem cc {α : Type} {d : Kd α} {A : Option Addr} {n : Nat} {xs : List α} (h : d.C W A n xs) (s : d.C W A n xs → d.C W' A n xs := by intro hB_; repeat (first | exact hB_ | (with_reducible refine Kd.C_alloc ?_ _) | (with_reducible refine Kd.C_drewN ?_ _) | (with_reducible refine Kd.C_drew ?_))) : d.C W' A n xs := s h
theorem bput {j : Nat} {v : Value} {cs cs' : Array Value} (h : w.heap[g]? = some (.cells cs t (0, 0))) (hc : cs.setIfInBounds j v = cs') : (w.setCell ⟨g, j, none⟩ v).heap[g]? = some (.cells cs' t (0, 0)) := blk_put h j v hc
theorem kfo {g' j : Nat} {o : Obj} {v : Value} (h : w.heap[g]? = some o) (hn : Aside0 (g ≠ g')) : (w.setCell ⟨g', j, none⟩ v).heap[g]? = some o := (Below.heap_setCell w ⟨g', j, none⟩ v g hn.out).trans h
/-- A block of our own, behind what was made and drawn and behind cells set in it and elsewhere. -/
theorem kp {o o' : Obj} (h : W.heap[g]? = some o) (s : W.heap[g]? = some o → W'.heap[g]? = some o' := by intro hB_; (with_reducible repeat (first | exact hB_ | apply kn | apply kd | apply ka | apply kfo (hn := by assumption) | apply bput)); all_goals (first | exact hB_ | ((try simp only [List.setIfInBounds_toArray, List.set_cons_zero, List.set_cons_succ]); first | done | rfl))) : W'.heap[g]? = some o' := s h
/-- A row, behind a cell set in a block of another type. -/
theorem q1 {α : Type} {d : Kd α} {e : Nat} {base : Nat} {ok : Nat → Prop} {v : Value} {xs : List α} {cs : Array Value} {j : Nat} (h : d.R e W base ok v xs) (hb : W.heap[g]? = some (.cells cs t (0, 0))) (ht : ∀ q, q ∈ e :: d.E → q ≠ t) : d.R e (W.setCell ⟨g, j, none⟩ a) base ok v xs :=
  Kd.R_mono (Kd.R_far (p := ⟨g, j, none⟩) (Kd.R_types h hb ht) (fun _ hk => hk.2) a) (fun _ hk => hk.1)
theorem q2 {α : Type} {d : Kd α} {e : Nat} {base : Nat} {ok : Nat → Prop} {v : Value} {xs : List α} {cs : Array Value} (h : d.R e W base ok v xs) (hb : W.heap[g]? = some (.cells cs t (0, 0))) (ht : ∀ q, q ∈ e :: d.E → q ≠ t) : d.R e ((W.setCell ⟨g, 0, none⟩ a).setCell ⟨g, 1, none⟩ b) base ok v xs :=
  Kd.R_mono (Kd.R_far (p := ⟨g, 1, none⟩) (Kd.R_far (p := ⟨g, 0, none⟩) (Kd.R_types h hb ht) (fun _ hk => hk.2) a) (fun _ hk => hk.2) b) (fun _ hk => hk.1)
theorem q4 {α : Type} {d : Kd α} {e : Nat} {base : Nat} {ok : Nat → Prop} {v : Value} {xs : List α} {cs : Array Value} (h : d.R e W base ok v xs) (hb : W.heap[g]? = some (.cells cs t (0, 0))) (ht : ∀ q, q ∈ e :: d.E → q ≠ t) : d.R e ((((W.setCell ⟨g, 0, none⟩ a).setCell ⟨g, 1, none⟩ b).setCell ⟨g, 2, none⟩ c).setCell ⟨g, 3, none⟩ d') base ok v xs :=
  Kd.R_mono (Kd.R_far (p := ⟨g, 3, none⟩) (Kd.R_far (p := ⟨g, 2, none⟩) (Kd.R_far (p := ⟨g, 1, none⟩) (Kd.R_far (p := ⟨g, 0, none⟩) (Kd.R_types h hb ht) (fun _ hk => hk.2) a) (fun _ hk => hk.2) b) (fun _ hk => hk.2) c) (fun _ hk => hk.2) d') (fun _ hk => hk.1)
theorem v1 {α : Type} {d : Kd α} {e : Nat} {base : Nat} {ok : Nat → Prop} {v : Value} {xs : List α} {j : Nat} (h : d.V e W base ok v xs) (hk : ∀ k, ok k → k ≠ g) : d.V e (W.setCell ⟨g, j, none⟩ a) base ok v xs := Kd.V_far (p := ⟨g, j, none⟩) h hk a
theorem v2 {α : Type} {d : Kd α} {e : Nat} {base : Nat} {ok : Nat → Prop} {v : Value} {xs : List α} (h : d.V e W base ok v xs) (hk : ∀ k, ok k → k ≠ g) : d.V e ((W.setCell ⟨g, 0, none⟩ a).setCell ⟨g, 1, none⟩ b) base ok v xs := v1 (v1 h hk) hk
theorem v4 {α : Type} {d : Kd α} {e : Nat} {base : Nat} {ok : Nat → Prop} {v : Value} {xs : List α} (h : d.V e W base ok v xs) (hk : ∀ k, ok k → k ≠ g) : d.V e ((((W.setCell ⟨g, 0, none⟩ a).setCell ⟨g, 1, none⟩ b).setCell ⟨g, 2, none⟩ c).setCell ⟨g, 3, none⟩ d') base ok v xs := v1 (v1 (v1 (v1 h hk) hk) hk) hk
theorem vz {α : Type} {d : Kd α} {e : Nat} {base : Nat} {ok : Nat → Prop} {v : Value} {xs : List α} (h : d.V e W base ok v xs) (s : d.V e W base ok v xs → d.V e W' base ok v xs := by intro hB_; (with_reducible repeat (first | exact hB_ | apply Kd.V_alloc | apply Kd.V_drewN | apply Kd.V_drew)); all_goals exact hB_) : d.V e W' base ok v xs := s h
theorem rq {α : Type} {d : Kd α} {e : Nat} {base : Nat} {ok : Nat → Prop} {v : Value} {xs : List α} (h : d.R e W base ok v xs) (s : d.R e W base ok v xs → d.R e W' base ok v xs := by intro hB_; (with_reducible repeat (first | exact hB_ | apply ra | apply rn | apply rw_)); all_goals exact hB_) : d.R e W' base ok v xs := s h
/-- A block that was just made is none of what was there. -/
theorem gs (hg : g = W.heap.size) (h : Below w.heap.size w W) : Aside0 (w.heap.size ≤ g) := ⟨by rw [hg]; exact below_size h⟩
theorem nl {g' : Nat} {o : Obj} (hg : g = W.heap.size) (h : W.heap[g']? = some o) : Aside0 (g' ≠ g) := ⟨by rw [hg]; exact Nat.ne_of_lt (blk_lt h)⟩
theorem nr {g' : Nat} {o : Obj} (hg : g = W.heap.size) (h : W.heap[g']? = some o) : Aside0 (g ≠ g') := ⟨by rw [hg]; exact Nat.ne_of_gt (blk_lt h)⟩
theorem rb {α : Type} {d : Kd α} {e : Nat} {base : Nat} {ok : Nat → Prop} {v : Value} {xs : List α} {w1 : World} (h : Aside0 (d.R e W base ok v xs)) [u : Up W W'] (hb : Below W'.heap.size W' w1) : Aside0 (d.R e w1 base ok v xs) := ⟨Kd.R_below (rz h.out) hb⟩
theorem hs {w1 : World} (h : Aside0 (Below w.heap.size w W)) (hb : Below W'.heap.size W' w1) (s : Below w.heap.size w W → Below w.heap.size w W' := by intro hB_; repeat (first | (with_reducible first | exact hB_ | apply ba | apply bn | apply bd | refine bs ?_ (by assumption)) | exact hB_)) : Aside0 (Below w.heap.size w w1) := ⟨below_step (s h.out) hb⟩
theorem kfar {r : Option Nat} {g' j : Nat} {v : Value} (h : KeepBut w W g r) (hp : Aside0 (w.heap.size ≤ g')) : KeepBut w (W.setCell ⟨g', j, none⟩ v) g r := keep_far h hp.out v
theorem hkz {r : Option Nat} (h : KeepBut w W g r) (s : KeepBut w W g r → KeepBut w W' g r := by intro hB_; repeat (first | (with_reducible first | exact hB_ | apply KeepBut.set_ | apply keep_drewN | apply keep_drew | apply keep_alloc | refine kfar ?_ (by assumption)) | exact hB_)) : KeepBut w W' g r := s h
end
section
variable {P : Program} {ops : Array Oper} {Q : Exit → Act → World → Prop} {rest : List Oper} {o : Oper} {a : Act} {W : World}
theorem be {cs : Array Value} {t : TypeId} (h : ∀ g, g = W.heap.size → ∀ w1, w1.heap[g]? = some (.cells cs t (0, 0)) → Below W.heap.size W w1 → wpList P ops Q rest (a.put o.dst (.pointer (some ⟨g, 0, none⟩))) w1)
    (hgd : o.guard = none := by rfl) (hrun : (execOp a.eval o).run P W = .ok (.value (.pointer (some ⟨W.heap.size, 0, none⟩))) (W.alloc (.cells cs t (0, 0))) := by first | (go_simp; done) | (go_simp; rfl)) : wpList P ops Q (o :: rest) a W :=
  Kd.event_run hgd hrun (h _ rfl _ (blk_new W _) (below_alloc (Below.refl _ _) _))
end
section
variable {P : Program} {ops : Array Oper} {rest : List Oper} {o : Oper} {a : Act} {Q : Exit → Act → World → Prop} {α : Type}
end
theorem bO {α β : Type} {o : Option α} {f : α → Option β} {r : β} (h : o.bind f = some r) : ∃ a, Aside0 (o = some a) ∧ f a = some r := by
  obtain ⟨a, h1, h2⟩ := Option.bind_eq_some_iff.mp h
  exact ⟨a, ⟨h1⟩, h2⟩
theorem kL {α : Type} {d : Kd α} {e : Nat} {W : World} {base : Nat} {ok : Nat → Prop} {A : Option Addr} {n c : Nat} {xs : List α} (h : Aside0 (d.R e W base ok (.slice A n c) xs)) : n ≤ c := (Kd.R_reads' h.out).2.1
theorem kD {α : Type} {d : Kd α} {e : Nat} {W : World} {base : Nat} {ok : Nat → Prop} {A : Option Addr} {n c : Nat} {xs : List α} (h : Aside0 (d.R e W base ok (.slice A n c) xs)) : d.C W A xs.length xs := (Kd.R_reads' h.out).2.2
theorem kC {α : Type} {d : Kd α} {e : Nat} {W W' : World} {base : Nat} {ok : Nat → Prop} {A : Option Addr} {n c : Nat} {xs : List α} (h : Aside0 (d.R e W base ok (.slice A n c) xs)) (s : d.C W A xs.length xs → d.C W' A xs.length xs := by intro hB_; repeat (first | exact hB_ | (with_reducible refine Kd.C_alloc ?_ _) | (with_reducible refine Kd.C_drewN ?_ _) | (with_reducible refine Kd.C_drew ?_))) : d.C W' A xs.length xs := s (Kd.R_reads' h.out).2.2
theorem yH {α : Sort _} {y e : α} {p q : Prop} (hy : y = e) (H : p) (s : y = e → p → q := by intro hy_ H_; first | (rw [hy_]; with_reducible exact H_) | (have H2_ := (Option.bind_some _ _).symm.trans H_; rw [hy_]; with_reducible exact H2_) | (have H2_ := (Option.bind_some _ _).symm.trans H_; with_reducible exact H2_) | with_reducible exact H_ | (rw [hy_]; exact H_) | exact H_) : q := s hy H
theorem b4 {W : World} {g t : Nat} {a b c d : Value} {R : Prop} (h : Aside0 (W.heap[g]? = some (.cells #[a, b, c, d] t (0, 0)))) (r : R) : W.cell? ⟨g, 0, none⟩ = some a ∧ W.cell? ⟨g, 1, none⟩ = some b ∧ W.cell? ⟨g, 2, none⟩ = some c ∧ W.cell? ⟨g, 3, none⟩ = some d ∧ R := ⟨bl h.out 0, bl h.out 1, bl h.out 2, bl h.out 3, r⟩
theorem b4e {W : World} {g t : Nat} {a b c d : Value} (h : Aside0 (W.heap[g]? = some (.cells #[a, b, c, d] t (0, 0)))) : W.cell? ⟨g, 0, none⟩ = some a ∧ W.cell? ⟨g, 1, none⟩ = some b ∧ W.cell? ⟨g, 2, none⟩ = some c ∧ W.cell? ⟨g, 3, none⟩ = some d := ⟨bl h.out 0, bl h.out 1, bl h.out 2, bl h.out 3⟩
end Go.Proofs.YtojfbgegankddaaGreatDoorW.PrintWords
namespace Go.Proofs.YtojfbgegankddaaGreatDoorW.PrintLast
open Go.RowKit Go.Proofs.YtojfbgegankddaaGreatDoorW.PrintWords
/-- The first so many of them. -/
def mkp (n i : Nat) : Array Bool := mk n (2 ^ i - 1)
section
variable {P : Program} {md : Region.Mode} {ops : Array Oper} {Q : Exit → Act → World → Prop} {S : World → Prop} {ds : List Nat}
theorem qv {T : Bool × List (List Nat × List Nat)} {fuel n i : Nat} {a : Act} {w : World} {t : Tmp} (hT : Aside0 (rtab md ops = T)) {oi : Oper} {v : Value} {a' : Act}
    (h : wpAnyLast P md ops Q S ds fuel (mkp n (i + 1)) a' w)
    (hs : (ops[i]? = some oi ∧ oi.dst = some t) ∧ anyT T (mkp n i).toList (mkp n (i + 1)).toList i = true ∧ (∀ c a w, Q (.panic c) (a.put oi.dst v) w → Q (.panic c) a w) ∧ Yields P ops oi v a ∧ a.put (some t) v = a' := by
      refine ⟨⟨rfl, rfl⟩, by kernel_rfl, fun _ _ _ h => h, Or.inl ⟨by rfl, by intro w'; go_simp; with_reducible rfl⟩, by simp only [Act.put, List.setIfInBounds_toArray, List.set_cons_zero, List.set_cons_succ, i64_w, i32_w]; rfl⟩)
    : wpAnyLast P md ops Q S ds (fuel + 1) (mkp n i) a w :=
  pure_ (mkp n (i + 1)) hs.1.1 hs.1.2 (any_of hT.out hs.2.1) hs.2.2.1 hs.2.2.2.1 hs.2.2.2.2 h
theorem qu {T : Bool × List (List Nat × List Nat)} {fuel n i : Nat} {a : Act} {w : World} {t : Tmp} (hT : Aside0 (rtab md ops = T)) {oi : Oper} {a' : Act}
    (h : wpAnyLast P md ops Q S ds fuel (mkp n (i + 1)) a' w)
    (hs : (ops[i]? = some oi ∧ oi.dst = some t) ∧ anyT T (mkp n i).toList (mkp n (i + 1)).toList i = true ∧ (∀ c a w, Q (.panic c) (a.put oi.dst undef) w → Q (.panic c) a w) ∧ Yields P ops oi undef a ∧ a.put (some t) undef = a' := by
      refine ⟨⟨rfl, rfl⟩, by kernel_rfl, fun _ _ _ h => h, Or.inr ⟨by rfl, rfl⟩, by simp only [Act.put, List.setIfInBounds_toArray, List.set_cons_zero, List.set_cons_succ, i64_w, i32_w]; rfl⟩)
    : wpAnyLast P md ops Q S ds (fuel + 1) (mkp n i) a w :=
  pure_ (mkp n (i + 1)) hs.1.1 hs.1.2 (any_of hT.out hs.2.1) hs.2.2.1 hs.2.2.2.1 hs.2.2.2.2 h
theorem tk {T : Bool × List (List Nat × List Nat)} {B : List Nat} {fuel n i : Nat} {a : Act} {w : World} {t : Tmp} (hT : Aside0 (rtab md ops = T)) (hW : Aside0 (waitsOk T.2 B = true)) (hH : S w) {oi : Oper} {v : Value} {a' : Act}
    (h : wpAnyLast P md ops Q S ds fuel (mkp n (i + 1)) a' w)
    (hs : (ops[i]? = some oi ∧ oi.dst = some t) ∧ takeW T B ds (mkp n i).toList (mkp n (i + 1)).toList i = true ∧ (∀ c a w, Q (.panic c) (a.put oi.dst v) w → Q (.panic c) a w) ∧ YieldsIf P ops S oi v a ∧ a.put (some t) v = a' := by
      refine ⟨⟨rfl, rfl⟩, by kernel_rfl, fun _ _ _ h => h, Or.inl ⟨by rfl, by intro w' hS_; (try dsimp only at hS_); go_simp; with_reducible rfl⟩, by simp only [Act.put, List.setIfInBounds_toArray, List.set_cons_zero, List.set_cons_succ, i64_w, i32_w]; rfl⟩)
    : wpAnyLast P md ops Q S ds (fuel + 1) (mkp n i) a w :=
  take_ (mkp n (i + 1)) hs.1.1 hs.1.2 (take_ofW hT.out hW.out hs.2.1) hs.2.2.1 hs.2.2.2.1 hH hs.2.2.2.2 h
theorem pvp {T : Bool × List (List Nat × List Nat)} {fuel : Nat} {l : Array Bool} {a : Act} {w : World} (i : Nat) (t : Tmp) (n m : Nat) (hT : Aside0 (rtab md ops = T)) {oi : Oper} {v : Value} {a' : Act}
    (h : wpAnyLast P md ops Q S ds fuel (mkp n m) a' w)
    (hs : (ops[i]? = some oi ∧ oi.dst = some t) ∧ anyT T l.toList (mkp n m).toList i = true ∧ (∀ c a w, Q (.panic c) (a.put oi.dst v) w → Q (.panic c) a w) ∧ Yields P ops oi v a ∧ a.put (some t) v = a' := by
      refine ⟨⟨rfl, rfl⟩, by kernel_rfl, fun _ _ _ h => h, Or.inl ⟨by rfl, by intro w'; go_simp; with_reducible rfl⟩, by simp only [Act.put, List.setIfInBounds_toArray, List.set_cons_zero, List.set_cons_succ, i64_w, i32_w]; rfl⟩)
    : wpAnyLast P md ops Q S ds (fuel + 1) l a w :=
  pure_ (mkp n m) hs.1.1 hs.1.2 (any_of hT.out hs.2.1) hs.2.2.1 hs.2.2.2.1 hs.2.2.2.2 h
theorem tkm {T : Bool × List (List Nat × List Nat)} {B : List Nat} {fuel : Nat} {l : Array Bool} {a : Act} {w : World} (i : Nat) (t : Tmp) (l' : Array Bool) (hT : Aside0 (rtab md ops = T)) (hW : Aside0 (waitsOk T.2 B = true)) (hH : S w) {oi : Oper} {v : Value} {a' : Act}
    (h : wpAnyLast P md ops Q S ds fuel l' a' w)
    (hs : (ops[i]? = some oi ∧ oi.dst = some t) ∧ takeW T B ds l.toList l'.toList i = true ∧ (∀ c a w, Q (.panic c) (a.put oi.dst v) w → Q (.panic c) a w) ∧ YieldsIf P ops S oi v a ∧ a.put (some t) v = a' := by
      refine ⟨⟨rfl, rfl⟩, by kernel_rfl, fun _ _ _ h => h, Or.inl ⟨by rfl, by intro w' hS_; (try dsimp only at hS_); go_simp; with_reducible rfl⟩, by simp only [Act.put, List.setIfInBounds_toArray, List.set_cons_zero, List.set_cons_succ, i64_w, i32_w]; rfl⟩)
    : wpAnyLast P md ops Q S ds (fuel + 1) l a w :=
  take_ l' hs.1.1 hs.1.2 (take_ofW hT.out hW.out hs.2.1) hs.2.2.1 hs.2.2.2.1 hH hs.2.2.2.2 h
theorem on {T : Bool × List (List Nat × List Nat)} {fuel : Nat} {l : Array Bool} {a : Act} {w : World} (i : Nat) (l' : Array Bool) (hT : Aside0 (rtab md ops = T)) {N : Option Tmp} {oi : Oper}
    (h : ∀ K : Act → World → Prop, Shut (∀ a' w', S w' → (S w' → wpAnyLast P md ops Q S ds fuel l' a' w') → K a' w') → if Region.wanted oi (yielded ops a.tmps) = true then Oper.wp P oi a w K Q else K (a.put N undef) w)
    (hi : ops[i]? = some oi := by rfl) (hN : oi.dst = N := by rfl) (hc : (readyT T.2 l.toList == [i] && l.toList.set i true == l'.toList) = true := by kernel_rfl) (hd : i ∉ ds := by decide) : wpAnyLast P md ops Q S ds (fuel + 1) l a w :=
  one_ l' hi hN (one_of hT.out hc) hd h
variable {rest : List Oper} {oi : Oper} {a : Act} {w : World} {N : Option Tmp} {f : FuncId} {fn : Func} {as : Array Operand} {ts : Array TypeId}
/-- A call, in a plain region. -/
theorem gl (hf : P.funcs[f]? = some fn) (args : Array Value) (h : Calls P f args w fun e w' => ∃ v, e = .returned v ∧ wpList P ops Q rest (a.put N v) w')
    (hd : oi.dst = N := by rfl) (hg : oi.guard = none := by rfl) (hname : (fn.name == "runtime.NumGoroutine") = false := by kernel_rfl) (hb : fn.body.isSome = true := by rfl)
    (hop : oi.op = .call { callee := .value (.func f), args := as, argTypes := ts } := by rfl) (hargs : as.map a.eval = args := by (try simp only [List.map_toArray, List.map_cons, List.map_nil]); first | done | rfl | (simp only [List.length_drop, List.length_take]; rfl)) : wpList P ops Q (oi :: rest) a w :=
  goesL_ N hd hg hf hname hb args hop hargs h
/-- A call, as one step of a region that draws its order. -/
theorem gr {K : Act → World → Prop} (hf : P.funcs[f]? = some fn) (args : Array Value) (h : Calls P f args w fun e w' => ∃ v, e = .returned v ∧ K (a.put N v) w')
    (hname : (fn.name == "runtime.NumGoroutine") = false := by kernel_rfl) (hb : fn.body.isSome = true := by rfl) (hw : Region.wanted oi (yielded ops a.tmps) = true := by rfl) (hN : oi.dst = N := by rfl)
    (hop : oi.op = .call { callee := .value (.func f), args := as, argTypes := ts } := by rfl) (hargs : as.map a.eval = args := by (try simp only [List.map_toArray, List.map_cons, List.map_nil]); first | done | rfl | (simp only [List.length_drop, List.length_take]; rfl)) : if Region.wanted oi (yielded ops a.tmps) = true then Oper.wp P oi a w K Q else K (a.put N undef) w :=
  goes_ hf hname hb args hw hN hop hargs h
theorem gx (N : Tmp) (_hN : oi.dst = some N) (h : wpList P ops Q (oi :: rest) a w) : wpList P ops Q (oi :: rest) a w := h
theorem gy (f : FuncId) {as : Array Operand} {ts : Array TypeId} (_ho : oi.op = .call { callee := .value (.func f), args := as, argTypes := ts }) (h : wpList P ops Q (oi :: rest) a w) : wpList P ops Q (oi :: rest) a w := h
end
end Go.Proofs.YtojfbgegankddaaGreatDoorW.PrintLast
