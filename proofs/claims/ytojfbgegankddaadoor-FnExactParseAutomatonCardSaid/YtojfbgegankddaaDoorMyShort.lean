/- Small laws of this claim: shorter words still: the steps of a region in the text's order, blocks and rows behind what was made, drawn and set. -/
import Derived.Test.YtojfbgegankddaaDoorMyLib
set_option linter.unusedVariables false
set_option linter.unusedSimpArgs false
namespace Go.Proofs.YtojfbgegankddaaDoorW.PrintWords
open Go.RowKit
section
variable {w W W' : World} {g t : Nat} {a b c d' : Value}
theorem zf1 (h : w.heap[g]? = some (.cells #[a] t (0, 0))) : w.cell? ⟨g, 0, none⟩ = some a ∧ w.frozen? ⟨g, 0, none⟩ = false := ⟨cz h 0 rfl, blk_frozen h 0⟩
theorem zf2 (h : w.heap[g]? = some (.cells #[a, b] t (0, 0))) : w.cell? ⟨g, 0, none⟩ = some a ∧ w.cell? ⟨g, 1, none⟩ = some b ∧ w.frozen? ⟨g, 0, none⟩ = false ∧ w.frozen? ⟨g, 1, none⟩ = false := ⟨cz h 0 rfl, cz h 1 rfl, blk_frozen h 0, blk_frozen h 1⟩
theorem zf3 (h : w.heap[g]? = some (.cells #[a, b, c] t (0, 0))) : w.cell? ⟨g, 0, none⟩ = some a ∧ w.cell? ⟨g, 1, none⟩ = some b ∧ w.cell? ⟨g, 2, none⟩ = some c ∧ w.frozen? ⟨g, 0, none⟩ = false ∧ w.frozen? ⟨g, 1, none⟩ = false ∧ w.frozen? ⟨g, 2, none⟩ = false := ⟨cz h 0 rfl, cz h 1 rfl, cz h 2 rfl, blk_frozen h 0, blk_frozen h 1, blk_frozen h 2⟩
theorem zf4 (h : w.heap[g]? = some (.cells #[a, b, c, d'] t (0, 0))) : w.cell? ⟨g, 0, none⟩ = some a ∧ w.cell? ⟨g, 1, none⟩ = some b ∧ w.cell? ⟨g, 2, none⟩ = some c ∧ w.cell? ⟨g, 3, none⟩ = some d' ∧ w.frozen? ⟨g, 0, none⟩ = false ∧ w.frozen? ⟨g, 1, none⟩ = false ∧ w.frozen? ⟨g, 2, none⟩ = false ∧ w.frozen? ⟨g, 3, none⟩ = false := ⟨cz h 0 rfl, cz h 1 rfl, cz h 2 rfl, cz h 3 rfl, blk_frozen h 0, blk_frozen h 1, blk_frozen h 2, blk_frozen h 3⟩
theorem bl {cs : Array Value} (h : w.heap[g]? = some (.cells cs t (0, 0))) (i : Nat) {v : Value} (hv : cs[i]? = some v := by rfl) : w.cell? ⟨g, i, none⟩ = some v := (blk_cell h i).trans hv
/-- What could be read below can be read still. -/
theorem lx {p : Addr} {v : Value} (hb : Below w.heap.size w W) (h : w.cell? p = some v) : W.cell? p = some v := (hb.cell (World.block_lt_of_cell? w _ h)).trans h
/-- A test that lies decided. -/
theorem da {p : Prop} [Decidable p] (h : decide p = true := by first | (with_reducible assumption) | assumption) : p := of_decide_eq_true h
theorem cc {α : Type} {d : Kd α} {A : Option Addr} {n : Nat} {xs : List α} (h : d.C W A n xs) (s : d.C W A n xs → d.C W' A n xs := by intro hB_; repeat (first | exact hB_ | (with_reducible refine Kd.C_alloc ?_ _) | (with_reducible refine Kd.C_drewN ?_ _) | (with_reducible refine Kd.C_drew ?_))) : d.C W' A n xs := s h
theorem bput {j : Nat} {v : Value} {cs cs' : Array Value} (h : w.heap[g]? = some (.cells cs t (0, 0))) (hc : cs.setIfInBounds j v = cs') : (w.setCell ⟨g, j, none⟩ v).heap[g]? = some (.cells cs' t (0, 0)) := blk_put h j v hc
theorem kfo {g' j : Nat} {o : Obj} {v : Value} (h : w.heap[g]? = some o) (hn : Aside0 (g ≠ g')) : (w.setCell ⟨g', j, none⟩ v).heap[g]? = some o := (Below.heap_setCell w ⟨g', j, none⟩ v g hn.out).trans h
/-- A block of our own, behind what was made and drawn and behind cells set in it and elsewhere. -/
theorem kp {o o' : Obj} (h : W.heap[g]? = some o) (s : W.heap[g]? = some o → W'.heap[g]? = some o' := by intro hB_; (with_reducible repeat (first | exact hB_ | apply kn | apply kd | apply ka | apply kfo (hn := by assumption) | apply bput)); all_goals (first | exact hB_ | ((try simp only [List.setIfInBounds_toArray, List.set_cons_zero, List.set_cons_succ]); first | done | rfl))) : W'.heap[g]? = some o' := s h
/-- A row, behind a cell set in a block of another type. -/
theorem q1 {α : Type} {d : Kd α} {e : Nat} {base : Nat} {ok : Nat → Prop} {v : Value} {xs : List α} {cs : Array Value} {j : Nat} (h : d.R e W base ok v xs) (hb : W.heap[g]? = some (.cells cs t (0, 0))) (ht : ∀ q, q ∈ e :: d.E → q ≠ t) : d.R e (W.setCell ⟨g, j, none⟩ a) base ok v xs :=
  Kd.R_mono (Kd.R_far (p := ⟨g, j, none⟩) (Kd.R_types h hb ht) (fun _ hk => hk.2) a) (fun _ hk => hk.1)
theorem q2 {α : Type} {d : Kd α} {e : Nat} {base : Nat} {ok : Nat → Prop} {v : Value} {xs : List α} {cs : Array Value} (h : d.R e W base ok v xs) (hb : W.heap[g]? = some (.cells cs t (0, 0))) (ht : ∀ q, q ∈ e :: d.E → q ≠ t) : d.R e ((W.setCell ⟨g, 0, none⟩ a).setCell ⟨g, 1, none⟩ b) base ok v xs :=
  Kd.R_mono (Kd.R_far (p := ⟨g, 1, none⟩) (Kd.R_far (p := ⟨g, 0, none⟩) (Kd.R_types h hb ht) (fun _ hk => hk.2) a) (fun _ hk => hk.2) b) (fun _ hk => hk.1)
theorem q4 {α : Type} {d : Kd α} {e : Nat} {base : Nat} {ok : Nat → Prop} {v : Value} {xs : List α} {cs : Array Value} (h : d.R e W base ok v xs) (hb : W.heap[g]? = some (.cells cs t (0, 0))) (ht : ∀ q, q ∈ e :: d.E → q ≠ t) : d.R e ((((W.setCell ⟨g, 0, none⟩ a).setCell ⟨g, 1, none⟩ b).setCell ⟨g, 2, none⟩ c).setCell ⟨g, 3, none⟩ d') base ok v xs :=
  Kd.R_mono (Kd.R_far (p := ⟨g, 3, none⟩) (Kd.R_far (p := ⟨g, 2, none⟩) (Kd.R_far (p := ⟨g, 1, none⟩) (Kd.R_far (p := ⟨g, 0, none⟩) (Kd.R_types h hb ht) (fun _ hk => hk.2) a) (fun _ hk => hk.2) b) (fun _ hk => hk.2) c) (fun _ hk => hk.2) d') (fun _ hk => hk.1)
theorem v1 {α : Type} {d : Kd α} {e : Nat} {base : Nat} {ok : Nat → Prop} {v : Value} {xs : List α} {j : Nat} (h : d.V e W base ok v xs) (hk : ∀ k, ok k → k ≠ g) : d.V e (W.setCell ⟨g, j, none⟩ a) base ok v xs := Kd.V_far (p := ⟨g, j, none⟩) h hk a
theorem v2 {α : Type} {d : Kd α} {e : Nat} {base : Nat} {ok : Nat → Prop} {v : Value} {xs : List α} (h : d.V e W base ok v xs) (hk : ∀ k, ok k → k ≠ g) : d.V e ((W.setCell ⟨g, 0, none⟩ a).setCell ⟨g, 1, none⟩ b) base ok v xs := v1 (v1 h hk) hk
theorem v4 {α : Type} {d : Kd α} {e : Nat} {base : Nat} {ok : Nat → Prop} {v : Value} {xs : List α} (h : d.V e W base ok v xs) (hk : ∀ k, ok k → k ≠ g) : d.V e ((((W.setCell ⟨g, 0, none⟩ a).setCell ⟨g, 1, none⟩ b).setCell ⟨g, 2, none⟩ c).setCell ⟨g, 3, none⟩ d') base ok v xs := v1 (v1 (v1 (v1 h hk) hk) hk) hk
theorem vz {α : Type} {d : Kd α} {e : Nat} {base : Nat} {ok : Nat → Prop} {v : Value} {xs : List α} (h : d.V e W base ok v xs) (s : d.V e W base ok v xs → d.V e W' base ok v xs := by intro hB_; (with_reducible repeat (first | exact hB_ | apply Kd.V_alloc | apply Kd.V_drewN | apply Kd.V_drew)); all_goals exact hB_) : d.V e W' base ok v xs := s h
theorem rq {α : Type} {d : Kd α} {e : Nat} {base : Nat} {ok : Nat → Prop} {v : Value} {xs : List α} (h : d.R e W base ok v xs) (s : d.R e W base ok v xs → d.R e W' base ok v xs := by intro hB_; (with_reducible repeat (first | exact hB_ | apply ra | apply rn | apply rw_)); all_goals exact hB_) : d.R e W' base ok v xs := s h
/-- A block that was just made is none of what was there. -/
theorem gs (hg : g = W.heap.size) (h : Below w.heap.size w W) : Aside0 (w.heap.size ≤ g) := ⟨by rw [hg]; exact below_size h⟩
theorem nl {g' : Nat} {o : Obj} (hg : g = W.heap.size) (h : W.heap[g']? = some o) : Aside0 (g' ≠ g) := ⟨by rw [hg]; exact Nat.ne_of_lt (blk_lt h)⟩
theorem nr {g' : Nat} {o : Obj} (hg : g = W.heap.size) (h : W.heap[g']? = some o) : Aside0 (g ≠ g') := ⟨by rw [hg]; exact Nat.ne_of_gt (blk_lt h)⟩
theorem rb {α : Type} {d : Kd α} {e : Nat} {base : Nat} {ok : Nat → Prop} {v : Value} {xs : List α} {w1 : World} (h : Aside0 (d.R e W base ok v xs)) [u : Up W W'] (hb : Below W'.heap.size W' w1) : Aside0 (d.R e w1 base ok v xs) := ⟨Kd.R_below (rz h.out) hb⟩
theorem hs {w1 : World} (h : Aside0 (Below w.heap.size w W)) (hb : Below W'.heap.size W' w1) (s : Below w.heap.size w W → Below w.heap.size w W' := by intro hB_; repeat (first | (with_reducible first | exact hB_ | apply ba | apply bn | apply bd | refine bs ?_ (by assumption)) | exact hB_)) : Aside0 (Below w.heap.size w w1) := ⟨below_step (s h.out) hb⟩
theorem kfar {r : Option Nat} {g' j : Nat} {v : Value} (h : KeepBut w W g r) (hp : Aside0 (w.heap.size ≤ g')) : KeepBut w (W.setCell ⟨g', j, none⟩ v) g r := keep_far h hp.out v
theorem hkz {r : Option Nat} (h : KeepBut w W g r) (s : KeepBut w W g r → KeepBut w W' g r := by intro hB_; repeat (first | (with_reducible first | exact hB_ | apply KeepBut.set_ | apply keep_drewN | apply keep_drew | apply keep_alloc | refine kfar ?_ (by assumption)) | exact hB_)) : KeepBut w W' g r := s h
end
section
variable {P : Program} {ops : Array Oper} {Q : Exit → Act → World → Prop} {rest : List Oper} {o : Oper} {a : Act} {W : World}
theorem be {cs : Array Value} {t : TypeId} (h : ∀ g, g = W.heap.size → ∀ w1, w1.heap[g]? = some (.cells cs t (0, 0)) → Below W.heap.size W w1 → wpList P ops Q rest (a.put o.dst (.pointer (some ⟨g, 0, none⟩))) w1)
    (hgd : o.guard = none := by rfl) (hrun : (execOp a.eval o).run P W = .ok (.value (.pointer (some ⟨W.heap.size, 0, none⟩))) (W.alloc (.cells cs t (0, 0))) := by first | (go_simp; done) | (go_simp; rfl)) : wpList P ops Q (o :: rest) a W :=
  Kd.event_run hgd hrun (h _ rfl _ (blk_new W _) (below_alloc (Below.refl _ _) _))
end
section
variable {P : Program} {ops : Array Oper} {rest : List Oper} {o : Oper} {a : Act} {Q : Exit → Act → World → Prop} {α : Type}
/-- An append onto a row of one's own leaves what lay under its length, wherever it goes. -/
theorem append_keeps {W w1 : World} {v v1 : Value} (base : Nat) (t ty e : TypeId) (i : TypeInfo) (z : Value) (size bytes : Nat) (ht : P.underlying t = some (.slice e)) (hi : P.info? e = some i) (hz : i.zero = some z) (hsize : i.size = size) (hby : i.bytes = bytes)
    (n : Nat) (xs : List Value) (hown : W.ownsRow base e size v n xs) (ad : Addr) (m c : Nat) (news : List Value) (hl : news.length = m * size) (hnews : ∀ j u, news[j]? = some u → W.cell? (ad.add j) = some u) (h1 : ∀ u ∈ news, u.oneCell' = true)
    (h63 : n + m ≤ maxLen) (hbytes : (n + m) * bytes ≤ 140737488355328) (hr : (Builtin.append_ #[t, t] ty #[v, .slice (some ad) m c]).run P W = .ok v1 w1)
    (p : Addr) (u : Value) (hp : W.cell? p = some u) (hu : v.ownBlock = some p.block → ∃ g j, p = ⟨g, j, none⟩ ∧ j < n * size) : w1.cell? p = some u := by
  subst hsize
  subst hby
  rcases hown.2 with ⟨rfl, rfl⟩ | ⟨g, cap, cur, rfl, hbg, hg, hnc, hcm, hcs, htake⟩
  · by_cases hm : m = 0
    · subst hm
      have hn : news = [] := List.eq_nil_of_length_eq_zero (by simpa using hl)
      subst hn
      have hr' : (Builtin.append_ #[t, t] ty #[.slice none 0 0, .slice (some ad) 0 c]).run P W = .ok (.slice none 0 0) W := by simp [Builtin.append_, run_underlying ht, sizeOf, typeInfo, hi, Builtin.lenOf, Builtin.firstCells, loadCells, loadCellsFrom]
      rw [hr'] at hr
      injection hr with _ hr
      subst hr
      exact hp
    · have hr' := run_append_nil (P := P) W t ty e i z ht hi hz ad m c news hl hnews (by omega) (by simp only [maxLen] at h63; omega) (by have hb := hbytes; simp only [Nat.zero_add] at hb; omega)
      rw [hr'] at hr
      injection hr with _ hr
      subst hr
      exact (World.cell?_alloc_old _ _ _ (Nat.ne_of_lt (World.block_lt_of_cell? _ _ hp))).trans hp
  · by_cases hroom : n + m ≤ cap
    · have hfit : n * i.size + news.length ≤ cur.size := by rw [hl, hcs, ← Nat.add_mul]; exact Nat.mul_le_mul_right _ hroom
      have hr' := run_append_room (P := P) W t ty e i ht hi g n cap cur hg ad m c news hl hnews h1 hroom hfit
      rw [hr'] at hr
      injection hr with _ hr
      subst hr
      by_cases hb : p.block = g
      · obtain ⟨g', j, rfl, hj⟩ := hu (by rw [hb]; rfl)
        obtain rfl : g' = g := hb
        rw [cell_of_row _ _ _ _ _ _ (setRow_heap W g' cur _ e _ hg)]
        rw [cell_of_row _ _ _ _ _ _ hg] at hp
        have hjs : j < (cur.toList.take (n * i.size)).length := by rw [List.length_take, Array.length_toList]; omega
        rw [List.getElem?_toArray, List.append_assoc, List.getElem?_append_left hjs, List.getElem?_take, if_pos hj, Array.getElem?_toList]
        exact hp
      · exact (World.cell?_of_block (setRow_other W g p.block _ hb)).trans hp
    · have holds : ∀ j u, xs[j]? = some u → W.cell? ((⟨g, 0, none⟩ : Addr).add j) = some u := hown.cells (g := g) rfl
      have hr' := run_append_grow (P := P) W t ty e i z ht hi hz ⟨g, 0, none⟩ n cap xs hown.1 holds ad m c news hl hnews (by omega) (by simp only [maxLen] at h63; omega) (growslice_fits (by omega) hbytes)
      rw [hr'] at hr
      injection hr with _ hr
      subst hr
      exact (World.cell?_alloc_old _ _ _ (Nat.ne_of_lt (World.block_lt_of_cell? _ _ hp))).trans hp
/-- append(v, ys...), and what lay under v's length lies there still. -/
theorem Kd.R_append_keep (d : Kd α) {Rr : α → List Value → Prop} {w0 W : World} (base : Nat) (hgd : o.guard = none) (s x : Operand) (t e : TypeId) (z : Value) (bytes : Nat)
    (ho : o.op = .call { callee := .builtin .append, args := #[s, x], argTypes := #[t, t] })
    (ht : P.underlying t = some (.slice e)) (hinfo : (P.info? e).map (fun i => (i.zero, i.size, i.bytes)) = some (some z, d.sz, bytes)) (hz : z.cells.size = d.sz) (hs0 : 0 < d.sz) (hb0 : 0 < bytes)
    (v : Value) (xs ys : List α) (A : Option Addr) (m c : Nat) (ok okp : Nat → Prop) (hs : a.eval s = v) (hx : a.eval x = .slice A m c)
    (HO : d.R e W base ok v xs) (HR : ReadsRow Rr d.sz W A m ys) (hKM : ∀ x cs, Rr x cs → d.M W base okp x cs) (hokp : ∀ k, okp k → ok k ∧ some k ≠ v.ownBlock) (hfresh : ∀ k, W.heap.size ≤ k → ok k)
    (HB : Below base w0 W) (hbase : base ≤ W.heap.size) (hl : (xs.length + m) * bytes ≤ 140737488355328)
    (h : ∀ v1 w1, d.R e w1 base ok v1 (xs ++ ys) → Below base w0 w1 → W.grownBy w1 v.ownBlock → (v1.ownBlock = v.ownBlock ∨ ∃ b, v1.ownBlock = some b ∧ W.heap.size ≤ b) → (∀ p u, W.cell? p = some u → (v.ownBlock = some p.block → ∃ g j, p = ⟨g, j, none⟩ ∧ j < xs.length * d.sz) → w1.cell? p = some u) → wpList P ops Q rest (a.put o.dst v1) w1) :
    wpList P ops Q (o :: rest) a W := by
  obtain ⟨i0, hi, hzz⟩ := Option.map_eq_some_iff.1 hinfo
  simp only [Prod.mk.injEq] at hzz
  obtain ⟨hz0, hz1, hz2⟩ := hzz
  have hm : ys.length = m := HR.1
  have hlen : xs.length + m ≤ 140737488355328 := Nat.le_trans (Nat.le_mul_of_pos_right _ hb0) hl
  obtain ⟨hok, inner, hown, hr⟩ := HO
  have hrun : ∃ v1 w1, (Builtin.append_ #[t, t] o.type #[v, .slice A m c]).run P W = .ok v1 w1 ∧ d.R e w1 base ok v1 (xs ++ ys) ∧ W.grownBy w1 v.ownBlock ∧ (v1.ownBlock = v.ownBlock ∨ ∃ b, v1.ownBlock = some b ∧ W.heap.size ≤ b) ∧ (∀ p u, W.cell? p = some u → (v.ownBlock = some p.block → ∃ g j, p = ⟨g, j, none⟩ ∧ j < xs.length * d.sz) → w1.cell? p = some u) := by
   rcases A with _ | ad
   · have h0 : m = 0 := by
       rcases Nat.eq_zero_or_pos m with h0 | h0
       · exact h0
       · obtain ⟨ad, h, _⟩ := HR.2.2 h0
         cases h
     subst h0
     obtain rfl : ys = [] := List.eq_nil_of_length_eq_zero hm
     refine ⟨v, W, ?_, by rw [List.append_nil]; exact ⟨hok, inner, hown, hr⟩, World.grownBy.refl W _, .inl rfl, fun _ _ h _ => h⟩
     rcases hown.2 with ⟨rfl, hn⟩ | ⟨g, cap, cur, rfl, _, _, hnc, _⟩
     · simp [Builtin.append_, run_underlying ht, sizeOf, typeInfo, hi, Builtin.lenOf, Builtin.firstCells]
     · simp [Builtin.append_, run_underlying ht, sizeOf, typeInfo, hi, Builtin.lenOf, Builtin.firstCells, hnc, storeCells]
   · skip
     obtain ⟨news, hnr, hnc⟩ := ReadsRow.inner_ HR
     have hnM : Reps (d.M W base okp) d.sz ys news := hnr.imp_ (fun p c hp => hKM p c hp)
     have hone : ∀ u ∈ news, u.oneCell' = true := by
       intro u hu
       obtain ⟨q, hq, rfl⟩ := List.mem_iff_getElem.1 hu
       have hql : q / d.sz < ys.length := by
         rw [Nat.div_lt_iff_lt_mul hs0]
         rw [← hnM.1]
         exact hq
       have hc := hnM.2 (q / d.sz) _ (List.getElem?_eq_getElem hql)
       refine d.K_one (d.K_of_M hc) _ ?_
       rw [List.mem_iff_getElem?]
       refine ⟨q % d.sz, ?_⟩
       rw [List.getElem?_take, if_pos (Nat.mod_lt _ hs0), List.getElem?_drop, Nat.mul_comm, Nat.div_add_mod, List.getElem?_eq_getElem hq]
     obtain ⟨v1, w1, hrun, h2, hg, _, hat⟩ := run_append_own_at (P := P) W base t o.type e i0 z d.sz bytes ht hi hz0 hz1 hz2 hz hs0 v xs.length inner hown ad m c news (by rw [hnM.1, hm]) hnc hone (by simp only [maxLen]; omega) hl hbase
     have keep := append_keeps (P := P) base t o.type e i0 z d.sz bytes ht hi hz0 hz1 hz2 xs.length inner hown ad m c news (by rw [hnM.1, hm]) hnc hone (by simp only [maxLen]; omega) hl hrun
     have hat' : v1.ownBlock = v.ownBlock ∨ ∃ b, v1.ownBlock = some b ∧ W.heap.size ≤ b := by
       rcases hat with hat | hat
       · exact .inl hat
       · exact .inr ⟨_, hat, Nat.le_refl _⟩
     have hne : ∀ k, some k ≠ v.ownBlock → k < W.heap.size → some k ≠ v1.ownBlock := by
       intro k hk hlt
       rcases hat' with hat | ⟨b, hb, hle⟩
       · rw [hat]; exact hk
       · rw [hb]
         intro he
         injection he with he
         omega
     have step : ∀ {q : α} {c : List Value} {o : Nat → Prop}, d.M W base o q c → (∀ k, o k → ok k ∧ some k ≠ v.ownBlock) → d.M w1 base (fun k => ok k ∧ some k ≠ v1.ownBlock) q c := by
       intro q c o hq ho
       have h1 := d.M_move (w1 := w1) (fun k hk => hg.block k hk.2.2.1 (ho k hk.1).2) (d.M_bound hq)
       exact d.M_mono (fun k hk => ⟨(ho k hk.1).1, hne k (ho k hk.1).2 hk.2.2.1⟩) h1
     have h1 : d.R e w1 base ok v1 (xs ++ ys) := by
       refine ⟨fun k hk => ?_, inner ++ news, by rw [List.length_append, hm]; exact h2, reps_append (hr.imp_ (fun _ _ hq => step hq (fun _ hk => hk))) (hnM.imp_ (fun _ _ hq => step hq hokp))⟩
       rcases hat' with hat | ⟨b, hb, hle⟩
       · exact hok k (hat ▸ hk)
       · rw [hb] at hk
         injection hk with hk
         exact hfresh k (by omega)
     exact ⟨v1, w1, hrun, h1, hg, hat', keep⟩
  obtain ⟨v1, w1, hrun, h1, hg, hat', keep⟩ := hrun
  refine wpList_plain hgd fun K hK => ?_
  unfold Oper.wp execOp
  simp only [ho, resolve, invoke, builtin, Sem.run_bind, Sem.run_pure, Result.andThen_ok, List.map_toArray, List.map_cons, List.map_nil, hs, hx, hrun]
  exact hK _ _ (h v1 w1 h1 (HB.grown hg hbase (own_base hown)) hg hat' keep)
/-- A part of a row of strings, under the row's length. -/
def Under (v : Value) (n : Nat) (A : Option Addr) (m : Nat) : Prop := ∀ ad, A = some ad → ∀ i, i < m → v.ownBlock = some (ad.add i).block → ∃ g j, ad.add i = ⟨g, j, none⟩ ∧ j < n
theorem C_keep {W w1 : World} {A : Option Addr} {ys : List ByteArray} (h : Kd.C Kd.string W A ys.length ys) (hk : ∀ ad, A = some ad → ∀ i u, i < ys.length → W.cell? (ad.add i) = some u → w1.cell? (ad.add i) = some u) : Kd.C Kd.string w1 A ys.length ys := by
  refine ⟨h.1, h.2.1, fun hp => ?_⟩
  obtain ⟨ad, e, hc⟩ := h.2.2 hp
  refine ⟨ad, e, fun j p hj => ?_⟩
  obtain ⟨cs, h1, h2, h3⟩ := hc j p hj
  refine ⟨cs, h1, h2, fun i u hu => hk ad e _ u ?_ (h3 i u hu)⟩
  have hj' := (List.getElem?_eq_some_iff.1 hj).1
  have hi' := (List.getElem?_eq_some_iff.1 hu).1
  have h1' : cs.length = 1 := h1
  show j * 1 + i < ys.length
  omega
/-- A cut of a row of one's own, behind an append onto that row. -/
theorem cut_keep {W w1 : World} {v v1 : Value} {n n1 : Nat} {A : Option Addr} {ys : List ByteArray} (h : Kd.C Kd.string W A ys.length ys) (hu : Under v n A ys.length) (hn : n ≤ n1)
    (hk : ∀ p u, W.cell? p = some u → (v.ownBlock = some p.block → ∃ g j, p = ⟨g, j, none⟩ ∧ j < n * 1) → w1.cell? p = some u) (hat : v1.ownBlock = v.ownBlock ∨ ∃ b, v1.ownBlock = some b ∧ W.heap.size ≤ b) :
    Kd.C Kd.string w1 A ys.length ys ∧ Under v1 n1 A ys.length := by
  refine ⟨C_keep h (fun ad e i u hi hc => hk _ u hc (fun hb => ?_)), fun ad e i hi hb => ?_⟩
  · obtain ⟨g, j, e1, hj⟩ := hu ad e i hi hb
    exact ⟨g, j, e1, by omega⟩
  · rcases hat with hat | ⟨b, hb1, hle⟩
    · obtain ⟨g, j, e1, hj⟩ := hu ad e i hi (hat ▸ hb)
      exact ⟨g, j, e1, by omega⟩
    · exfalso
      obtain ⟨ad', e', hc⟩ := h.2.2 (by omega)
      obtain rfl : ad' = ad := Option.some.inj (e'.symm.trans e)
      obtain ⟨cs, h1, h2, h3⟩ := hc i _ (List.getElem?_eq_getElem hi)
      have h1' : cs.length = 1 := h1
      have := h3 0 cs[0] (List.getElem?_eq_getElem (by omega))
      have hlt := World.block_lt_of_cell? _ _ this
      rw [hb1] at hb
      injection hb with hb
      have e2 : i * Kd.string.sz + 0 = i := by show i * 1 + 0 = i; omega
      rw [e2] at hlt
      omega
/-- The cut of a row of one's own lies under its length. -/
theorem under_cut {g n c lo hi : Nat} (hh : hi ≤ n) (hnc : n ≤ c) : Under (.slice (some ⟨g, 0, none⟩) n c) n (if c = lo then some ⟨g, 0, none⟩ else (some (⟨g, 0, none⟩ : Addr)).map (·.add (lo * 1))) (hi - lo) := by
  intro ad e i hi' _
  split at e
  · omega
  · obtain rfl := Option.some.inj e
    refine ⟨g, lo + i, ?_, by omega⟩
    simp only [Addr.add_lit]
    congr 1
    omega
theorem under_R {d : Kd α} {e : Nat} {W : World} {base : Nat} {ok : Nat → Prop} {Ao A : Option Addr} {c lo hi m : Nat} {xs : List α} (h : d.R e W base ok (.slice Ao xs.length c) xs) (hA : A = (if c = lo then Ao else Ao.map (·.add (lo * 1)))) (hm : m = hi - lo) (hh : hi ≤ xs.length) : Under (.slice Ao xs.length c) xs.length A m := by
  subst hA
  subst hm
  obtain ⟨_, inner, hown, _⟩ := h
  rcases hown.2 with ⟨hv, hn⟩ | ⟨g, cap, cur, hv, _, _, hnc, _⟩
  · intro ad e i hi' _
    omega
  · injection hv with h1 h2 h3
    subst h1
    subst h3
    exact under_cut hh hnc
end
theorem bO {α β : Type} {o : Option α} {f : α → Option β} {r : β} (h : o.bind f = some r) : ∃ a, Aside0 (o = some a) ∧ f a = some r := by
  obtain ⟨a, h1, h2⟩ := Option.bind_eq_some_iff.mp h
  exact ⟨a, ⟨h1⟩, h2⟩
theorem kL {α : Type} {d : Kd α} {e : Nat} {W : World} {base : Nat} {ok : Nat → Prop} {A : Option Addr} {n c : Nat} {xs : List α} (h : Aside0 (d.R e W base ok (.slice A n c) xs)) : n ≤ c := (Kd.R_reads' h.out).2.1
theorem kD {α : Type} {d : Kd α} {e : Nat} {W : World} {base : Nat} {ok : Nat → Prop} {A : Option Addr} {n c : Nat} {xs : List α} (h : Aside0 (d.R e W base ok (.slice A n c) xs)) : d.C W A xs.length xs := (Kd.R_reads' h.out).2.2
theorem kC {α : Type} {d : Kd α} {e : Nat} {W W' : World} {base : Nat} {ok : Nat → Prop} {A : Option Addr} {n c : Nat} {xs : List α} (h : Aside0 (d.R e W base ok (.slice A n c) xs)) (s : d.C W A xs.length xs → d.C W' A xs.length xs := by intro hB_; repeat (first | exact hB_ | (with_reducible refine Kd.C_alloc ?_ _) | (with_reducible refine Kd.C_drewN ?_ _) | (with_reducible refine Kd.C_drew ?_))) : d.C W' A xs.length xs := s (Kd.R_reads' h.out).2.2
theorem yH {α : Sort _} {y e : α} {p q : Prop} (hy : y = e) (H : p) (s : y = e → p → q := by intro hy_ H_; first | (rw [hy_]; with_reducible exact H_) | (have H2_ := (Option.bind_some _ _).symm.trans H_; rw [hy_]; with_reducible exact H2_) | (have H2_ := (Option.bind_some _ _).symm.trans H_; with_reducible exact H2_) | with_reducible exact H_ | (rw [hy_]; exact H_) | exact H_) : q := s hy H
theorem b4 {W : World} {g t : Nat} {a b c d : Value} {R : Prop} (h : Aside0 (W.heap[g]? = some (.cells #[a, b, c, d] t (0, 0)))) (r : R) : W.cell? ⟨g, 0, none⟩ = some a ∧ W.cell? ⟨g, 1, none⟩ = some b ∧ W.cell? ⟨g, 2, none⟩ = some c ∧ W.cell? ⟨g, 3, none⟩ = some d ∧ R := ⟨bl h.out 0, bl h.out 1, bl h.out 2, bl h.out 3, r⟩
theorem b4e {W : World} {g t : Nat} {a b c d : Value} (h : Aside0 (W.heap[g]? = some (.cells #[a, b, c, d] t (0, 0)))) : W.cell? ⟨g, 0, none⟩ = some a ∧ W.cell? ⟨g, 1, none⟩ = some b ∧ W.cell? ⟨g, 2, none⟩ = some c ∧ W.cell? ⟨g, 3, none⟩ = some d := ⟨bl h.out 0, bl h.out 1, bl h.out 2, bl h.out 3⟩
end Go.Proofs.YtojfbgegankddaaDoorW.PrintWords
namespace Go.Proofs.YtojfbgegankddaaDoorW.PrintLast
open Go.RowKit Go.Proofs.YtojfbgegankddaaDoorW.PrintWords
/-- The first so many of them. -/
def mkp (n i : Nat) : Array Bool := mk n (2 ^ i - 1)
section
variable {P : Program} {md : Region.Mode} {ops : Array Oper} {Q : Exit → Act → World → Prop} {S : World → Prop} {ds : List Nat}
theorem qv {T : Bool × List (List Nat × List Nat)} {fuel n i : Nat} {a : Act} {w : World} {t : Tmp} (hT : Aside0 (rtab md ops = T)) {oi : Oper} {v : Value} {a' : Act}
    (h : wpAnyLast P md ops Q S ds fuel (mkp n (i + 1)) a' w)
    (hs : (ops[i]? = some oi ∧ oi.dst = some t) ∧ anyT T (mkp n i).toList (mkp n (i + 1)).toList i = true ∧ (∀ c a w, Q (.panic c) (a.put oi.dst v) w → Q (.panic c) a w) ∧ Yields P ops oi v a ∧ a.put (some t) v = a' := by
      refine ⟨⟨rfl, rfl⟩, by kernel_rfl, fun _ _ _ h => h, Or.inl ⟨by rfl, by intro w'; go_simp; with_reducible rfl⟩, by simp only [Act.put, List.setIfInBounds_toArray, List.set_cons_zero, List.set_cons_succ, i64_w, i32_w]; rfl⟩)
    : wpAnyLast P md ops Q S ds (fuel + 1) (mkp n i) a w :=
  pure_ (mkp n (i + 1)) hs.1.1 hs.1.2 (any_of hT.out hs.2.1) hs.2.2.1 hs.2.2.2.1 hs.2.2.2.2 h
theorem qu {T : Bool × List (List Nat × List Nat)} {fuel n i : Nat} {a : Act} {w : World} {t : Tmp} (hT : Aside0 (rtab md ops = T)) {oi : Oper} {a' : Act}
    (h : wpAnyLast P md ops Q S ds fuel (mkp n (i + 1)) a' w)
    (hs : (ops[i]? = some oi ∧ oi.dst = some t) ∧ anyT T (mkp n i).toList (mkp n (i + 1)).toList i = true ∧ (∀ c a w, Q (.panic c) (a.put oi.dst undef) w → Q (.panic c) a w) ∧ Yields P ops oi undef a ∧ a.put (some t) undef = a' := by
      refine ⟨⟨rfl, rfl⟩, by kernel_rfl, fun _ _ _ h => h, Or.inr ⟨by rfl, rfl⟩, by simp only [Act.put, List.setIfInBounds_toArray, List.set_cons_zero, List.set_cons_succ, i64_w, i32_w]; rfl⟩)
    : wpAnyLast P md ops Q S ds (fuel + 1) (mkp n i) a w :=
  pure_ (mkp n (i + 1)) hs.1.1 hs.1.2 (any_of hT.out hs.2.1) hs.2.2.1 hs.2.2.2.1 hs.2.2.2.2 h
theorem tk {T : Bool × List (List Nat × List Nat)} {B : List Nat} {fuel n i : Nat} {a : Act} {w : World} {t : Tmp} (hT : Aside0 (rtab md ops = T)) (hW : Aside0 (waitsOk T.2 B = true)) (hH : S w) {oi : Oper} {v : Value} {a' : Act}
    (h : wpAnyLast P md ops Q S ds fuel (mkp n (i + 1)) a' w)
    (hs : (ops[i]? = some oi ∧ oi.dst = some t) ∧ takeW T B ds (mkp n i).toList (mkp n (i + 1)).toList i = true ∧ (∀ c a w, Q (.panic c) (a.put oi.dst v) w → Q (.panic c) a w) ∧ YieldsIf P ops S oi v a ∧ a.put (some t) v = a' := by
      refine ⟨⟨rfl, rfl⟩, by kernel_rfl, fun _ _ _ h => h, Or.inl ⟨by rfl, by intro w' hS_; (try dsimp only at hS_); go_simp; with_reducible rfl⟩, by simp only [Act.put, List.setIfInBounds_toArray, List.set_cons_zero, List.set_cons_succ, i64_w, i32_w]; rfl⟩)
    : wpAnyLast P md ops Q S ds (fuel + 1) (mkp n i) a w :=
  take_ (mkp n (i + 1)) hs.1.1 hs.1.2 (take_ofW hT.out hW.out hs.2.1) hs.2.2.1 hs.2.2.2.1 hH hs.2.2.2.2 h
theorem pvp {T : Bool × List (List Nat × List Nat)} {fuel : Nat} {l : Array Bool} {a : Act} {w : World} (i : Nat) (t : Tmp) (n m : Nat) (hT : Aside0 (rtab md ops = T)) {oi : Oper} {v : Value} {a' : Act}
    (h : wpAnyLast P md ops Q S ds fuel (mkp n m) a' w)
    (hs : (ops[i]? = some oi ∧ oi.dst = some t) ∧ anyT T l.toList (mkp n m).toList i = true ∧ (∀ c a w, Q (.panic c) (a.put oi.dst v) w → Q (.panic c) a w) ∧ Yields P ops oi v a ∧ a.put (some t) v = a' := by
      refine ⟨⟨rfl, rfl⟩, by kernel_rfl, fun _ _ _ h => h, Or.inl ⟨by rfl, by intro w'; go_simp; with_reducible rfl⟩, by simp only [Act.put, List.setIfInBounds_toArray, List.set_cons_zero, List.set_cons_succ, i64_w, i32_w]; rfl⟩)
    : wpAnyLast P md ops Q S ds (fuel + 1) l a w :=
  pure_ (mkp n m) hs.1.1 hs.1.2 (any_of hT.out hs.2.1) hs.2.2.1 hs.2.2.2.1 hs.2.2.2.2 h
theorem pup {T : Bool × List (List Nat × List Nat)} {fuel : Nat} {l : Array Bool} {a : Act} {w : World} (i : Nat) (t : Tmp) (n m : Nat) (hT : Aside0 (rtab md ops = T)) {oi : Oper} {a' : Act}
    (h : wpAnyLast P md ops Q S ds fuel (mkp n m) a' w)
    (hs : (ops[i]? = some oi ∧ oi.dst = some t) ∧ anyT T l.toList (mkp n m).toList i = true ∧ (∀ c a w, Q (.panic c) (a.put oi.dst undef) w → Q (.panic c) a w) ∧ Yields P ops oi undef a ∧ a.put (some t) undef = a' := by
      refine ⟨⟨rfl, rfl⟩, by kernel_rfl, fun _ _ _ h => h, Or.inr ⟨by rfl, rfl⟩, by simp only [Act.put, List.setIfInBounds_toArray, List.set_cons_zero, List.set_cons_succ, i64_w, i32_w]; rfl⟩)
    : wpAnyLast P md ops Q S ds (fuel + 1) l a w :=
  pure_ (mkp n m) hs.1.1 hs.1.2 (any_of hT.out hs.2.1) hs.2.2.1 hs.2.2.2.1 hs.2.2.2.2 h
theorem tkm {T : Bool × List (List Nat × List Nat)} {B : List Nat} {fuel : Nat} {l : Array Bool} {a : Act} {w : World} (i : Nat) (t : Tmp) (l' : Array Bool) (hT : Aside0 (rtab md ops = T)) (hW : Aside0 (waitsOk T.2 B = true)) (hH : S w) {oi : Oper} {v : Value} {a' : Act}
    (h : wpAnyLast P md ops Q S ds fuel l' a' w)
    (hs : (ops[i]? = some oi ∧ oi.dst = some t) ∧ takeW T B ds l.toList l'.toList i = true ∧ (∀ c a w, Q (.panic c) (a.put oi.dst v) w → Q (.panic c) a w) ∧ YieldsIf P ops S oi v a ∧ a.put (some t) v = a' := by
      refine ⟨⟨rfl, rfl⟩, by kernel_rfl, fun _ _ _ h => h, Or.inl ⟨by rfl, by intro w' hS_; (try dsimp only at hS_); go_simp; with_reducible rfl⟩, by simp only [Act.put, List.setIfInBounds_toArray, List.set_cons_zero, List.set_cons_succ, i64_w, i32_w]; rfl⟩)
    : wpAnyLast P md ops Q S ds (fuel + 1) l a w :=
  take_ l' hs.1.1 hs.1.2 (take_ofW hT.out hW.out hs.2.1) hs.2.2.1 hs.2.2.2.1 hH hs.2.2.2.2 h
theorem on {T : Bool × List (List Nat × List Nat)} {fuel : Nat} {l : Array Bool} {a : Act} {w : World} (i : Nat) (l' : Array Bool) (hT : Aside0 (rtab md ops = T)) {N : Option Tmp} {oi : Oper}
    (h : ∀ K : Act → World → Prop, Shut (∀ a' w', S w' → (S w' → wpAnyLast P md ops Q S ds fuel l' a' w') → K a' w') → if Region.wanted oi (yielded ops a.tmps) = true then Oper.wp P oi a w K Q else K (a.put N undef) w)
    (hi : ops[i]? = some oi := by rfl) (hN : oi.dst = N := by rfl) (hc : (readyT T.2 l.toList == [i] && l.toList.set i true == l'.toList) = true := by kernel_rfl) (hd : i ∉ ds := by decide) : wpAnyLast P md ops Q S ds (fuel + 1) l a w :=
  one_ l' hi hN (one_of hT.out hc) hd h
variable {rest : List Oper} {oi : Oper} {a : Act} {w : World} {N : Option Tmp} {f : FuncId} {fn : Func} {as : Array Operand} {ts : Array TypeId}
/-- A call, in a plain region. -/
theorem gl (hf : P.funcs[f]? = some fn) (args : Array Value) (h : Calls P f args w fun e w' => ∃ v, e = .returned v ∧ wpList P ops Q rest (a.put N v) w')
    (hd : oi.dst = N := by rfl) (hg : oi.guard = none := by rfl) (hname : (fn.name == "runtime.NumGoroutine") = false := by kernel_rfl) (hb : fn.body.isSome = true := by rfl)
    (hop : oi.op = .call { callee := .value (.func f), args := as, argTypes := ts } := by rfl) (hargs : as.map a.eval = args := by (try simp only [List.map_toArray, List.map_cons, List.map_nil]); first | done | rfl | (simp only [List.length_drop, List.length_take]; rfl)) : wpList P ops Q (oi :: rest) a w :=
  goesL_ N hd hg hf hname hb args hop hargs h
/-- A call, as one step of a region that draws its order. -/
theorem gr {K : Act → World → Prop} (hf : P.funcs[f]? = some fn) (args : Array Value) (h : Calls P f args w fun e w' => ∃ v, e = .returned v ∧ K (a.put N v) w')
    (hname : (fn.name == "runtime.NumGoroutine") = false := by kernel_rfl) (hb : fn.body.isSome = true := by rfl) (hw : Region.wanted oi (yielded ops a.tmps) = true := by rfl) (hN : oi.dst = N := by rfl)
    (hop : oi.op = .call { callee := .value (.func f), args := as, argTypes := ts } := by rfl) (hargs : as.map a.eval = args := by (try simp only [List.map_toArray, List.map_cons, List.map_nil]); first | done | rfl | (simp only [List.length_drop, List.length_take]; rfl)) : if Region.wanted oi (yielded ops a.tmps) = true then Oper.wp P oi a w K Q else K (a.put N undef) w :=
  goes_ hf hname hb args hw hN hop hargs h
theorem gx (N : Tmp) (_hN : oi.dst = some N) (h : wpList P ops Q (oi :: rest) a w) : wpList P ops Q (oi :: rest) a w := h
theorem gy (f : FuncId) {as : Array Operand} {ts : Array TypeId} (_ho : oi.op = .call { callee := .value (.func f), args := as, argTypes := ts }) (h : wpList P ops Q (oi :: rest) a w) : wpList P ops Q (oi :: rest) a w := h
end
end Go.Proofs.YtojfbgegankddaaDoorW.PrintLast
