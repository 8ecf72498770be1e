-- Written by a program (wip/myprint.py): the machine side of one law: each function that it reaches, as a plain function, and the proof that a call comes to just that.
import Derived.Test.YthojienhgeiknaaPFnExactPowerMatrixx0
import Derived.Test.YthojienhgeiknaaPFnExactPowerMatrixx1
import Derived.Test.YthojienhgeiknaaPFnExactPowerMatrixx4
import Derived.Test.YthojienhgeiknaaPFnExactPowerMatrixx5
namespace Go.Proofs.Ythojienhgeiknaa.PFnExactPowerMatrix
open Go.RowKit Go.Proofs.YthojienhgeiknaaW.PrintWords Go.Proofs.YthojienhgeiknaaW.PrintLast Go.Proofs.YthojienhgeiknaaW.PrintMore
attribute [local go_sem] max2_int min2_int max_two min_two max_three min_three max_four min_four   -- for this text's walks alone
set_option linter.unusedVariables false
set_option linter.unusedSimpArgs false

/-! ### spec_PowerMatrix: function 34 -/
mutual
def spec_PowerMatrix.j0 : Nat → Int → Bool → Int → List Int → Option (Int × List Int × Bool)
 | 0, _, _, _, _ => none
 | k + 1, x1, x13, x221000, x221001 => if x13 = true then (some (0, ([] : List Int), false)) else ((spec_l2Unit.f k x221000).bind fun bt223 => (spec_PowerMatrix.l0 k x1 x221000 x221001 bt223.1 bt223.2))
def spec_PowerMatrix.l0 : Nat → Int → Int → List Int → Int → List Int → Option (Int × List Int × Bool)
 | 0, _, _, _, _, _ => none
 | k + 1, x1, x221000, x221001, x228000, x228001 => if x1 > 0 then (if (Int.tmod x1 2) = 1 then ((spec_l2Mul.f k x228000 x228001 x221000 x221001).bind fun bt228 => ((spec_l2Mul.f k x221000 x221001 x221000 x221001).bind fun bt232 => (spec_PowerMatrix.l0 k (wrap64 (Int.tdiv x1 2)) bt232.1 bt232.2 bt228.1 bt228.2))) else ((spec_l2Mul.f k x221000 x221001 x221000 x221001).bind fun bt236 => (spec_PowerMatrix.l0 k (wrap64 (Int.tdiv x1 2)) bt236.1 bt236.2 x228000 x228001))) else (some (x228000, x228001, true))
end
def spec_PowerMatrix.f (k : Nat) (a0_0 : Int) (l0_1 : List Int) (a1 : Int) : Option (Int × List Int × Bool) := (spec_MatrixValid.f k a0_0 l0_1).bind fun t222 => (if t222 = true then (spec_PowerMatrix.j0 k a1 (decide (a1 < 0)) a0_0 l0_1) else (spec_PowerMatrix.j0 k a1 true a0_0 l0_1))
theorem spec_PowerMatrix.mono_l : ∀ k, (∀ y0 y1 y2 y3, LeO (spec_PowerMatrix.j0 k y0 y1 y2 y3) (spec_PowerMatrix.j0 (k + 1) y0 y1 y2 y3)) ∧ (∀ y0 y1 y2 y3 y4, LeO (spec_PowerMatrix.l0 k y0 y1 y2 y3 y4) (spec_PowerMatrix.l0 (k + 1) y0 y1 y2 y3 y4))
 | 0 => ⟨fun _ _ _ _ r h => by simp [spec_PowerMatrix.j0] at h, fun _ _ _ _ _ r h => by simp [spec_PowerMatrix.l0] at h⟩
 | k + 1 => by
  obtain ⟨ih0, ih1⟩ := spec_PowerMatrix.mono_l k
  refine ⟨?_, ?_⟩
  ·intro y0 y1 y2 y3
   unfold spec_PowerMatrix.j0
   repeat' first
   | (with_reducible exact ih0 _ _ _ _)
   | (with_reducible exact ih1 _ _ _ _ _)
   | (with_reducible exact spec_MatrixValid.mono _ _ _)
   | (with_reducible exact spec_l2Mul.mono _ _ _ _ _)
   | (with_reducible exact spec_l2Unit.mono _ _)
   | (with_reducible exact LeO.refl _)
   | (with_reducible exact LeO.none _)
   | (with_reducible refine LeO.ite ?_ ?_)
   | (with_reducible refine LeO.bind ?_ (fun _ => ?_))
   | exact ih0 _ _ _ _
   | exact ih1 _ _ _ _ _
   | exact spec_MatrixValid.mono _ _ _
   | exact spec_l2Mul.mono _ _ _ _ _
   | exact spec_l2Unit.mono _ _
   | exact LeO.none _
   | refine LeO.ite ?_ ?_
   | refine LeO.bind ?_ (fun _ => ?_)
  ·intro y0 y1 y2 y3 y4
   unfold spec_PowerMatrix.l0
   repeat' first
   | (with_reducible exact ih0 _ _ _ _)
   | (with_reducible exact ih1 _ _ _ _ _)
   | (with_reducible exact spec_MatrixValid.mono _ _ _)
   | (with_reducible exact spec_l2Mul.mono _ _ _ _ _)
   | (with_reducible exact spec_l2Unit.mono _ _)
   | (with_reducible exact LeO.refl _)
   | (with_reducible exact LeO.none _)
   | (with_reducible refine LeO.ite ?_ ?_)
   | (with_reducible refine LeO.bind ?_ (fun _ => ?_))
   | exact ih0 _ _ _ _
   | exact ih1 _ _ _ _ _
   | exact spec_MatrixValid.mono _ _ _
   | exact spec_l2Mul.mono _ _ _ _ _
   | exact spec_l2Unit.mono _ _
   | exact LeO.none _
   | refine LeO.ite ?_ ?_
   | refine LeO.bind ?_ (fun _ => ?_)
theorem spec_PowerMatrix.mono : ∀ a0 a1 a2 k, LeO (spec_PowerMatrix.f k a0 a1 a2) (spec_PowerMatrix.f (k + 1) a0 a1 a2) := by
 intro a0 a1 a2 k
 obtain ⟨ih0, ih1⟩ := spec_PowerMatrix.mono_l k
 unfold spec_PowerMatrix.f
 repeat' first
   | (with_reducible exact ih0 _ _ _ _)
   | (with_reducible exact ih1 _ _ _ _ _)
   | (with_reducible exact spec_MatrixValid.mono _ _ _)
   | (with_reducible exact spec_l2Mul.mono _ _ _ _ _)
   | (with_reducible exact spec_l2Unit.mono _ _)
   | (with_reducible exact LeO.refl _)
   | (with_reducible exact LeO.none _)
   | (with_reducible refine LeO.ite ?_ ?_)
   | (with_reducible refine LeO.bind ?_ (fun _ => ?_))
   | exact ih0 _ _ _ _
   | exact ih1 _ _ _ _ _
   | exact spec_MatrixValid.mono _ _ _
   | exact spec_l2Mul.mono _ _ _ _ _
   | exact spec_l2Unit.mono _ _
   | exact LeO.none _
   | refine LeO.ite ?_ ?_
   | refine LeO.bind ?_ (fun _ => ?_)
set_option maxHeartbeats 8000000 in
set_option maxRecDepth 100000 in
theorem spec_PowerMatrix.calls (k : Nat) (a0_0 : Int) (P0_1_ : Nat → Prop) (A0_1 : Option Addr) (c0_1 : Nat) (l0_1 : List Int) (a1 : Int) (r1 : Int) (r2 : List Int) (r3 : Bool) (w : World) (hs0_1 : Kd.V (Kd.int .i64) 3 w w.heap.size (fun k_ => P0_1_ k_) (.slice A0_1 l0_1.length c0_1) l0_1) (h : spec_PowerMatrix.f k a0_0 l0_1 a1 = some (r1, r2, r3)) :
  Calls Try.prog 34 #[.agg #[.int .i64 a0_0, .slice A0_1 l0_1.length c0_1], .int .i64 a1] w fun e w' => ∃ v1_ : Value, e = .returned (.tuple #[.agg #[.int .i64 r1, v1_], .bool r3]) ∧ Kd.R (Kd.int .i64) 3 w' w.heap.size (fun k_ => (w.heap.size ≤ k_)) v1_ r2 ∧ Below w.heap.size w w' := by
 have hu27 := Try.underlying27
 have HO0_1 := Aside0.mk (show Kd.V (Kd.int .i64) 3 w w.heap.size (fun k_ => (P0_1_ k_ ∨ w.heap.size ≤ k_)) (.slice A0_1 l0_1.length c0_1) l0_1 from Kd.V_mono hs0_1 (fun k_ hk => .inl hk))
 have HB := Aside0.mk (Below.refl w.heap.size w)
 have H : ((spec_MatrixValid.f k a0_0 l0_1).bind fun t222 => (if t222 = true then (spec_PowerMatrix.j0 k a1 (decide (a1 < 0)) a0_0 l0_1) else (spec_PowerMatrix.j0 k a1 true a0_0 l0_1))) = some (r1, r2, r3) := h
 clear h
 have HC3 := Aside0.mk H
 clear H
 go_enter Try.func34, Try.ntmps34
 go_upto_region 1 with (first | ((with_reducible refine gate_dst (N := 2) rfl ?_); refine box_event ?hg (N := 2) ?hd (cs := #[.int .i64 a0_0, .slice A0_1 l0_1.length c0_1]) (t := 27) ?hr ?_; (case hd => rfl); (case hg => rfl); (case hr => first | (go_simp; done) | (go_simp; rfl)); intro gb220 hg w4 hbox hb; have n0_ := Aside0.mk (Kd.V_below (Kd.V_elderB (by (with_reducible repeat (first | apply Kd.V_alloc | apply Kd.V_drewN | apply Kd.V_drew)); exact HO0_1.out) gb220 (Nat.le_of_eq hg.symm)) hb); have n1_ := Aside0.mk (below_step (by exact bz HB.out) hb); have n2_ := Aside0.mk (hbox); have n3_ := Aside0.mk ((by rw [hg]; exact (below_size (by exact bz HB.out)) : w.heap.size ≤ gb220)); have n4_ := Aside0.mk ((by rw [hg]; exact (below_size (by exact bz HB.out)) : w.heap.size ≤ gb220)); clear HO0_1 HB; have HO0_1 := n0_; have HB := n1_; have BK220 := n2_; have GW220 := n3_; have GE220 := n4_; clear n0_ n1_ n2_ n3_ n4_; clear hb hbox hg) | ((with_reducible refine gate_dst (N := 4) rfl ?_); refine box_event ?hg (N := 4) ?hd (cs := #[.int .i64 0, .slice none 0 0]) (t := 27) ?hr ?_; (case hd => rfl); (case hg => rfl); (case hr => first | (go_simp; done) | (go_simp; rfl)); intro gb221 hg w5 hbox hb; have n0_ := Aside0.mk (Kd.V_below (Kd.V_elderB (by (with_reducible repeat (first | apply Kd.V_alloc | apply Kd.V_drewN | apply Kd.V_drew)); exact HO0_1.out) gb221 (Nat.le_of_eq hg.symm)) hb); have n1_ := bk BK220 hb; have n2_ := Aside0.mk (below_step (by repeat (first | (with_reducible first | exact HB.out | apply ba | apply bn | apply bd | refine bs ?_ (by assumption)) | exact HB.out)) hb); have n3_ := Aside0.mk (hbox); have n4_ := Aside0.mk ((by rw [hg]; exact (below_size (by repeat (first | (with_reducible first | exact HB.out | apply ba | apply bn | apply bd | refine bs ?_ (by assumption)) | exact HB.out))) : w.heap.size ≤ gb221)); have n5_ := Aside0.mk ((by rw [hg]; exact (below_size (by repeat (first | (with_reducible first | exact HB.out | apply ba | apply bn | apply bd | refine bs ?_ (by assumption)) | exact HB.out))) : w.heap.size ≤ gb221)); have n6_ := Aside0.mk ((by rw [hg]; exact Nat.ne_of_lt (blk_lt (kz BK220.out)) : gb220 ≠ gb221)); have n7_ := Aside0.mk ((by rw [hg]; exact Nat.ne_of_gt (blk_lt (kz BK220.out)) : gb221 ≠ gb220)); clear HO0_1 BK220 HB; have HO0_1 := n0_; have BK220 := n1_; have HB := n2_; have BK221 := n3_; have GW221 := n4_; have GE221 := n5_; have NB220_221 := n6_; have NB221_220 := n7_; clear n0_ n1_ n2_ n3_ n4_ n5_ n6_ n7_; clear hb hbox hg))
 (try simp only [Act.put, List.setIfInBounds_toArray, List.set_cons_zero, List.set_cons_succ])
 go_cut [13] (fun v13 wc => ∃ (kq : Nat) (x13_2 : Bool), v13 = .bool x13_2 ∧ Aside0 (spec_PowerMatrix.j0 kq a1 x13_2 a0_0 l0_1 = some (r1, r2, r3)) ∧ Aside0 (kq ≤ k) ∧ Aside0 (Kd.V (Kd.int .i64) 3 wc w.heap.size (fun k_ => (P0_1_ k_ ∨ w.heap.size ≤ k_) ∧ k_ ≠ gb220 ∧ k_ ≠ gb221) (.slice A0_1 l0_1.length c0_1) l0_1) ∧ Aside0 (wc.heap[gb220]? = some (.cells #[.int .i64 a0_0, (.slice A0_1 l0_1.length c0_1)] 27 (0, 0))) ∧ Aside0 (wc.heap[gb221]? = some (.cells #[.int .i64 0, (.slice none 0 0)] 27 (0, 0))) ∧ Aside0 (Below w.heap.size w wc))
 case first =>
  have H := HC3.out
  clear HC3
  replace H := Option.bind_eq_some_iff.mp H
  obtain ⟨t222, A60, H⟩ := H
  replace H : (if t222 = true then (spec_PowerMatrix.j0 k a1 (decide (a1 < 0)) a0_0 l0_1) else (spec_PowerMatrix.j0 k a1 true a0_0 l0_1)) = some (r1, r2, r3) := H
  have A6 := Aside0.mk A60
  clear A60
  by_cases c7 : t222 = true
  ·subst c7
   have H1 : (spec_PowerMatrix.j0 k a1 (decide (a1 < 0)) a0_0 l0_1) = some (r1, r2, r3) := by rw [if_pos rfl] at H; exact H
   clear H
   have H := H1
   clear H1
   have H' := Aside0.mk H
   clear H
   have hnb8 := NB220_221.out
   have hnc8 := NB221_220.out
   have hcz9_0 := cz20 BK220.out
   have hcz9_1 := cz21 BK220.out
   have hfz9_0 := blk_frozen BK220.out 0
   have hfz9_1 := blk_frozen BK220.out 1
   go_wp2_with (first | ((with_reducible refine gate_callee (f := 15) rfl ?_); refine goesL_ (some 8) rfl rfl Try.func15 (by kernel_rfl) rfl #[.agg #[.int .i64 a0_0, .slice A0_1 l0_1.length c0_1]] rfl (by (try simp only [List.map_toArray, List.map_cons, List.map_nil]); first | done | rfl | (simp only [List.length_drop, List.length_take]; rfl)) ?_; (with_reducible refine (spec_MatrixValid.calls k a0_0 _ _ l0_1 true _ ?side1 ?side2 A6.out).mono ?_); (case side1 => repeat (first | exact (Kd.V_reads' HO0_1.out).2.2 | (with_reducible refine Kd.C_alloc ?_ _) | (with_reducible refine Kd.C_drewN ?_ _) | (with_reducible refine Kd.C_drew ?_))); (case side2 => exact (Kd.V_reads' HO0_1.out).2.1); rintro e w10 ⟨rfl, hb⟩; refine ⟨_, rfl, ?_⟩; have n0_ := Aside0.mk (Kd.V_below (by (with_reducible repeat (first | apply Kd.V_alloc | apply Kd.V_drewN | apply Kd.V_drew)); exact HO0_1.out) hb); have n1_ := bk BK220 hb; have n2_ := bk BK221 hb; have n3_ := Aside0.mk (below_step (by repeat (first | (with_reducible first | exact HB.out | apply ba | apply bn | apply bd | refine bs ?_ (by assumption)) | exact HB.out)) hb); clear HO0_1 BK220 BK221 HB; have HO0_1 := n0_; have BK220 := n1_; have BK221 := n2_; have HB := n3_; clear n0_ n1_ n2_ n3_; (try clear hb); (try clear hb2); (try clear hk); (try clear hi)))
   go_meet
   case rel => exact ⟨_, (decide (a1 < 0)), (by first | rfl | (simp; done) | (simp [*]; done)), H', ⟨by first | omega | exact Nat.le_refl _⟩, ⟨by (with_reducible repeat (first | apply Kd.V_alloc | apply Kd.V_drewN | apply Kd.V_drew)); exact Kd.V_mono HO0_1.out (fun _ hk => ⟨hk.1.1, ⟨hk.1.2, hk.2⟩⟩)⟩, ⟨kz BK220.out⟩, ⟨kz BK221.out⟩, ⟨by repeat (first | (with_reducible first | exact HB.out | apply ba | apply bn | apply bd | refine bs ?_ (by assumption)) | exact HB.out)⟩⟩
  ·replace c7 := Bool.eq_false_iff.mpr c7
   subst c7
   have H1 : (spec_PowerMatrix.j0 k a1 true a0_0 l0_1) = some (r1, r2, r3) := by rw [if_neg (show ¬ (false = true) by decide)] at H; exact H
   clear H
   have H := H1
   clear H1
   have H' := Aside0.mk H
   clear H
   have hnb11 := NB220_221.out
   have hnc11 := NB221_220.out
   have hcz12_0 := cz20 BK220.out
   have hcz12_1 := cz21 BK220.out
   have hfz12_0 := blk_frozen BK220.out 0
   have hfz12_1 := blk_frozen BK220.out 1
   go_wp2_with (first | ((with_reducible refine gate_callee (f := 15) rfl ?_); refine goesL_ (some 8) rfl rfl Try.func15 (by kernel_rfl) rfl #[.agg #[.int .i64 a0_0, .slice A0_1 l0_1.length c0_1]] rfl (by (try simp only [List.map_toArray, List.map_cons, List.map_nil]); first | done | rfl | (simp only [List.length_drop, List.length_take]; rfl)) ?_; (with_reducible refine (spec_MatrixValid.calls k a0_0 _ _ l0_1 false _ ?side1 ?side2 A6.out).mono ?_); (case side1 => repeat (first | exact (Kd.V_reads' HO0_1.out).2.2 | (with_reducible refine Kd.C_alloc ?_ _) | (with_reducible refine Kd.C_drewN ?_ _) | (with_reducible refine Kd.C_drew ?_))); (case side2 => exact (Kd.V_reads' HO0_1.out).2.1); rintro e w13 ⟨rfl, hb⟩; refine ⟨_, rfl, ?_⟩; have n0_ := Aside0.mk (Kd.V_below (by (with_reducible repeat (first | apply Kd.V_alloc | apply Kd.V_drewN | apply Kd.V_drew)); exact HO0_1.out) hb); have n1_ := bk BK220 hb; have n2_ := bk BK221 hb; have n3_ := Aside0.mk (below_step (by repeat (first | (with_reducible first | exact HB.out | apply ba | apply bn | apply bd | refine bs ?_ (by assumption)) | exact HB.out)) hb); clear HO0_1 BK220 BK221 HB; have HO0_1 := n0_; have BK220 := n1_; have BK221 := n2_; have HB := n3_; clear n0_ n1_ n2_ n3_; (try clear hb); (try clear hb2); (try clear hk); (try clear hi)))
   go_meet
   case rel => exact ⟨_, (true), (by first | rfl | (simp; done) | (simp [*]; done)), H', ⟨by first | omega | exact Nat.le_refl _⟩, ⟨by (with_reducible repeat (first | apply Kd.V_alloc | apply Kd.V_drewN | apply Kd.V_drew)); exact Kd.V_mono HO0_1.out (fun _ hk => ⟨hk.1.1, ⟨hk.1.2, hk.2⟩⟩)⟩, ⟨kz BK220.out⟩, ⟨kz BK221.out⟩, ⟨by repeat (first | (with_reducible first | exact HB.out | apply ba | apply bn | apply bd | refine bs ?_ (by assumption)) | exact HB.out)⟩⟩
 case rest =>
  clear HC3
  try clear c1
  try clear p2
  try clear c3
  try clear c7
  try clear c8
  try clear c11
  try clear hcz12_0
  try clear hcz12_1
  try clear hcz9_0
  try clear hcz9_1
  try clear hfz12_0
  try clear hfz12_1
  try clear hfz9_0
  try clear hfz9_1
  obtain ⟨kq, x13_2, rfl, HA, HJ2, HO_221001, BK220, BK221, HB⟩ := hcut
  cases kq with
  | zero => exact absurd HA.out (by simp [spec_PowerMatrix.j0])
  | succ kj2 =>
   have H := HA.out
   clear HA
   simp only [spec_PowerMatrix.j0] at H
   by_cases c14 : x13_2 = true
   ·subst c14
    have H1 : (some (0, ([] : List Int), false)) = some (r1, r2, r3) := by rw [if_pos rfl] at H; exact H
    clear H
    have H := H1
    clear H1
    simp only [Option.some.injEq, Prod.mk.injEq] at H
    obtain ⟨rfl, rfl, rfl⟩ := H
    have hnb15 := NB221_220.out
    have hnc15 := NB220_221.out
    have hcz16_0 := cz20 BK221.out
    have hcz16_1 := cz21 BK221.out
    have hfz16_0 := blk_frozen BK221.out 0
    have hfz16_1 := blk_frozen BK221.out 1
    go_wp2
    refine bodyPost_ret (results_ct rfl _ _ gb221 27 #[.int .i64 0, .slice none 0 0] (0, 0) _ rfl (by (with_reducible repeat (first | refine kn ?_ _ | refine kd ?_ | refine ka ?_ _)); refine blk_put (cs := #[.int .i64 0, .slice none 0 0]) ?_ 1 _ rfl; (with_reducible repeat (first | refine kn ?_ _ | refine kd ?_ | refine ka ?_ _)); refine blk_put (cs := #[.int .i64 0, .slice none 0 0]) ?_ 0 _ rfl; (with_reducible repeat (first | refine kn ?_ _ | refine kd ?_ | refine ka ?_ _)); exact BK221.out) Try.underlying27 rfl (by kernel_rfl)) rfl ?_
    exact ⟨_, by first | rfl | (simp [errW_none, errW_some] <;> rfl) | (simp [*, errW_none, errW_some] <;> rfl), by first | exact Kd.R_nil _ _ _ _ _ | exact Kd.N_nil _ _ _ _ _ | exact Kd.V_nil _ _ _ _ _ | exact Kd.Q_nil _ _ _ _ _ | exact Kd.S_nil _ _ _ _ _, by repeat (first | (with_reducible first | exact HB.out | apply ba | apply bn | apply bd | refine bs ?_ (by assumption)) | exact HB.out)⟩
   ·replace c14 := Bool.eq_false_iff.mpr c14
    subst c14
    have H1 : ((spec_l2Unit.f kj2 a0_0).bind fun bt223 => (spec_PowerMatrix.l0 kj2 a1 a0_0 l0_1 bt223.1 bt223.2)) = some (r1, r2, r3) := by rw [if_neg (show ¬ (false = true) by decide)] at H; exact H
    clear H
    have H := H1
    clear H1
    replace H := Option.bind_eq_some_iff.mp H
    obtain ⟨⟨t223, t224⟩, A170, H⟩ := H
    replace H : (spec_PowerMatrix.l0 kj2 a1 a0_0 l0_1 t223 t224) = some (r1, r2, r3) := H
    have A17 := Aside0.mk A170
    clear A170
    have H' := Aside0.mk H
    clear H
    have hnb18 := NB220_221.out
    have hnc18 := NB221_220.out
    have hcz19_0 := cz20 BK220.out
    have hcz19_1 := cz21 BK220.out
    have hfz19_0 := blk_frozen BK220.out 0
    have hfz19_1 := blk_frozen BK220.out 1
    go_wp2_with (first | ((with_reducible refine gate_callee (f := 46) rfl ?_); refine goesL_ (some 17) rfl rfl Try.func46 (by kernel_rfl) rfl #[.int .i64 a0_0] rfl (by (try simp only [List.map_toArray, List.map_cons, List.map_nil]); first | done | rfl | (simp only [List.length_drop, List.length_take]; rfl)) ?_; (with_reducible refine (spec_l2Unit.calls kj2 a0_0 t223 t224 _ A17.out).mono ?_); rintro e w20 ⟨v225, rfl, ho0, hb⟩; refine ⟨_, rfl, ?_⟩; have n0_ := Aside0.mk (Kd.V_elder' (by (with_reducible repeat (first | apply Kd.V_alloc | apply Kd.V_drewN | apply Kd.V_drew)); exact HO_221001.out) (Kd.R_base ho0) hb); have n1_ := Aside0.mk (Kd.R_lower (Kd.R_newM (M := fun k_ => (w.heap.size ≤ k_)) ho0 (below_size (by repeat (first | (with_reducible first | exact HB.out | apply ba | apply bn | apply bd | refine bs ?_ (by assumption)) | exact HB.out))) (fun k_ h_ => h_)) (below_size (by repeat (first | (with_reducible first | exact HB.out | apply ba | apply bn | apply bd | refine bs ?_ (by assumption)) | exact HB.out)))); have n2_ := bk BK220 hb; have n3_ := bk BK221 hb; have n4_ := Aside0.mk (below_step (by repeat (first | (with_reducible first | exact HB.out | apply ba | apply bn | apply bd | refine bs ?_ (by assumption)) | exact HB.out)) hb); clear HO_221001 BK220 BK221 HB; have HO_221001 := n0_; have HO226 := n1_; have BK220 := n2_; have BK221 := n3_; have HB := n4_; clear n0_ n1_ n2_ n3_ n4_; (try clear hb); (try clear hb2); (try clear hk); (try clear hi); (try clear ho0)) | ((with_reducible refine gate_dst (N := 6) rfl ?_); refine box_event ?hg (N := 6) ?hd (cs := #[.int .i64 0, .slice none 0 0]) (t := 27) ?hr ?_; (case hd => rfl); (case hg => rfl); (case hr => first | (go_simp; done) | (go_simp; rfl)); intro gb227 hg w21 hbox hb; have n0_ := Aside0.mk (Kd.V_below (Kd.V_elderB (by (with_reducible repeat (first | apply Kd.V_alloc | apply Kd.V_drewN | apply Kd.V_drew)); exact HO_221001.out) gb227 (Nat.le_of_eq hg.symm)) hb); have n1_ := Aside0.mk (Kd.R_below (rz HO226.out) hb); have n2_ := bk BK220 hb; have n3_ := bk BK221 hb; have n4_ := Aside0.mk (below_step (by repeat (first | (with_reducible first | exact HB.out | apply ba | apply bn | apply bd | refine bs ?_ (by assumption)) | exact HB.out)) hb); have n5_ := Aside0.mk (hbox); have n6_ := Aside0.mk ((by rw [hg]; exact (below_size (by repeat (first | (with_reducible first | exact HB.out | apply ba | apply bn | apply bd | refine bs ?_ (by assumption)) | exact HB.out))) : w.heap.size ≤ gb227)); have n7_ := Aside0.mk ((by rw [hg]; exact (below_size (by repeat (first | (with_reducible first | exact HB.out | apply ba | apply bn | apply bd | refine bs ?_ (by assumption)) | exact HB.out))) : w.heap.size ≤ gb227)); have n8_ := Aside0.mk ((by rw [hg]; exact Nat.ne_of_lt (blk_lt (kz BK220.out)) : gb220 ≠ gb227)); have n9_ := Aside0.mk ((by rw [hg]; exact Nat.ne_of_gt (blk_lt (kz BK220.out)) : gb227 ≠ gb220)); have n10_ := Aside0.mk ((by rw [hg]; exact Nat.ne_of_lt (blk_lt (kz BK221.out)) : gb221 ≠ gb227)); have n11_ := Aside0.mk ((by rw [hg]; exact Nat.ne_of_gt (blk_lt (kz BK221.out)) : gb227 ≠ gb221)); clear HO_221001 HO226 BK220 BK221 HB; have HO_221001 := n0_; have HO226 := n1_; have BK220 := n2_; have BK221 := n3_; have HB := n4_; have BK227 := n5_; have GW227 := n6_; have GE227 := n7_; have NB220_227 := n8_; have NB227_220 := n9_; have NB221_227 := n10_; have NB227_221 := n11_; clear n0_ n1_ n2_ n3_ n4_ n5_ n6_ n7_ n8_ n9_ n10_ n11_ hb hbox hg; have hnb22 := NB227_220.out; have hnc22 := NB220_227.out; have hnb23 := NB227_221.out; have hnc23 := NB221_227.out; have hcz24_0 := cz20 BK227.out; have hcz24_1 := cz21 BK227.out; have hfz24_0 := blk_frozen BK227.out 0; have hfz24_1 := blk_frozen BK227.out 1; obtain ⟨Ao25, co25, eo25⟩ := Kd.R_slice HO226.out; subst eo25))
    go_loopg [1] kj2 (fun kq v1 w' => ∃ (x1_2 : Int) (x221000_2 : Int) (x221001_2 : List Int) (x228000_2 : Int) (x228001_2 : List Int) (u221001 : Value) (u228001 : Value), v1 = .int .i64 x1_2 ∧ Aside0 (spec_PowerMatrix.l0 kq x1_2 x221000_2 x221001_2 x228000_2 x228001_2 = some (r1, r2, r3)) ∧ Aside0 (kq ≤ kj2) ∧ Aside0 (Kd.V (Kd.int .i64) 3 w' w.heap.size (fun k_ => (P0_1_ k_ ∨ w.heap.size ≤ k_) ∧ some k_ ≠ (u228001 : Value).ownBlock ∧ k_ ≠ gb220 ∧ k_ ≠ gb221 ∧ k_ ≠ gb227) u221001 x221001_2) ∧ Aside0 (Kd.R (Kd.int .i64) 3 w' w.heap.size (fun k_ => (w.heap.size ≤ k_)) u228001 x228001_2) ∧ Aside0 (w'.heap[gb220]? = some (.cells #[.int .i64 x221000_2, u221001] 27 (0, 0))) ∧ Aside0 (w'.heap[gb221]? = some (.cells #[.int .i64 0, (.slice none 0 0)] 27 (0, 0))) ∧ Aside0 (w'.heap[gb227]? = some (.cells #[.int .i64 x228000_2, u228001] 27 (0, 0))) ∧ Aside0 (Below w.heap.size w w'))
    case atStart => exact ⟨(a1), (a0_0), (l0_1), (t223), (t224), (.slice A0_1 l0_1.length c0_1), (.slice Ao25 t224.length co25), (by first | rfl | (simp; done) | (simp [*]; done)), H', ⟨Nat.le_refl _⟩, ⟨by (with_reducible repeat (first | apply Kd.V_alloc | apply Kd.V_drewN | apply Kd.V_drew)); exact Kd.V_mono (Kd.V_far (p := ⟨gb227, 1, none⟩) (Kd.V_far (p := ⟨gb227, 0, none⟩) (Kd.V_mono HO_221001.out (fun k_ hk => (⟨hk, hk.2⟩ : _ ∧ k_ ≠ gb227))) (fun _ hk => hk.2) (.int .i64 t223)) (fun _ hk => hk.2) (.slice Ao25 t224.length co25)) (fun _ hk => ⟨hk.1.1.1.1, ⟨hk.1.1.2, ⟨hk.1.1.1.2.1, ⟨hk.1.1.1.2.2, hk.1.2⟩⟩⟩⟩)⟩, ⟨by (with_reducible repeat (first | apply ra | apply rn | apply rw_)); exact Kd.R_mono (Kd.R_far (p := ⟨gb227, 1, none⟩) (Kd.R_far (p := ⟨gb227, 0, none⟩) (Kd.R_types HO226.out BK227.out (by decide)) (fun _ hk => hk.2) (.int .i64 t223)) (fun _ hk => hk.2) (.slice Ao25 t224.length co25)) (fun _ hk => hk.1.1)⟩, ⟨by (with_reducible repeat (first | refine kn ?_ _ | refine kd ?_ | refine ka ?_ _)); refine blk_far ?_ NB220_227.out _; (with_reducible repeat (first | refine kn ?_ _ | refine kd ?_ | refine ka ?_ _)); refine blk_far ?_ NB220_227.out _; (with_reducible repeat (first | refine kn ?_ _ | refine kd ?_ | refine ka ?_ _)); exact BK220.out⟩, ⟨by (with_reducible repeat (first | refine kn ?_ _ | refine kd ?_ | refine ka ?_ _)); refine blk_far ?_ NB221_227.out _; (with_reducible repeat (first | refine kn ?_ _ | refine kd ?_ | refine ka ?_ _)); refine blk_far ?_ NB221_227.out _; (with_reducible repeat (first | refine kn ?_ _ | refine kd ?_ | refine ka ?_ _)); exact BK221.out⟩, ⟨by (with_reducible repeat (first | refine kn ?_ _ | refine kd ?_ | refine ka ?_ _)); refine blk_put (cs := #[.int .i64 t223, .slice none 0 0]) ?_ 1 _ rfl; (with_reducible repeat (first | refine kn ?_ _ | refine kd ?_ | refine ka ?_ _)); refine blk_put (cs := #[.int .i64 0, .slice none 0 0]) ?_ 0 _ rfl; (with_reducible repeat (first | refine kn ?_ _ | refine kd ?_ | refine ka ?_ _)); exact BK227.out⟩, ⟨by repeat (first | (with_reducible first | exact HB.out | apply ba | apply bn | apply bd | refine bs ?_ (by assumption)) | exact HB.out)⟩⟩
    case round =>
     clear H'
     try clear c1
     try clear c2
     try clear p2
     try clear c3
     try clear c4
     try clear c7
     try clear c8
     try clear c11
     try clear c14
     try clear c15
     try clear c18
     try clear c22
     try clear c23
     try clear hcz12_0
     try clear hcz12_1
     try clear hcz16_0
     try clear hcz16_1
     try clear hcz19_0
     try clear hcz19_1
     try clear hcz24_0
     try clear hcz24_1
     try clear hcz9_0
     try clear hcz9_1
     try clear hfz12_0
     try clear hfz12_1
     try clear hfz16_0
     try clear hfz16_1
     try clear hfz19_0
     try clear hfz19_1
     try clear hfz24_0
     try clear hfz24_1
     try clear hfz9_0
     try clear hfz9_1
     try clear p2
     obtain ⟨x1_2, x221000_2, x221001_2, x228000_2, x228001_2, u221001, u228001, rfl, HA, HK2, HO_221001, HO_228001, BK220, BK221, BK227, HB⟩ := hrel
     cases gk with
     | zero => exact absurd HA.out (by simp [spec_PowerMatrix.l0])
     | succ k2 =>
      have H := HA.out
      clear HA
      simp only [spec_PowerMatrix.l0] at H
      by_cases c26 : x1_2 > 0
      ·rw [if_pos c26] at H
       have c26b0 : decide (0 < x1_2) = true := decide_eq_true c26
       clear c26
       by_cases c27 : (Int.tmod x1_2 2) = 1
       ·rw [if_pos c27] at H
        have c27b0 : ((Int.tmod x1_2 2) == 1) = true := beq_iff_eq.mpr c27
        have c27b1 : ((Int.tmod x1_2 2) != 1) = false := bne_eq_false_iff_eq.mpr c27
        clear c27
        replace H := Option.bind_eq_some_iff.mp H
        obtain ⟨⟨t228, t229⟩, A280, H⟩ := H
        replace H : ((spec_l2Mul.f k2 x221000_2 x221001_2 x221000_2 x221001_2).bind fun bt232 => (spec_PowerMatrix.l0 k2 (wrap64 (Int.tdiv x1_2 2)) bt232.1 bt232.2 t228 t229)) = some (r1, r2, r3) := H
        have A28 := Aside0.mk A280
        clear A280
        replace H := Option.bind_eq_some_iff.mp H
        obtain ⟨⟨t232, t233⟩, A290, H⟩ := H
        replace H : (spec_PowerMatrix.l0 k2 (wrap64 (Int.tdiv x1_2 2)) t232 t233 t228 t229) = some (r1, r2, r3) := H
        have A29 := Aside0.mk A290
        clear A290
        have H' := Aside0.mk H
        clear H
        have hnb30 := NB227_220.out
        have hnc30 := NB220_227.out
        have hnb31 := NB227_221.out
        have hnc31 := NB221_227.out
        have hcz32_0 := cz20 BK227.out
        have hcz32_1 := cz21 BK227.out
        have hfz32_0 := blk_frozen BK227.out 0
        have hfz32_1 := blk_frozen BK227.out 1
        have hnb33 := NB220_221.out
        have hnc33 := NB221_220.out
        have hcz34_0 := cz20 BK220.out
        have hcz34_1 := cz21 BK220.out
        have hfz34_0 := blk_frozen BK220.out 0
        have hfz34_1 := blk_frozen BK220.out 1
        obtain ⟨Ao35, co35, eo35⟩ := Kd.R_slice HO_228001.out
        subst eo35
        obtain ⟨Ao36, co36, eo36⟩ := Kd.V_slice HO_221001.out
        subst eo36
        go_wp2_with (first | ((with_reducible refine gate_callee (f := 57) rfl ?_); refine goesL_ (some 27) rfl rfl Try.func57 (by kernel_rfl) rfl #[.agg #[.int .i64 x228000_2, .slice Ao35 x228001_2.length co35], .agg #[.int .i64 x221000_2, .slice Ao36 x221001_2.length co36]] rfl (by (try simp only [List.map_toArray, List.map_cons, List.map_nil]); first | done | rfl | (simp only [List.length_drop, List.length_take]; rfl)) ?_; (with_reducible refine (spec_l2Mul.calls k2 x228000_2 _ _ x228001_2 x221000_2 _ _ x221001_2 t228 t229 _ ?side1 ?side2 ?side3 ?side4 A28.out).mono ?_); (case side1 => repeat (first | exact (Kd.R_reads' HO_228001.out).2.2 | (with_reducible refine Kd.C_alloc ?_ _) | (with_reducible refine Kd.C_drewN ?_ _) | (with_reducible refine Kd.C_drew ?_))); (case side2 => exact (Kd.R_reads' HO_228001.out).2.1); (case side3 => repeat (first | exact (Kd.V_reads' HO_221001.out).2.2 | (with_reducible refine Kd.C_alloc ?_ _) | (with_reducible refine Kd.C_drewN ?_ _) | (with_reducible refine Kd.C_drew ?_))); (case side4 => exact (Kd.V_reads' HO_221001.out).2.1); rintro e w37 ⟨v230, rfl, ho0, hb⟩; refine ⟨_, rfl, ?_⟩; have n0_ := Aside0.mk (Kd.V_elder' (by (with_reducible repeat (first | apply Kd.V_alloc | apply Kd.V_drewN | apply Kd.V_drew)); exact HO_221001.out) (Kd.R_base ho0) hb); have n1_ := el HO_228001 (Kd.R_base ho0) hb; have n2_ := Aside0.mk (Kd.R_lower (Kd.R_new' (Kd.R_newM (M := fun k_ => (w.heap.size ≤ k_)) ho0 (below_size (by repeat (first | (with_reducible first | exact HB.out | apply ba | apply bn | apply bd | refine bs ?_ (by assumption)) | exact HB.out))) (fun k_ h_ => h_)) (Kd.R_lt (rz HO_228001.out))) (below_size (by repeat (first | (with_reducible first | exact HB.out | apply ba | apply bn | apply bd | refine bs ?_ (by assumption)) | exact HB.out)))); have n3_ := bk BK220 hb; have n4_ := bk BK221 hb; have n5_ := bk BK227 hb; have n6_ := Aside0.mk (below_step (by repeat (first | (with_reducible first | exact HB.out | apply ba | apply bn | apply bd | refine bs ?_ (by assumption)) | exact HB.out)) hb); clear HO_221001 HO_228001 BK220 BK221 BK227 HB; have HO_221001 := n0_; have HO_228001 := n1_; have HO231 := n2_; have BK220 := n3_; have BK221 := n4_; have BK227 := n5_; have HB := n6_; clear n0_ n1_ n2_ n3_ n4_ n5_ n6_; (try clear hb); (try clear hb2); (try clear hk); (try clear hi); (try clear ho0); have hcz38_0 := cz20 BK227.out; have hcz38_1 := cz21 BK227.out; have hfz38_0 := blk_frozen BK227.out 0; have hfz38_1 := blk_frozen BK227.out 1; obtain ⟨Ao39, co39, eo39⟩ := Kd.R_slice HO231.out; subst eo39; have hcz40_0 := cz20 BK220.out; have hcz40_1 := cz21 BK220.out; have hfz40_0 := blk_frozen BK220.out 0; have hfz40_1 := blk_frozen BK220.out 1) | ((with_reducible refine gate_callee (f := 57) rfl ?_); refine goesL_ (some 30) rfl rfl Try.func57 (by kernel_rfl) rfl #[.agg #[.int .i64 x221000_2, .slice Ao36 x221001_2.length co36], .agg #[.int .i64 x221000_2, .slice Ao36 x221001_2.length co36]] rfl (by (try simp only [List.map_toArray, List.map_cons, List.map_nil]); first | done | rfl | (simp only [List.length_drop, List.length_take]; rfl)) ?_; (with_reducible refine (spec_l2Mul.calls k2 x221000_2 _ _ x221001_2 x221000_2 _ _ x221001_2 t232 t233 _ ?side1 ?side2 ?side3 ?side4 A29.out).mono ?_); (case side1 => refine (Kd.V_reads' (e := 3) (base := w.heap.size) (ok := fun k_ => (((P0_1_ k_ ∨ w.heap.size ≤ k_) ∧ (some k_ ≠ (.slice Ao35 x228001_2.length co35 : Value).ownBlock ∧ (k_ ≠ gb220 ∧ (k_ ≠ gb221 ∧ k_ ≠ gb227)))) ∧ some k_ ≠ (.slice Ao39 t229.length co39 : Value).ownBlock)) (n := x221001_2.length) (c := co36) ?_).2.2; exact (by (with_reducible repeat (first | apply Kd.V_alloc | apply Kd.V_drewN | apply Kd.V_drew)); exact (Kd.V_mono (Kd.V_far (p := ⟨gb227, 1, none⟩) (Kd.V_far (p := ⟨gb227, 0, none⟩) (Kd.V_mono HO_221001.out (fun k_ hk => (⟨hk, hk.1.2.2.2.2⟩ : _ ∧ k_ ≠ gb227))) (fun _ hk => hk.2) (.int .i64 t228)) (fun _ hk => hk.2) (.slice Ao39 t229.length co39)) (fun _ h_ => h_.1)))); (case side2 => exact (Kd.V_reads' HO_221001.out).2.1); (case side3 => refine (Kd.V_reads' (e := 3) (base := w.heap.size) (ok := fun k_ => (((P0_1_ k_ ∨ w.heap.size ≤ k_) ∧ (some k_ ≠ (.slice Ao35 x228001_2.length co35 : Value).ownBlock ∧ (k_ ≠ gb220 ∧ (k_ ≠ gb221 ∧ k_ ≠ gb227)))) ∧ some k_ ≠ (.slice Ao39 t229.length co39 : Value).ownBlock)) (n := x221001_2.length) (c := co36) ?_).2.2; exact (by (with_reducible repeat (first | apply Kd.V_alloc | apply Kd.V_drewN | apply Kd.V_drew)); exact (Kd.V_mono (Kd.V_far (p := ⟨gb227, 1, none⟩) (Kd.V_far (p := ⟨gb227, 0, none⟩) (Kd.V_mono HO_221001.out (fun k_ hk => (⟨hk, hk.1.2.2.2.2⟩ : _ ∧ k_ ≠ gb227))) (fun _ hk => hk.2) (.int .i64 t228)) (fun _ hk => hk.2) (.slice Ao39 t229.length co39)) (fun _ h_ => h_.1)))); (case side4 => exact (Kd.V_reads' HO_221001.out).2.1); rintro e w41 ⟨v234, rfl, ho0, hb⟩; refine ⟨_, rfl, ?_⟩; have n0_ := Aside0.mk (Kd.V_elder' (by (with_reducible repeat (first | apply Kd.V_alloc | apply Kd.V_drewN | apply Kd.V_drew)); exact (Kd.V_mono (Kd.V_far (p := ⟨gb227, 1, none⟩) (Kd.V_far (p := ⟨gb227, 0, none⟩) (Kd.V_mono HO_221001.out (fun k_ hk => (⟨hk, hk.1.2.2.2.2⟩ : _ ∧ k_ ≠ gb227))) (fun _ hk => hk.2) (.int .i64 t228)) (fun _ hk => hk.2) (.slice Ao39 t229.length co39)) (fun _ h_ => h_.1))) (Kd.R_base ho0) hb); have n1_ := Aside0.mk (Kd.R_elder' (by (with_reducible repeat (first | apply ra | apply rn | apply rw_)); exact (Kd.R_mono (Kd.R_far (p := ⟨gb227, 1, none⟩) (Kd.R_far (p := ⟨gb227, 0, none⟩) (Kd.R_types HO_228001.out BK227.out (by decide)) (fun _ hk => hk.2) (.int .i64 t228)) (fun _ hk => hk.2) (.slice Ao39 t229.length co39)) (fun _ h_ => h_.1))) (Kd.R_base ho0) hb); have n2_ := Aside0.mk (Kd.R_elder' (by (with_reducible repeat (first | apply ra | apply rn | apply rw_)); exact (Kd.R_mono (Kd.R_far (p := ⟨gb227, 1, none⟩) (Kd.R_far (p := ⟨gb227, 0, none⟩) (Kd.R_types HO231.out BK227.out (by decide)) (fun _ hk => hk.2) (.int .i64 t228)) (fun _ hk => hk.2) (.slice Ao39 t229.length co39)) (fun _ h_ => h_.1))) (Kd.R_base ho0) hb); have n3_ := Aside0.mk (Kd.R_lower (Kd.R_new' (Kd.R_new' (Kd.R_newM (M := fun k_ => (w.heap.size ≤ k_)) ho0 (below_size (by repeat (first | (with_reducible first | exact HB.out | apply ba | apply bn | apply bd | refine bs ?_ (by assumption)) | exact HB.out))) (fun k_ h_ => h_)) (Kd.R_lt (by (with_reducible repeat (first | apply ra | apply rn | apply rw_)); exact (Kd.R_mono (Kd.R_far (p := ⟨gb227, 1, none⟩) (Kd.R_far (p := ⟨gb227, 0, none⟩) (Kd.R_types HO_228001.out BK227.out (by decide)) (fun _ hk => hk.2) (.int .i64 t228)) (fun _ hk => hk.2) (.slice Ao39 t229.length co39)) (fun _ h_ => h_.1))))) (Kd.R_lt (by (with_reducible repeat (first | apply ra | apply rn | apply rw_)); exact (Kd.R_mono (Kd.R_far (p := ⟨gb227, 1, none⟩) (Kd.R_far (p := ⟨gb227, 0, none⟩) (Kd.R_types HO231.out BK227.out (by decide)) (fun _ hk => hk.2) (.int .i64 t228)) (fun _ hk => hk.2) (.slice Ao39 t229.length co39)) (fun _ h_ => h_.1))))) (below_size (by repeat (first | (with_reducible first | exact HB.out | apply ba | apply bn | apply bd | refine bs ?_ (by assumption)) | exact HB.out)))); have n4_ := Aside0.mk (blk_below (g := gb220) (o := .cells #[.int .i64 x221000_2, .slice Ao36 x221001_2.length co36] 27 (0, 0)) (by (with_reducible repeat (first | refine kn ?_ _ | refine kd ?_ | refine ka ?_ _)); refine blk_far ?_ NB220_227.out _; (with_reducible repeat (first | refine kn ?_ _ | refine kd ?_ | refine ka ?_ _)); refine blk_far ?_ NB220_227.out _; (with_reducible repeat (first | refine kn ?_ _ | refine kd ?_ | refine ka ?_ _)); exact BK220.out) hb); have n5_ := Aside0.mk (blk_below (g := gb221) (o := .cells #[.int .i64 0, .slice none 0 0] 27 (0, 0)) (by (with_reducible repeat (first | refine kn ?_ _ | refine kd ?_ | refine ka ?_ _)); refine blk_far ?_ NB221_227.out _; (with_reducible repeat (first | refine kn ?_ _ | refine kd ?_ | refine ka ?_ _)); refine blk_far ?_ NB221_227.out _; (with_reducible repeat (first | refine kn ?_ _ | refine kd ?_ | refine ka ?_ _)); exact BK221.out) hb); have n6_ := Aside0.mk (blk_below (g := gb227) (o := .cells #[.int .i64 t228, .slice Ao39 t229.length co39] 27 (0, 0)) (by (with_reducible repeat (first | refine kn ?_ _ | refine kd ?_ | refine ka ?_ _)); refine blk_put (cs := #[.int .i64 t228, .slice Ao35 x228001_2.length co35]) ?_ 1 _ rfl; (with_reducible repeat (first | refine kn ?_ _ | refine kd ?_ | refine ka ?_ _)); refine blk_put (cs := #[.int .i64 x228000_2, .slice Ao35 x228001_2.length co35]) ?_ 0 _ rfl; (with_reducible repeat (first | refine kn ?_ _ | refine kd ?_ | refine ka ?_ _)); exact BK227.out) hb); have n7_ := Aside0.mk (below_step (by repeat (first | (with_reducible first | exact HB.out | apply ba | apply bn | apply bd | refine bs ?_ (by assumption)) | exact HB.out)) hb); clear HO_221001 HO_228001 HO231 BK220 BK221 BK227 HB; have HO_221001 := n0_; have HO_228001 := n1_; have HO231 := n2_; have HO235 := n3_; have BK220 := n4_; have BK221 := n5_; have BK227 := n6_; have HB := n7_; clear n0_ n1_ n2_ n3_ n4_ n5_ n6_ n7_; (try clear hb); (try clear hb2); (try clear hk); (try clear hi); (try clear ho0); have hcz42_0 := cz20 BK220.out; have hcz42_1 := cz21 BK220.out; have hfz42_0 := blk_frozen BK220.out 0; have hfz42_1 := blk_frozen BK220.out 1; obtain ⟨Ao43, co43, eo43⟩ := Kd.R_slice HO235.out; subst eo43))
        go_roundg k2
        case measure => have := HJ2.out; have := HK2.out; omega
        case rel => exact ⟨(wrap64 (Int.tdiv x1_2 2)), (t232), (t233), (t228), (t229), (.slice Ao43 t233.length co43), (.slice Ao39 t229.length co39), (by first | rfl | (simp; done) | (simp [*]; done)), H', ⟨by have := HJ2.out; have := HK2.out; omega⟩, ⟨Kd.R_V (by (with_reducible repeat (first | apply ra | apply rn | apply rw_)); exact Kd.R_mono (Kd.R_far (p := ⟨gb220, 1, none⟩) (Kd.R_far (p := ⟨gb220, 0, none⟩) (Kd.R_types (Kd.R_types (Kd.R_types (Kd.R_types HO235.out BK220.out (by decide)) BK221.out (by decide)) BK227.out (by decide)) BK220.out (by decide)) (fun _ hk => hk.2) (.int .i64 t232)) (fun _ hk => hk.2) (.slice Ao43 t233.length co43)) (fun _ hk => ⟨.inr (hk.1.1.1.1.1.1.1), ⟨hk.1.1.1.1.2, ⟨hk.1.1.1.2, ⟨hk.1.1.2, hk.1.2⟩⟩⟩⟩))⟩, ⟨by (with_reducible repeat (first | apply ra | apply rn | apply rw_)); exact Kd.R_mono (Kd.R_far (p := ⟨gb220, 1, none⟩) (Kd.R_far (p := ⟨gb220, 0, none⟩) (Kd.R_types HO231.out BK220.out (by decide)) (fun _ hk => hk.2) (.int .i64 t232)) (fun _ hk => hk.2) (.slice Ao43 t233.length co43)) (fun _ hk => hk.1.1.1.1)⟩, ⟨by (with_reducible repeat (first | refine kn ?_ _ | refine kd ?_ | refine ka ?_ _)); refine blk_put (cs := #[.int .i64 t232, .slice Ao36 x221001_2.length co36]) ?_ 1 _ rfl; (with_reducible repeat (first | refine kn ?_ _ | refine kd ?_ | refine ka ?_ _)); refine blk_put (cs := #[.int .i64 x221000_2, .slice Ao36 x221001_2.length co36]) ?_ 0 _ rfl; (with_reducible repeat (first | refine kn ?_ _ | refine kd ?_ | refine ka ?_ _)); exact BK220.out⟩, ⟨by (with_reducible repeat (first | refine kn ?_ _ | refine kd ?_ | refine ka ?_ _)); refine blk_far ?_ NB221_220.out _; (with_reducible repeat (first | refine kn ?_ _ | refine kd ?_ | refine ka ?_ _)); refine blk_far ?_ NB221_220.out _; (with_reducible repeat (first | refine kn ?_ _ | refine kd ?_ | refine ka ?_ _)); exact BK221.out⟩, ⟨by (with_reducible repeat (first | refine kn ?_ _ | refine kd ?_ | refine ka ?_ _)); refine blk_far ?_ NB227_220.out _; (with_reducible repeat (first | refine kn ?_ _ | refine kd ?_ | refine ka ?_ _)); refine blk_far ?_ NB227_220.out _; (with_reducible repeat (first | refine kn ?_ _ | refine kd ?_ | refine ka ?_ _)); exact BK227.out⟩, ⟨by repeat (first | (with_reducible first | exact HB.out | apply ba | apply bn | apply bd | refine bs ?_ (by assumption)) | exact HB.out)⟩⟩
       ·rw [if_neg c27] at H
        have c27b0 : ((Int.tmod x1_2 2) == 1) = false := beq_eq_false_iff_ne.mpr c27
        have c27b1 : ((Int.tmod x1_2 2) != 1) = true := bne_iff_ne.mpr c27
        replace H := Option.bind_eq_some_iff.mp H
        obtain ⟨⟨t236, t237⟩, A440, H⟩ := H
        replace H : (spec_PowerMatrix.l0 k2 (wrap64 (Int.tdiv x1_2 2)) t236 t237 x228000_2 x228001_2) = some (r1, r2, r3) := H
        have A44 := Aside0.mk A440
        clear A440
        have H' := Aside0.mk H
        clear H
        have hnb45 := NB220_221.out
        have hnc45 := NB221_220.out
        have hnb46 := NB220_227.out
        have hnc46 := NB227_220.out
        have hcz47_0 := cz20 BK220.out
        have hcz47_1 := cz21 BK220.out
        have hfz47_0 := blk_frozen BK220.out 0
        have hfz47_1 := blk_frozen BK220.out 1
        obtain ⟨Ao48, co48, eo48⟩ := Kd.V_slice HO_221001.out
        subst eo48
        go_wp2_with (first | ((with_reducible refine gate_callee (f := 57) rfl ?_); refine goesL_ (some 30) rfl rfl Try.func57 (by kernel_rfl) rfl #[.agg #[.int .i64 x221000_2, .slice Ao48 x221001_2.length co48], .agg #[.int .i64 x221000_2, .slice Ao48 x221001_2.length co48]] rfl (by (try simp only [List.map_toArray, List.map_cons, List.map_nil]); first | done | rfl | (simp only [List.length_drop, List.length_take]; rfl)) ?_; (with_reducible refine (spec_l2Mul.calls k2 x221000_2 _ _ x221001_2 x221000_2 _ _ x221001_2 t236 t237 _ ?side1 ?side2 ?side3 ?side4 A44.out).mono ?_); (case side1 => repeat (first | exact (Kd.V_reads' HO_221001.out).2.2 | (with_reducible refine Kd.C_alloc ?_ _) | (with_reducible refine Kd.C_drewN ?_ _) | (with_reducible refine Kd.C_drew ?_))); (case side2 => exact (Kd.V_reads' HO_221001.out).2.1); (case side3 => repeat (first | exact (Kd.V_reads' HO_221001.out).2.2 | (with_reducible refine Kd.C_alloc ?_ _) | (with_reducible refine Kd.C_drewN ?_ _) | (with_reducible refine Kd.C_drew ?_))); (case side4 => exact (Kd.V_reads' HO_221001.out).2.1); rintro e w49 ⟨v238, rfl, ho0, hb⟩; refine ⟨_, rfl, ?_⟩; have n0_ := Aside0.mk (Kd.V_elder' (by (with_reducible repeat (first | apply Kd.V_alloc | apply Kd.V_drewN | apply Kd.V_drew)); exact HO_221001.out) (Kd.R_base ho0) hb); have n1_ := el HO_228001 (Kd.R_base ho0) hb; have n2_ := Aside0.mk (Kd.R_lower (Kd.R_new' (Kd.R_newM (M := fun k_ => (w.heap.size ≤ k_)) ho0 (below_size (by repeat (first | (with_reducible first | exact HB.out | apply ba | apply bn | apply bd | refine bs ?_ (by assumption)) | exact HB.out))) (fun k_ h_ => h_)) (Kd.R_lt (rz HO_228001.out))) (below_size (by repeat (first | (with_reducible first | exact HB.out | apply ba | apply bn | apply bd | refine bs ?_ (by assumption)) | exact HB.out)))); have n3_ := bk BK220 hb; have n4_ := bk BK221 hb; have n5_ := bk BK227 hb; have n6_ := Aside0.mk (below_step (by repeat (first | (with_reducible first | exact HB.out | apply ba | apply bn | apply bd | refine bs ?_ (by assumption)) | exact HB.out)) hb); clear HO_221001 HO_228001 BK220 BK221 BK227 HB; have HO_221001 := n0_; have HO_228001 := n1_; have HO239 := n2_; have BK220 := n3_; have BK221 := n4_; have BK227 := n5_; have HB := n6_; clear n0_ n1_ n2_ n3_ n4_ n5_ n6_; (try clear hb); (try clear hb2); (try clear hk); (try clear hi); (try clear ho0); have hcz50_0 := cz20 BK220.out; have hcz50_1 := cz21 BK220.out; have hfz50_0 := blk_frozen BK220.out 0; have hfz50_1 := blk_frozen BK220.out 1; obtain ⟨Ao51, co51, eo51⟩ := Kd.R_slice HO239.out; subst eo51))
        go_roundg k2
        case measure => have := HJ2.out; have := HK2.out; omega
        case rel => exact ⟨(wrap64 (Int.tdiv x1_2 2)), (t236), (t237), (x228000_2), (x228001_2), (.slice Ao51 t237.length co51), (u228001), (by first | rfl | (simp; done) | (simp [*]; done)), H', ⟨by have := HJ2.out; have := HK2.out; omega⟩, ⟨Kd.R_V (by (with_reducible repeat (first | apply ra | apply rn | apply rw_)); exact Kd.R_mono (Kd.R_far (p := ⟨gb220, 1, none⟩) (Kd.R_far (p := ⟨gb220, 0, none⟩) (Kd.R_types (Kd.R_types (Kd.R_types (Kd.R_types HO239.out BK220.out (by decide)) BK221.out (by decide)) BK227.out (by decide)) BK220.out (by decide)) (fun _ hk => hk.2) (.int .i64 t236)) (fun _ hk => hk.2) (.slice Ao51 t237.length co51)) (fun _ hk => ⟨.inr (hk.1.1.1.1.1.1), ⟨hk.1.1.1.1.2, ⟨hk.1.1.1.2, ⟨hk.1.1.2, hk.1.2⟩⟩⟩⟩))⟩, ⟨by (with_reducible repeat (first | apply ra | apply rn | apply rw_)); exact Kd.R_mono (Kd.R_far (p := ⟨gb220, 1, none⟩) (Kd.R_far (p := ⟨gb220, 0, none⟩) (Kd.R_types HO_228001.out BK220.out (by decide)) (fun _ hk => hk.2) (.int .i64 t236)) (fun _ hk => hk.2) (.slice Ao51 t237.length co51)) (fun _ hk => hk.1.1)⟩, ⟨by (with_reducible repeat (first | refine kn ?_ _ | refine kd ?_ | refine ka ?_ _)); refine blk_put (cs := #[.int .i64 t236, .slice Ao48 x221001_2.length co48]) ?_ 1 _ rfl; (with_reducible repeat (first | refine kn ?_ _ | refine kd ?_ | refine ka ?_ _)); refine blk_put (cs := #[.int .i64 x221000_2, .slice Ao48 x221001_2.length co48]) ?_ 0 _ rfl; (with_reducible repeat (first | refine kn ?_ _ | refine kd ?_ | refine ka ?_ _)); exact BK220.out⟩, ⟨by (with_reducible repeat (first | refine kn ?_ _ | refine kd ?_ | refine ka ?_ _)); refine blk_far ?_ NB221_220.out _; (with_reducible repeat (first | refine kn ?_ _ | refine kd ?_ | refine ka ?_ _)); refine blk_far ?_ NB221_220.out _; (with_reducible repeat (first | refine kn ?_ _ | refine kd ?_ | refine ka ?_ _)); exact BK221.out⟩, ⟨by (with_reducible repeat (first | refine kn ?_ _ | refine kd ?_ | refine ka ?_ _)); refine blk_far ?_ NB227_220.out _; (with_reducible repeat (first | refine kn ?_ _ | refine kd ?_ | refine ka ?_ _)); refine blk_far ?_ NB227_220.out _; (with_reducible repeat (first | refine kn ?_ _ | refine kd ?_ | refine ka ?_ _)); exact BK227.out⟩, ⟨by repeat (first | (with_reducible first | exact HB.out | apply ba | apply bn | apply bd | refine bs ?_ (by assumption)) | exact HB.out)⟩⟩
      ·rw [if_neg c26] at H
       have c26b0 : decide (0 < x1_2) = false := decide_eq_false c26
       clear c26
       simp only [Option.some.injEq, Prod.mk.injEq] at H
       obtain ⟨rfl, rfl, rfl⟩ := H
       have hnb52 := NB227_220.out
       have hnc52 := NB220_227.out
       have hnb53 := NB227_221.out
       have hnc53 := NB221_227.out
       have hcz54_0 := cz20 BK227.out
       have hcz54_1 := cz21 BK227.out
       have hfz54_0 := blk_frozen BK227.out 0
       have hfz54_1 := blk_frozen BK227.out 1
       have hnb55 := NB221_220.out
       have hnc55 := NB220_221.out
       have hcz56_0 := cz20 BK221.out
       have hcz56_1 := cz21 BK221.out
       have hfz56_0 := blk_frozen BK221.out 0
       have hfz56_1 := blk_frozen BK221.out 1
       obtain ⟨Ao57, co57, eo57⟩ := Kd.R_slice HO_228001.out
       subst eo57
       go_wp2
       refine bodyPost_ret (results_ct rfl _ _ gb221 27 #[.int .i64 x228000_2, .slice Ao57 x228001_2.length co57] (0, 0) _ rfl (by (with_reducible repeat (first | refine kn ?_ _ | refine kd ?_ | refine ka ?_ _)); refine blk_put (cs := #[.int .i64 x228000_2, .slice none 0 0]) ?_ 1 _ rfl; (with_reducible repeat (first | refine kn ?_ _ | refine kd ?_ | refine ka ?_ _)); refine blk_put (cs := #[.int .i64 0, .slice none 0 0]) ?_ 0 _ rfl; (with_reducible repeat (first | refine kn ?_ _ | refine kd ?_ | refine ka ?_ _)); exact BK221.out) Try.underlying27 rfl (by kernel_rfl)) rfl ?_
       exact ⟨_, by first | rfl | (simp [errW_none, errW_some] <;> rfl) | (simp [*, errW_none, errW_some] <;> rfl), by (with_reducible repeat (first | apply ra | apply rn | apply rw_)); exact Kd.R_mono (Kd.R_far (p := ⟨gb221, 1, none⟩) (Kd.R_far (p := ⟨gb221, 0, none⟩) (Kd.R_types HO_228001.out BK221.out (by decide)) (fun _ hk => hk.2) (.int .i64 x228000_2)) (fun _ hk => hk.2) (.slice Ao57 x228001_2.length co57)) (fun _ hk => hk.1), by repeat (first | (with_reducible first | exact HB.out | apply ba | apply bn | apply bd | refine bs ?_ (by assumption)) | exact HB.out)⟩

/-! ### laws_FnExactPowerMatrix: function 12 -/
def laws_FnExactPowerMatrix.f (k : Nat) (a0_0 : Int) (l0_1 : List Int) (a1 : Int) : Option (Bool) := (laws_szMatrix.f a0_0 l0_1 1048576).bind fun t241 => (if t241 < 0 then (some true) else ((laws_toMatrix.f k a0_0 l0_1).bind fun bt242 => ((spec_PowerMatrix.f k bt242.1 bt242.2 a1).bind fun bt246 => ((laws_toMatrix.f k a0_0 l0_1).bind fun bt252 => ((impl_PowerMatrix.f k bt252.1 bt252.2 a1).bind fun bt257 => ((laws_eqMatrix.f k bt257.1 bt257.2.1 bt246.1 bt246.2.1).bind fun t263 => (if t263 = true then (if (bt257.2.2 != bt246.2.2) = true then (none) else ((laws_toMatrix.f k a0_0 l0_1).bind fun bt264 => ((laws_eqMatrix.f k bt252.1 bt252.2 bt264.1 bt264.2).bind fun t268 => (if t268 = true then ((laws_markMatrix.f k bt252.1 bt252.2 1).bind fun bt269 => (if bt269.1 < 0 then (none) else ((laws_eqMatrix.f k bt257.1 bt257.2.1 bt246.1 bt246.2.1).bind fun t271 => (if t271 = true then ((laws_markMatrix.f k bt257.1 bt257.2.1 1).bind fun bt272 => ((laws_heldMatrix.f k bt257.1 bt272.2 1).bind fun t274 => (if t274 < 0 then (none) else (if t274 = bt272.1 then ((laws_toMatrix.f k a0_0 l0_1).bind fun bt275 => ((impl_PowerMatrix.f k bt275.1 bt275.2 a1).bind fun bt279 => ((laws_eqMatrix.f k bt279.1 bt279.2.1 bt246.1 bt246.2.1).bind fun t285 => (if t285 = true then (if (bt279.2.2 != bt246.2.2) = true then (none) else ((laws_heldMatrix.f k bt257.1 bt272.2 1).bind fun t286 => (if t286 < 0 then (none) else (if t286 = bt272.1 then (some true) else (none))))) else (none))))) else (none))))) else (none))))) else (none))))) else (none))))))))
theorem laws_FnExactPowerMatrix.mono : ∀ a0 a1 a2 k, LeO (laws_FnExactPowerMatrix.f k a0 a1 a2) (laws_FnExactPowerMatrix.f (k + 1) a0 a1 a2) := by
 intro a0 a1 a2 k
 unfold laws_FnExactPowerMatrix.f
 repeat' first
   | (with_reducible exact impl_PowerMatrix.mono _ _ _ _)
   | (with_reducible exact laws_eqMatrix.mono _ _ _ _ _)
   | (with_reducible exact laws_heldMatrix.mono _ _ _ _)
   | (with_reducible exact laws_markMatrix.mono _ _ _ _)
   | (with_reducible exact laws_toMatrix.mono _ _ _)
   | (with_reducible exact spec_PowerMatrix.mono _ _ _ _)
   | (with_reducible exact LeO.refl _)
   | (with_reducible exact LeO.none _)
   | (with_reducible refine LeO.ite ?_ ?_)
   | (with_reducible refine LeO.bind ?_ (fun _ => ?_))
   | exact impl_PowerMatrix.mono _ _ _ _
   | exact laws_eqMatrix.mono _ _ _ _ _
   | exact laws_heldMatrix.mono _ _ _ _
   | exact laws_markMatrix.mono _ _ _ _
   | exact laws_toMatrix.mono _ _ _
   | exact spec_PowerMatrix.mono _ _ _ _
   | exact LeO.none _
   | refine LeO.ite ?_ ?_
   | refine LeO.bind ?_ (fun _ => ?_)
set_option maxHeartbeats 8000000 in
set_option maxRecDepth 100000 in
theorem laws_FnExactPowerMatrix.calls (k : Nat) (a0_0 : Int) (A0_1 : Option Addr) (c0_1 : Nat) (l0_1 : List Int) (a1 : Int) (r : Bool) (w : World) (hr0_1 : Kd.C (Kd.int .i64) w A0_1 l0_1.length l0_1) (hc0_1 : l0_1.length ≤ c0_1) (h : laws_FnExactPowerMatrix.f k a0_0 l0_1 a1 = some r) :
  Calls Try.prog 12 #[.agg #[.int .i64 a0_0, .slice A0_1 l0_1.length c0_1], .int .i64 a1] w fun e w' => e = .returned (.bool r) ∧ Below w.heap.size w w' := by
 have hu24 := Try.underlying24
 have hu27 := Try.underlying27
 have HR0_1 := Aside0.mk hr0_1
 have HC0_1 := Aside0.mk hc0_1
 clear hr0_1 hc0_1
 have HB := Aside0.mk (Below.refl w.heap.size w)
 have H : ((laws_szMatrix.f a0_0 l0_1 1048576).bind fun t241 => (if t241 < 0 then (some true) else ((laws_toMatrix.f k a0_0 l0_1).bind fun bt242 => ((spec_PowerMatrix.f k bt242.1 bt242.2 a1).bind fun bt246 => ((laws_toMatrix.f k a0_0 l0_1).bind fun bt252 => ((impl_PowerMatrix.f k bt252.1 bt252.2 a1).bind fun bt257 => ((laws_eqMatrix.f k bt257.1 bt257.2.1 bt246.1 bt246.2.1).bind fun t263 => (if t263 = true then (if (bt257.2.2 != bt246.2.2) = true then (none) else ((laws_toMatrix.f k a0_0 l0_1).bind fun bt264 => ((laws_eqMatrix.f k bt252.1 bt252.2 bt264.1 bt264.2).bind fun t268 => (if t268 = true then ((laws_markMatrix.f k bt252.1 bt252.2 1).bind fun bt269 => (if bt269.1 < 0 then (none) else ((laws_eqMatrix.f k bt257.1 bt257.2.1 bt246.1 bt246.2.1).bind fun t271 => (if t271 = true then ((laws_markMatrix.f k bt257.1 bt257.2.1 1).bind fun bt272 => ((laws_heldMatrix.f k bt257.1 bt272.2 1).bind fun t274 => (if t274 < 0 then (none) else (if t274 = bt272.1 then ((laws_toMatrix.f k a0_0 l0_1).bind fun bt275 => ((impl_PowerMatrix.f k bt275.1 bt275.2 a1).bind fun bt279 => ((laws_eqMatrix.f k bt279.1 bt279.2.1 bt246.1 bt246.2.1).bind fun t285 => (if t285 = true then (if (bt279.2.2 != bt246.2.2) = true then (none) else ((laws_heldMatrix.f k bt257.1 bt272.2 1).bind fun t286 => (if t286 < 0 then (none) else (if t286 = bt272.1 then (some true) else (none))))) else (none))))) else (none))))) else (none))))) else (none))))) else (none))))))))) = some r := h
 clear h
 replace H := Option.bind_eq_some_iff.mp H
 obtain ⟨t241, A30, H⟩ := H
 replace H : (if t241 < 0 then (some true) else ((laws_toMatrix.f k a0_0 l0_1).bind fun bt242 => ((spec_PowerMatrix.f k bt242.1 bt242.2 a1).bind fun bt246 => ((laws_toMatrix.f k a0_0 l0_1).bind fun bt252 => ((impl_PowerMatrix.f k bt252.1 bt252.2 a1).bind fun bt257 => ((laws_eqMatrix.f k bt257.1 bt257.2.1 bt246.1 bt246.2.1).bind fun t263 => (if t263 = true then (if (bt257.2.2 != bt246.2.2) = true then (none) else ((laws_toMatrix.f k a0_0 l0_1).bind fun bt264 => ((laws_eqMatrix.f k bt252.1 bt252.2 bt264.1 bt264.2).bind fun t268 => (if t268 = true then ((laws_markMatrix.f k bt252.1 bt252.2 1).bind fun bt269 => (if bt269.1 < 0 then (none) else ((laws_eqMatrix.f k bt257.1 bt257.2.1 bt246.1 bt246.2.1).bind fun t271 => (if t271 = true then ((laws_markMatrix.f k bt257.1 bt257.2.1 1).bind fun bt272 => ((laws_heldMatrix.f k bt257.1 bt272.2 1).bind fun t274 => (if t274 < 0 then (none) else (if t274 = bt272.1 then ((laws_toMatrix.f k a0_0 l0_1).bind fun bt275 => ((impl_PowerMatrix.f k bt275.1 bt275.2 a1).bind fun bt279 => ((laws_eqMatrix.f k bt279.1 bt279.2.1 bt246.1 bt246.2.1).bind fun t285 => (if t285 = true then (if (bt279.2.2 != bt246.2.2) = true then (none) else ((laws_heldMatrix.f k bt257.1 bt272.2 1).bind fun t286 => (if t286 < 0 then (none) else (if t286 = bt272.1 then (some true) else (none))))) else (none))))) else (none))))) else (none))))) else (none))))) else (none)))))))) = some r := H
 have A3 := Aside0.mk A30
 clear A30
 by_cases c4 : t241 < 0
 ·rw [if_pos c4] at H
  have c4b0 : decide (t241 < 0) = true := decide_eq_true c4
  clear c4
  obtain rfl := Option.some.inj H
  go_enter Try.func12, Try.ntmps12
  go_wp2_with (first | ((with_reducible refine gate_dst (N := 2) rfl ?_); refine box_event ?hg (N := 2) ?hd (cs := #[.int .i64 a0_0, .slice A0_1 l0_1.length c0_1]) (t := 24) ?hr ?_; (case hd => rfl); (case hg => rfl); (case hr => first | (go_simp; done) | (go_simp; rfl)); intro gb240 hg w5 hbox hb; have n0_ := Aside0.mk (below_step (by exact bz HB.out) hb); have n1_ := Aside0.mk (hbox); have n2_ := Aside0.mk ((by rw [hg]; exact (below_size (by exact bz HB.out)) : w.heap.size ≤ gb240)); have n3_ := Aside0.mk ((by rw [hg]; exact (below_size (by exact bz HB.out)) : w.heap.size ≤ gb240)); clear HB; have HB := n0_; have BK240 := n1_; have GW240 := n2_; have GE240 := n3_; clear n0_ n1_ n2_ n3_ hb hbox hg; have hcz6_0 := cz20 BK240.out; have hcz6_1 := cz21 BK240.out; have hfz6_0 := blk_frozen BK240.out 0; have hfz6_1 := blk_frozen BK240.out 1) | ((with_reducible refine gate_callee (f := 14) rfl ?_); refine goesL_ (some 18) rfl rfl Try.func14 (by kernel_rfl) rfl #[.agg #[.int .i64 a0_0, .slice A0_1 l0_1.length c0_1], .int .i64 1048576] rfl (by (try simp only [List.map_toArray, List.map_cons, List.map_nil]); first | done | rfl | (simp only [List.length_drop, List.length_take]; rfl)) ?_; (with_reducible refine (laws_szMatrix.calls a0_0 _ _ l0_1 1048576 t241 _ ?side1 ?side2 A3.out).mono ?_); (case side1 => repeat (first | exact (Kd.C_below HR0_1.out HB.out) | (with_reducible refine Kd.C_alloc ?_ _) | (with_reducible refine Kd.C_drewN ?_ _) | (with_reducible refine Kd.C_drew ?_))); (case side2 => exact HC0_1.out); rintro e w7 ⟨rfl, hb⟩; refine ⟨_, rfl, ?_⟩; have n0_ := bk BK240 hb; have n1_ := Aside0.mk (below_step (by repeat (first | (with_reducible first | exact HB.out | apply ba | apply bn | apply bd | refine bs ?_ (by assumption)) | exact HB.out)) hb); clear BK240 HB; have BK240 := n0_; have HB := n1_; clear n0_ n1_; (try clear hb); (try clear hb2); (try clear hk); (try clear hi)))
  go_ret
  exact ⟨by first | rfl | (simp [errW_none, errW_some] <;> rfl) | (simp [*, errW_none, errW_some] <;> rfl), by repeat (first | (with_reducible first | exact HB.out | apply ba | apply bn | apply bd | refine bs ?_ (by assumption)) | exact HB.out)⟩
 ·rw [if_neg c4] at H
  have c4b0 : decide (t241 < 0) = false := decide_eq_false c4
  clear c4
  replace H := Option.bind_eq_some_iff.mp H
  obtain ⟨⟨t242, t243⟩, A80, H⟩ := H
  replace H : ((spec_PowerMatrix.f k t242 t243 a1).bind fun bt246 => ((laws_toMatrix.f k a0_0 l0_1).bind fun bt252 => ((impl_PowerMatrix.f k bt252.1 bt252.2 a1).bind fun bt257 => ((laws_eqMatrix.f k bt257.1 bt257.2.1 bt246.1 bt246.2.1).bind fun t263 => (if t263 = true then (if (bt257.2.2 != bt246.2.2) = true then (none) else ((laws_toMatrix.f k a0_0 l0_1).bind fun bt264 => ((laws_eqMatrix.f k bt252.1 bt252.2 bt264.1 bt264.2).bind fun t268 => (if t268 = true then ((laws_markMatrix.f k bt252.1 bt252.2 1).bind fun bt269 => (if bt269.1 < 0 then (none) else ((laws_eqMatrix.f k bt257.1 bt257.2.1 bt246.1 bt246.2.1).bind fun t271 => (if t271 = true then ((laws_markMatrix.f k bt257.1 bt257.2.1 1).bind fun bt272 => ((laws_heldMatrix.f k bt257.1 bt272.2 1).bind fun t274 => (if t274 < 0 then (none) else (if t274 = bt272.1 then ((laws_toMatrix.f k a0_0 l0_1).bind fun bt275 => ((impl_PowerMatrix.f k bt275.1 bt275.2 a1).bind fun bt279 => ((laws_eqMatrix.f k bt279.1 bt279.2.1 bt246.1 bt246.2.1).bind fun t285 => (if t285 = true then (if (bt279.2.2 != bt246.2.2) = true then (none) else ((laws_heldMatrix.f k bt257.1 bt272.2 1).bind fun t286 => (if t286 < 0 then (none) else (if t286 = bt272.1 then (some true) else (none))))) else (none))))) else (none))))) else (none))))) else (none))))) else (none)))))) = some r := H
  have A8 := Aside0.mk A80
  clear A80
  replace H := Option.bind_eq_some_iff.mp H
  obtain ⟨⟨t246, t247, t250⟩, A90, H⟩ := H
  replace H : ((laws_toMatrix.f k a0_0 l0_1).bind fun bt252 => ((impl_PowerMatrix.f k bt252.1 bt252.2 a1).bind fun bt257 => ((laws_eqMatrix.f k bt257.1 bt257.2.1 t246 t247).bind fun t263 => (if t263 = true then (if (bt257.2.2 != t250) = true then (none) else ((laws_toMatrix.f k a0_0 l0_1).bind fun bt264 => ((laws_eqMatrix.f k bt252.1 bt252.2 bt264.1 bt264.2).bind fun t268 => (if t268 = true then ((laws_markMatrix.f k bt252.1 bt252.2 1).bind fun bt269 => (if bt269.1 < 0 then (none) else ((laws_eqMatrix.f k bt257.1 bt257.2.1 t246 t247).bind fun t271 => (if t271 = true then ((laws_markMatrix.f k bt257.1 bt257.2.1 1).bind fun bt272 => ((laws_heldMatrix.f k bt257.1 bt272.2 1).bind fun t274 => (if t274 < 0 then (none) else (if t274 = bt272.1 then ((laws_toMatrix.f k a0_0 l0_1).bind fun bt275 => ((impl_PowerMatrix.f k bt275.1 bt275.2 a1).bind fun bt279 => ((laws_eqMatrix.f k bt279.1 bt279.2.1 t246 t247).bind fun t285 => (if t285 = true then (if (bt279.2.2 != t250) = true then (none) else ((laws_heldMatrix.f k bt257.1 bt272.2 1).bind fun t286 => (if t286 < 0 then (none) else (if t286 = bt272.1 then (some true) else (none))))) else (none))))) else (none))))) else (none))))) else (none))))) else (none))))) = some r := H
  have A9 := Aside0.mk A90
  clear A90
  replace H := Option.bind_eq_some_iff.mp H
  obtain ⟨⟨t252, t253⟩, A100, H⟩ := H
  replace H : ((impl_PowerMatrix.f k t252 t253 a1).bind fun bt257 => ((laws_eqMatrix.f k bt257.1 bt257.2.1 t246 t247).bind fun t263 => (if t263 = true then (if (bt257.2.2 != t250) = true then (none) else ((laws_toMatrix.f k a0_0 l0_1).bind fun bt264 => ((laws_eqMatrix.f k t252 t253 bt264.1 bt264.2).bind fun t268 => (if t268 = true then ((laws_markMatrix.f k t252 t253 1).bind fun bt269 => (if bt269.1 < 0 then (none) else ((laws_eqMatrix.f k bt257.1 bt257.2.1 t246 t247).bind fun t271 => (if t271 = true then ((laws_markMatrix.f k bt257.1 bt257.2.1 1).bind fun bt272 => ((laws_heldMatrix.f k bt257.1 bt272.2 1).bind fun t274 => (if t274 < 0 then (none) else (if t274 = bt272.1 then ((laws_toMatrix.f k a0_0 l0_1).bind fun bt275 => ((impl_PowerMatrix.f k bt275.1 bt275.2 a1).bind fun bt279 => ((laws_eqMatrix.f k bt279.1 bt279.2.1 t246 t247).bind fun t285 => (if t285 = true then (if (bt279.2.2 != t250) = true then (none) else ((laws_heldMatrix.f k bt257.1 bt272.2 1).bind fun t286 => (if t286 < 0 then (none) else (if t286 = bt272.1 then (some true) else (none))))) else (none))))) else (none))))) else (none))))) else (none))))) else (none)))) = some r := H
  have A10 := Aside0.mk A100
  clear A100
  replace H := Option.bind_eq_some_iff.mp H
  obtain ⟨⟨t257, t258, t261⟩, A110, H⟩ := H
  replace H : ((laws_eqMatrix.f k t257 t258 t246 t247).bind fun t263 => (if t263 = true then (if (t261 != t250) = true then (none) else ((laws_toMatrix.f k a0_0 l0_1).bind fun bt264 => ((laws_eqMatrix.f k t252 t253 bt264.1 bt264.2).bind fun t268 => (if t268 = true then ((laws_markMatrix.f k t252 t253 1).bind fun bt269 => (if bt269.1 < 0 then (none) else ((laws_eqMatrix.f k t257 t258 t246 t247).bind fun t271 => (if t271 = true then ((laws_markMatrix.f k t257 t258 1).bind fun bt272 => ((laws_heldMatrix.f k t257 bt272.2 1).bind fun t274 => (if t274 < 0 then (none) else (if t274 = bt272.1 then ((laws_toMatrix.f k a0_0 l0_1).bind fun bt275 => ((impl_PowerMatrix.f k bt275.1 bt275.2 a1).bind fun bt279 => ((laws_eqMatrix.f k bt279.1 bt279.2.1 t246 t247).bind fun t285 => (if t285 = true then (if (bt279.2.2 != t250) = true then (none) else ((laws_heldMatrix.f k t257 bt272.2 1).bind fun t286 => (if t286 < 0 then (none) else (if t286 = bt272.1 then (some true) else (none))))) else (none))))) else (none))))) else (none))))) else (none))))) else (none))) = some r := H
  have A11 := Aside0.mk A110
  clear A110
  replace H := Option.bind_eq_some_iff.mp H
  obtain ⟨t263, A120, H⟩ := H
  replace H : (if t263 = true then (if (t261 != t250) = true then (none) else ((laws_toMatrix.f k a0_0 l0_1).bind fun bt264 => ((laws_eqMatrix.f k t252 t253 bt264.1 bt264.2).bind fun t268 => (if t268 = true then ((laws_markMatrix.f k t252 t253 1).bind fun bt269 => (if bt269.1 < 0 then (none) else ((laws_eqMatrix.f k t257 t258 t246 t247).bind fun t271 => (if t271 = true then ((laws_markMatrix.f k t257 t258 1).bind fun bt272 => ((laws_heldMatrix.f k t257 bt272.2 1).bind fun t274 => (if t274 < 0 then (none) else (if t274 = bt272.1 then ((laws_toMatrix.f k a0_0 l0_1).bind fun bt275 => ((impl_PowerMatrix.f k bt275.1 bt275.2 a1).bind fun bt279 => ((laws_eqMatrix.f k bt279.1 bt279.2.1 t246 t247).bind fun t285 => (if t285 = true then (if (bt279.2.2 != t250) = true then (none) else ((laws_heldMatrix.f k t257 bt272.2 1).bind fun t286 => (if t286 < 0 then (none) else (if t286 = bt272.1 then (some true) else (none))))) else (none))))) else (none))))) else (none))))) else (none))))) else (none)) = some r := H
  have A12 := Aside0.mk A120
  clear A120
  by_cases c13 : t263 = true
  ·subst c13
   have H1 : (if (t261 != t250) = true then (none) else ((laws_toMatrix.f k a0_0 l0_1).bind fun bt264 => ((laws_eqMatrix.f k t252 t253 bt264.1 bt264.2).bind fun t268 => (if t268 = true then ((laws_markMatrix.f k t252 t253 1).bind fun bt269 => (if bt269.1 < 0 then (none) else ((laws_eqMatrix.f k t257 t258 t246 t247).bind fun t271 => (if t271 = true then ((laws_markMatrix.f k t257 t258 1).bind fun bt272 => ((laws_heldMatrix.f k t257 bt272.2 1).bind fun t274 => (if t274 < 0 then (none) else (if t274 = bt272.1 then ((laws_toMatrix.f k a0_0 l0_1).bind fun bt275 => ((impl_PowerMatrix.f k bt275.1 bt275.2 a1).bind fun bt279 => ((laws_eqMatrix.f k bt279.1 bt279.2.1 t246 t247).bind fun t285 => (if t285 = true then (if (bt279.2.2 != t250) = true then (none) else ((laws_heldMatrix.f k t257 bt272.2 1).bind fun t286 => (if t286 < 0 then (none) else (if t286 = bt272.1 then (some true) else (none))))) else (none))))) else (none))))) else (none))))) else (none))))) = some r := by rw [if_pos rfl] at H; exact H
   clear H
   have H := H1
   clear H1
   by_cases c14 : (t261 != t250) = true
   ·rw [if_pos c14] at H
    exact absurd H (by simp)
   ·rw [if_neg c14] at H
    have c14b0 : (t261 != t250) = false := by simpa using c14
    (try (have c14b1 : decide (t261 = t250) = true := by simpa using c14))
    (try (have c14b2 : (t261 == t250) = true := by simpa using c14))
    clear c14
    replace H := Option.bind_eq_some_iff.mp H
    obtain ⟨⟨t264, t265⟩, A150, H⟩ := H
    replace H : ((laws_eqMatrix.f k t252 t253 t264 t265).bind fun t268 => (if t268 = true then ((laws_markMatrix.f k t252 t253 1).bind fun bt269 => (if bt269.1 < 0 then (none) else ((laws_eqMatrix.f k t257 t258 t246 t247).bind fun t271 => (if t271 = true then ((laws_markMatrix.f k t257 t258 1).bind fun bt272 => ((laws_heldMatrix.f k t257 bt272.2 1).bind fun t274 => (if t274 < 0 then (none) else (if t274 = bt272.1 then ((laws_toMatrix.f k a0_0 l0_1).bind fun bt275 => ((impl_PowerMatrix.f k bt275.1 bt275.2 a1).bind fun bt279 => ((laws_eqMatrix.f k bt279.1 bt279.2.1 t246 t247).bind fun t285 => (if t285 = true then (if (bt279.2.2 != t250) = true then (none) else ((laws_heldMatrix.f k t257 bt272.2 1).bind fun t286 => (if t286 < 0 then (none) else (if t286 = bt272.1 then (some true) else (none))))) else (none))))) else (none))))) else (none))))) else (none))) = some r := H
    have A15 := Aside0.mk A150
    clear A150
    replace H := Option.bind_eq_some_iff.mp H
    obtain ⟨t268, A160, H⟩ := H
    replace H : (if t268 = true then ((laws_markMatrix.f k t252 t253 1).bind fun bt269 => (if bt269.1 < 0 then (none) else ((laws_eqMatrix.f k t257 t258 t246 t247).bind fun t271 => (if t271 = true then ((laws_markMatrix.f k t257 t258 1).bind fun bt272 => ((laws_heldMatrix.f k t257 bt272.2 1).bind fun t274 => (if t274 < 0 then (none) else (if t274 = bt272.1 then ((laws_toMatrix.f k a0_0 l0_1).bind fun bt275 => ((impl_PowerMatrix.f k bt275.1 bt275.2 a1).bind fun bt279 => ((laws_eqMatrix.f k bt279.1 bt279.2.1 t246 t247).bind fun t285 => (if t285 = true then (if (bt279.2.2 != t250) = true then (none) else ((laws_heldMatrix.f k t257 bt272.2 1).bind fun t286 => (if t286 < 0 then (none) else (if t286 = bt272.1 then (some true) else (none))))) else (none))))) else (none))))) else (none))))) else (none)) = some r := H
    have A16 := Aside0.mk A160
    clear A160
    by_cases c17 : t268 = true
    ·subst c17
     have H1 : ((laws_markMatrix.f k t252 t253 1).bind fun bt269 => (if bt269.1 < 0 then (none) else ((laws_eqMatrix.f k t257 t258 t246 t247).bind fun t271 => (if t271 = true then ((laws_markMatrix.f k t257 t258 1).bind fun bt272 => ((laws_heldMatrix.f k t257 bt272.2 1).bind fun t274 => (if t274 < 0 then (none) else (if t274 = bt272.1 then ((laws_toMatrix.f k a0_0 l0_1).bind fun bt275 => ((impl_PowerMatrix.f k bt275.1 bt275.2 a1).bind fun bt279 => ((laws_eqMatrix.f k bt279.1 bt279.2.1 t246 t247).bind fun t285 => (if t285 = true then (if (bt279.2.2 != t250) = true then (none) else ((laws_heldMatrix.f k t257 bt272.2 1).bind fun t286 => (if t286 < 0 then (none) else (if t286 = bt272.1 then (some true) else (none))))) else (none))))) else (none))))) else (none))))) = some r := by rw [if_pos rfl] at H; exact H
     clear H
     have H := H1
     clear H1
     replace H := Option.bind_eq_some_iff.mp H
     obtain ⟨⟨t269, t270⟩, A180, H⟩ := H
     replace H : (if t269 < 0 then (none) else ((laws_eqMatrix.f k t257 t258 t246 t247).bind fun t271 => (if t271 = true then ((laws_markMatrix.f k t257 t258 1).bind fun bt272 => ((laws_heldMatrix.f k t257 bt272.2 1).bind fun t274 => (if t274 < 0 then (none) else (if t274 = bt272.1 then ((laws_toMatrix.f k a0_0 l0_1).bind fun bt275 => ((impl_PowerMatrix.f k bt275.1 bt275.2 a1).bind fun bt279 => ((laws_eqMatrix.f k bt279.1 bt279.2.1 t246 t247).bind fun t285 => (if t285 = true then (if (bt279.2.2 != t250) = true then (none) else ((laws_heldMatrix.f k t257 bt272.2 1).bind fun t286 => (if t286 < 0 then (none) else (if t286 = bt272.1 then (some true) else (none))))) else (none))))) else (none))))) else (none)))) = some r := H
     have A18 := Aside0.mk A180
     clear A180
     by_cases c19 : t269 < 0
     ·rw [if_pos c19] at H
      exact absurd H (by simp)
     ·rw [if_neg c19] at H
      have c19b0 : decide (t269 < 0) = false := decide_eq_false c19
      clear c19
      replace H := Option.bind_eq_some_iff.mp H
      obtain ⟨t271, A200, H⟩ := H
      replace H : (if t271 = true then ((laws_markMatrix.f k t257 t258 1).bind fun bt272 => ((laws_heldMatrix.f k t257 bt272.2 1).bind fun t274 => (if t274 < 0 then (none) else (if t274 = bt272.1 then ((laws_toMatrix.f k a0_0 l0_1).bind fun bt275 => ((impl_PowerMatrix.f k bt275.1 bt275.2 a1).bind fun bt279 => ((laws_eqMatrix.f k bt279.1 bt279.2.1 t246 t247).bind fun t285 => (if t285 = true then (if (bt279.2.2 != t250) = true then (none) else ((laws_heldMatrix.f k t257 bt272.2 1).bind fun t286 => (if t286 < 0 then (none) else (if t286 = bt272.1 then (some true) else (none))))) else (none))))) else (none))))) else (none)) = some r := H
      have A20 := Aside0.mk A200
      clear A200
      by_cases c21 : t271 = true
      ·subst c21
       have H1 : ((laws_markMatrix.f k t257 t258 1).bind fun bt272 => ((laws_heldMatrix.f k t257 bt272.2 1).bind fun t274 => (if t274 < 0 then (none) else (if t274 = bt272.1 then ((laws_toMatrix.f k a0_0 l0_1).bind fun bt275 => ((impl_PowerMatrix.f k bt275.1 bt275.2 a1).bind fun bt279 => ((laws_eqMatrix.f k bt279.1 bt279.2.1 t246 t247).bind fun t285 => (if t285 = true then (if (bt279.2.2 != t250) = true then (none) else ((laws_heldMatrix.f k t257 bt272.2 1).bind fun t286 => (if t286 < 0 then (none) else (if t286 = bt272.1 then (some true) else (none))))) else (none))))) else (none))))) = some r := by rw [if_pos rfl] at H; exact H
       clear H
       have H := H1
       clear H1
       replace H := Option.bind_eq_some_iff.mp H
       obtain ⟨⟨t272, t273⟩, A220, H⟩ := H
       replace H : ((laws_heldMatrix.f k t257 t273 1).bind fun t274 => (if t274 < 0 then (none) else (if t274 = t272 then ((laws_toMatrix.f k a0_0 l0_1).bind fun bt275 => ((impl_PowerMatrix.f k bt275.1 bt275.2 a1).bind fun bt279 => ((laws_eqMatrix.f k bt279.1 bt279.2.1 t246 t247).bind fun t285 => (if t285 = true then (if (bt279.2.2 != t250) = true then (none) else ((laws_heldMatrix.f k t257 t273 1).bind fun t286 => (if t286 < 0 then (none) else (if t286 = t272 then (some true) else (none))))) else (none))))) else (none)))) = some r := H
       have A22 := Aside0.mk A220
       clear A220
       replace H := Option.bind_eq_some_iff.mp H
       obtain ⟨t274, A230, H⟩ := H
       replace H : (if t274 < 0 then (none) else (if t274 = t272 then ((laws_toMatrix.f k a0_0 l0_1).bind fun bt275 => ((impl_PowerMatrix.f k bt275.1 bt275.2 a1).bind fun bt279 => ((laws_eqMatrix.f k bt279.1 bt279.2.1 t246 t247).bind fun t285 => (if t285 = true then (if (bt279.2.2 != t250) = true then (none) else ((laws_heldMatrix.f k t257 t273 1).bind fun t286 => (if t286 < 0 then (none) else (if t286 = t272 then (some true) else (none))))) else (none))))) else (none))) = some r := H
       have A23 := Aside0.mk A230
       clear A230
       by_cases c24 : t274 < 0
       ·rw [if_pos c24] at H
        exact absurd H (by simp)
       ·rw [if_neg c24] at H
        have c24b0 : decide (t274 < 0) = false := decide_eq_false c24
        clear c24
        by_cases c25 : t274 = t272
        ·rw [if_pos c25] at H
         have c25b0 : (t274 == t272) = true := beq_iff_eq.mpr c25
         have c25b1 : (t274 != t272) = false := bne_eq_false_iff_eq.mpr c25
         clear c25
         replace H := Option.bind_eq_some_iff.mp H
         obtain ⟨⟨t275, t276⟩, A260, H⟩ := H
         replace H : ((impl_PowerMatrix.f k t275 t276 a1).bind fun bt279 => ((laws_eqMatrix.f k bt279.1 bt279.2.1 t246 t247).bind fun t285 => (if t285 = true then (if (bt279.2.2 != t250) = true then (none) else ((laws_heldMatrix.f k t257 t273 1).bind fun t286 => (if t286 < 0 then (none) else (if t286 = t272 then (some true) else (none))))) else (none)))) = some r := H
         have A26 := Aside0.mk A260
         clear A260
         replace H := Option.bind_eq_some_iff.mp H
         obtain ⟨⟨t279, t280, t283⟩, A270, H⟩ := H
         replace H : ((laws_eqMatrix.f k t279 t280 t246 t247).bind fun t285 => (if t285 = true then (if (t283 != t250) = true then (none) else ((laws_heldMatrix.f k t257 t273 1).bind fun t286 => (if t286 < 0 then (none) else (if t286 = t272 then (some true) else (none))))) else (none))) = some r := H
         have A27 := Aside0.mk A270
         clear A270
         replace H := Option.bind_eq_some_iff.mp H
         obtain ⟨t285, A280, H⟩ := H
         replace H : (if t285 = true then (if (t283 != t250) = true then (none) else ((laws_heldMatrix.f k t257 t273 1).bind fun t286 => (if t286 < 0 then (none) else (if t286 = t272 then (some true) else (none))))) else (none)) = some r := H
         have A28 := Aside0.mk A280
         clear A280
         by_cases c29 : t285 = true
         ·subst c29
          have H1 : (if (t283 != t250) = true then (none) else ((laws_heldMatrix.f k t257 t273 1).bind fun t286 => (if t286 < 0 then (none) else (if t286 = t272 then (some true) else (none))))) = some r := by rw [if_pos rfl] at H; exact H
          clear H
          have H := H1
          clear H1
          by_cases c30 : (t283 != t250) = true
          ·rw [if_pos c30] at H
           exact absurd H (by simp)
          ·rw [if_neg c30] at H
           have c30b0 : (t283 != t250) = false := by simpa using c30
           (try (have c30b1 : decide (t283 = t250) = true := by simpa using c30))
           (try (have c30b2 : (t283 == t250) = true := by simpa using c30))
           clear c30
           replace H := Option.bind_eq_some_iff.mp H
           obtain ⟨t286, A310, H⟩ := H
           replace H : (if t286 < 0 then (none) else (if t286 = t272 then (some true) else (none))) = some r := H
           have A31 := Aside0.mk A310
           clear A310
           by_cases c32 : t286 < 0
           ·rw [if_pos c32] at H
            exact absurd H (by simp)
           ·rw [if_neg c32] at H
            have c32b0 : decide (t286 < 0) = false := decide_eq_false c32
            clear c32
            by_cases c33 : t286 = t272
            ·rw [if_pos c33] at H
             have c33b0 : (t286 == t272) = true := beq_iff_eq.mpr c33
             have c33b1 : (t286 != t272) = false := bne_eq_false_iff_eq.mpr c33
             clear c33
             obtain rfl := Option.some.inj H
             go_enter Try.func12, Try.ntmps12
             try go_wp2_with (first | ((with_reducible refine gate_dst (N := 2) rfl ?_); refine box_event ?hg (N := 2) ?hd (cs := #[.int .i64 a0_0, .slice A0_1 l0_1.length c0_1]) (t := 24) ?hr ?_; (case hd => rfl); (case hg => rfl); (case hr => first | (go_simp; done) | (go_simp; rfl)); intro gb240 hg w34 hbox hb; have n0_ := Aside0.mk (below_step (by exact bz HB.out) hb); have n1_ := Aside0.mk (hbox); have n2_ := Aside0.mk ((by rw [hg]; exact (below_size (by exact bz HB.out)) : w.heap.size ≤ gb240)); have n3_ := Aside0.mk ((by rw [hg]; exact (below_size (by exact bz HB.out)) : w.heap.size ≤ gb240)); clear HB; have HB := n0_; have BK240 := n1_; have GW240 := n2_; have GE240 := n3_; clear n0_ n1_ n2_ n3_ hb hbox hg; have hcz35_0 := cz20 BK240.out; have hcz35_1 := cz21 BK240.out; have hfz35_0 := blk_frozen BK240.out 0; have hfz35_1 := blk_frozen BK240.out 1) | ((with_reducible refine gate_callee (f := 14) rfl ?_); refine goesL_ (some 18) rfl rfl Try.func14 (by kernel_rfl) rfl #[.agg #[.int .i64 a0_0, .slice A0_1 l0_1.length c0_1], .int .i64 1048576] rfl (by (try simp only [List.map_toArray, List.map_cons, List.map_nil]); first | done | rfl | (simp only [List.length_drop, List.length_take]; rfl)) ?_; (with_reducible refine (laws_szMatrix.calls a0_0 _ _ l0_1 1048576 t241 _ ?side1 ?side2 A3.out).mono ?_); (case side1 => repeat (first | exact (Kd.C_below HR0_1.out HB.out) | (with_reducible refine Kd.C_alloc ?_ _) | (with_reducible refine Kd.C_drewN ?_ _) | (with_reducible refine Kd.C_drew ?_))); (case side2 => exact HC0_1.out); rintro e w36 ⟨rfl, hb⟩; refine ⟨_, rfl, ?_⟩; have n0_ := bk BK240 hb; have n1_ := Aside0.mk (below_step (by repeat (first | (with_reducible first | exact HB.out | apply ba | apply bn | apply bd | refine bs ?_ (by assumption)) | exact HB.out)) hb); clear BK240 HB; have BK240 := n0_; have HB := n1_; clear n0_ n1_; (try clear hb); (try clear hb2); (try clear hk); (try clear hi); have hcz37_0 := cz20 BK240.out; have hcz37_1 := cz21 BK240.out; have hfz37_0 := blk_frozen BK240.out 0; have hfz37_1 := blk_frozen BK240.out 1) | ((with_reducible refine gate_callee (f := 16) rfl ?_); refine goesL_ (some 23) rfl rfl Try.func16 (by kernel_rfl) rfl #[.agg #[.int .i64 a0_0, .slice A0_1 l0_1.length c0_1]] rfl (by (try simp only [List.map_toArray, List.map_cons, List.map_nil]); first | done | rfl | (simp only [List.length_drop, List.length_take]; rfl)) ?_; (with_reducible refine (laws_toMatrix.calls k a0_0 _ _ l0_1 t242 t243 _ ?side1 ?side2 A8.out).mono ?_); (case side1 => repeat (first | exact (Kd.C_below HR0_1.out HB.out) | (with_reducible refine Kd.C_alloc ?_ _) | (with_reducible refine Kd.C_drewN ?_ _) | (with_reducible refine Kd.C_drew ?_))); (case side2 => exact HC0_1.out); rintro e w38 ⟨v244, rfl, ho0, hb⟩; refine ⟨_, rfl, ?_⟩; have n0_ := Aside0.mk (Kd.R_lower ho0 (below_size (by repeat (first | (with_reducible first | exact HB.out | apply ba | apply bn | apply bd | refine bs ?_ (by assumption)) | exact HB.out)))); have n1_ := bk BK240 hb; have n2_ := Aside0.mk (below_step (by repeat (first | (with_reducible first | exact HB.out | apply ba | apply bn | apply bd | refine bs ?_ (by assumption)) | exact HB.out)) hb); clear BK240 HB; have HO245 := n0_; have BK240 := n1_; have HB := n2_; clear n0_ n1_ n2_; (try clear hb); (try clear hb2); (try clear hk); (try clear hi); (try clear ho0); obtain ⟨Ao39, co39, eo39⟩ := Kd.R_slice HO245.out; subst eo39) | ((with_reducible refine gate_callee (f := 34) rfl ?_); refine goesL_ (some 25) rfl rfl Try.func34 (by kernel_rfl) rfl #[.agg #[.int .i64 t242, .slice Ao39 t243.length co39], .int .i64 a1] rfl (by (try simp only [List.map_toArray, List.map_cons, List.map_nil]); first | done | rfl | (simp only [List.length_drop, List.length_take]; rfl)) ?_; (with_reducible refine (spec_PowerMatrix.calls k t242 (fun k_ => some k_ = (.slice Ao39 t243.length co39 : Value).ownBlock) _ _ t243 a1 t246 t247 t250 _ ?side1 A9.out).mono ?_); (case side1 => exact Kd.R_V (Kd.R_tight rfl (Kd.R_types (HO245.out) BK240.out (by decide)))); rintro e w40 ⟨v248, rfl, ho0, hb⟩; refine ⟨_, rfl, ?_⟩; have n0_ := el HO245 (Kd.R_base ho0) hb; have n1_ := Aside0.mk (Kd.R_lower (Kd.R_new' (Kd.R_mono (ok' := fun k_ => True) ho0 (fun _ hk_ => trivial)) (Kd.R_lt (rz HO245.out))) (below_size (by repeat (first | (with_reducible first | exact HB.out | apply ba | apply bn | apply bd | refine bs ?_ (by assumption)) | exact HB.out)))); have n2_ := bk BK240 hb; have n3_ := Aside0.mk (below_step (by repeat (first | (with_reducible first | exact HB.out | apply ba | apply bn | apply bd | refine bs ?_ (by assumption)) | exact HB.out)) hb); clear HO245 BK240 HB; have HO245 := n0_; have HO249 := n1_; have BK240 := n2_; have HB := n3_; clear n0_ n1_ n2_ n3_; (try clear hb); (try clear hb2); (try clear hk); (try clear hi); (try clear ho0)) | ((with_reducible refine gate_dst (N := 6) rfl ?_); refine box_event ?hg (N := 6) ?hd (cs := #[.int .i64 0, .slice none 0 0]) (t := 27) ?hr ?_; (case hd => rfl); (case hg => rfl); (case hr => first | (go_simp; done) | (go_simp; rfl)); intro gb251 hg w41 hbox hb; have n0_ := Aside0.mk (Kd.R_below (rz HO245.out) hb); have n1_ := Aside0.mk (Kd.R_below (rz HO249.out) hb); have n2_ := bk BK240 hb; have n3_ := Aside0.mk (below_step (by repeat (first | (with_reducible first | exact HB.out | apply ba | apply bn | apply bd | refine bs ?_ (by assumption)) | exact HB.out)) hb); have n4_ := Aside0.mk (hbox); have n5_ := Aside0.mk ((by rw [hg]; exact (below_size (by repeat (first | (with_reducible first | exact HB.out | apply ba | apply bn | apply bd | refine bs ?_ (by assumption)) | exact HB.out))) : w.heap.size ≤ gb251)); have n6_ := Aside0.mk ((by rw [hg]; exact (below_size (by repeat (first | (with_reducible first | exact HB.out | apply ba | apply bn | apply bd | refine bs ?_ (by assumption)) | exact HB.out))) : w.heap.size ≤ gb251)); have n7_ := Aside0.mk ((by rw [hg]; exact Nat.ne_of_lt (blk_lt (kz BK240.out)) : gb240 ≠ gb251)); have n8_ := Aside0.mk ((by rw [hg]; exact Nat.ne_of_gt (blk_lt (kz BK240.out)) : gb251 ≠ gb240)); clear HO245 HO249 BK240 HB; have HO245 := n0_; have HO249 := n1_; have BK240 := n2_; have HB := n3_; have BK251 := n4_; have GW251 := n5_; have GE251 := n6_; have NB240_251 := n7_; have NB251_240 := n8_; clear n0_ n1_ n2_ n3_ n4_ n5_ n6_ n7_ n8_ hb hbox hg; have hnb42 := NB251_240.out; have hnc42 := NB240_251.out; have hcz43_0 := cz20 BK251.out; have hcz43_1 := cz21 BK251.out; have hfz43_0 := blk_frozen BK251.out 0; have hfz43_1 := blk_frozen BK251.out 1; obtain ⟨Ao44, co44, eo44⟩ := Kd.R_slice HO249.out; subst eo44; have hcz45_0 := cz20 BK240.out; have hcz45_1 := cz21 BK240.out; have hfz45_0 := blk_frozen BK240.out 0; have hfz45_1 := blk_frozen BK240.out 1) | ((with_reducible refine gate_callee (f := 16) rfl ?_); refine goesL_ (some 29) rfl rfl Try.func16 (by kernel_rfl) rfl #[.agg #[.int .i64 a0_0, .slice A0_1 l0_1.length c0_1]] rfl (by (try simp only [List.map_toArray, List.map_cons, List.map_nil]); first | done | rfl | (simp only [List.length_drop, List.length_take]; rfl)) ?_; (with_reducible refine (laws_toMatrix.calls k a0_0 _ _ l0_1 t252 t253 _ ?side1 ?side2 A10.out).mono ?_); (case side1 => exact Kd.C_below HR0_1.out (by repeat (first | (with_reducible first | exact HB.out | apply ba | apply bn | apply bd | refine bs ?_ (by assumption)) | exact HB.out))); (case side2 => exact HC0_1.out); rintro e w46 ⟨v254, rfl, ho0, hb⟩; refine ⟨_, rfl, ?_⟩; have n0_ := Aside0.mk (Kd.R_elder' (by (with_reducible repeat (first | apply ra | apply rn | apply rw_)); exact (Kd.R_mono (Kd.R_far (p := ⟨gb251, 1, none⟩) (Kd.R_far (p := ⟨gb251, 0, none⟩) (Kd.R_types HO245.out BK251.out (by decide)) (fun _ hk => hk.2) (.int .i64 t246)) (fun _ hk => hk.2) (.slice Ao44 t247.length co44)) (fun _ h_ => h_.1))) (Kd.R_base ho0) hb); have n1_ := Aside0.mk (Kd.R_elder' (by (with_reducible repeat (first | apply ra | apply rn | apply rw_)); exact (Kd.R_mono (Kd.R_far (p := ⟨gb251, 1, none⟩) (Kd.R_far (p := ⟨gb251, 0, none⟩) (Kd.R_types HO249.out BK251.out (by decide)) (fun _ hk => hk.2) (.int .i64 t246)) (fun _ hk => hk.2) (.slice Ao44 t247.length co44)) (fun _ h_ => h_.1))) (Kd.R_base ho0) hb); have n2_ := Aside0.mk (Kd.R_lower (Kd.R_new' (Kd.R_new' ho0 (Kd.R_lt (by (with_reducible repeat (first | apply ra | apply rn | apply rw_)); exact (Kd.R_mono (Kd.R_far (p := ⟨gb251, 1, none⟩) (Kd.R_far (p := ⟨gb251, 0, none⟩) (Kd.R_types HO245.out BK251.out (by decide)) (fun _ hk => hk.2) (.int .i64 t246)) (fun _ hk => hk.2) (.slice Ao44 t247.length co44)) (fun _ h_ => h_.1))))) (Kd.R_lt (by (with_reducible repeat (first | apply ra | apply rn | apply rw_)); exact (Kd.R_mono (Kd.R_far (p := ⟨gb251, 1, none⟩) (Kd.R_far (p := ⟨gb251, 0, none⟩) (Kd.R_types HO249.out BK251.out (by decide)) (fun _ hk => hk.2) (.int .i64 t246)) (fun _ hk => hk.2) (.slice Ao44 t247.length co44)) (fun _ h_ => h_.1))))) (below_size (by repeat (first | (with_reducible first | exact HB.out | apply ba | apply bn | apply bd | refine bs ?_ (by assumption)) | exact HB.out)))); have n3_ := Aside0.mk (blk_below (g := gb240) (o := .cells #[.int .i64 a0_0, .slice A0_1 l0_1.length c0_1] 24 (0, 0)) (by (with_reducible repeat (first | refine kn ?_ _ | refine kd ?_ | refine ka ?_ _)); refine blk_far ?_ NB240_251.out _; (with_reducible repeat (first | refine kn ?_ _ | refine kd ?_ | refine ka ?_ _)); refine blk_far ?_ NB240_251.out _; (with_reducible repeat (first | refine kn ?_ _ | refine kd ?_ | refine ka ?_ _)); exact BK240.out) hb); have n4_ := Aside0.mk (blk_below (g := gb251) (o := .cells #[.int .i64 t246, .slice Ao44 t247.length co44] 27 (0, 0)) (by (with_reducible repeat (first | refine kn ?_ _ | refine kd ?_ | refine ka ?_ _)); refine blk_put (cs := #[.int .i64 t246, .slice none 0 0]) ?_ 1 _ rfl; (with_reducible repeat (first | refine kn ?_ _ | refine kd ?_ | refine ka ?_ _)); refine blk_put (cs := #[.int .i64 0, .slice none 0 0]) ?_ 0 _ rfl; (with_reducible repeat (first | refine kn ?_ _ | refine kd ?_ | refine ka ?_ _)); exact BK251.out) hb); have n5_ := Aside0.mk (below_step (by repeat (first | (with_reducible first | exact HB.out | apply ba | apply bn | apply bd | refine bs ?_ (by assumption)) | exact HB.out)) hb); clear HO245 HO249 BK240 BK251 HB; have HO245 := n0_; have HO249 := n1_; have HO255 := n2_; have BK240 := n3_; have BK251 := n4_; have HB := n5_; clear n0_ n1_ n2_ n3_ n4_ n5_; (try clear hb); (try clear hb2); (try clear hk); (try clear hi); (try clear ho0)) | ((with_reducible refine gate_dst (N := 8) rfl ?_); refine box_event ?hg (N := 8) ?hd (cs := #[.int .i64 0, .slice none 0 0]) (t := 27) ?hr ?_; (case hd => rfl); (case hg => rfl); (case hr => first | (go_simp; done) | (go_simp; rfl)); intro gb256 hg w47 hbox hb; have n0_ := Aside0.mk (Kd.R_below (rz HO245.out) hb); have n1_ := Aside0.mk (Kd.R_below (rz HO249.out) hb); have n2_ := Aside0.mk (Kd.R_below (rz HO255.out) hb); have n3_ := bk BK240 hb; have n4_ := bk BK251 hb; have n5_ := Aside0.mk (below_step (by repeat (first | (with_reducible first | exact HB.out | apply ba | apply bn | apply bd | refine bs ?_ (by assumption)) | exact HB.out)) hb); have n6_ := Aside0.mk (hbox); have n7_ := Aside0.mk ((by rw [hg]; exact (below_size (by repeat (first | (with_reducible first | exact HB.out | apply ba | apply bn | apply bd | refine bs ?_ (by assumption)) | exact HB.out))) : w.heap.size ≤ gb256)); have n8_ := Aside0.mk ((by rw [hg]; exact (below_size (by repeat (first | (with_reducible first | exact HB.out | apply ba | apply bn | apply bd | refine bs ?_ (by assumption)) | exact HB.out))) : w.heap.size ≤ gb256)); have n9_ := Aside0.mk ((by rw [hg]; exact Nat.ne_of_lt (blk_lt (kz BK240.out)) : gb240 ≠ gb256)); have n10_ := Aside0.mk ((by rw [hg]; exact Nat.ne_of_gt (blk_lt (kz BK240.out)) : gb256 ≠ gb240)); have n11_ := Aside0.mk ((by rw [hg]; exact Nat.ne_of_lt (blk_lt (kz BK251.out)) : gb251 ≠ gb256)); have n12_ := Aside0.mk ((by rw [hg]; exact Nat.ne_of_gt (blk_lt (kz BK251.out)) : gb256 ≠ gb251)); clear HO245 HO249 HO255 BK240 BK251 HB; have HO245 := n0_; have HO249 := n1_; have HO255 := n2_; have BK240 := n3_; have BK251 := n4_; have HB := n5_; have BK256 := n6_; have GW256 := n7_; have GE256 := n8_; have NB240_256 := n9_; have NB256_240 := n10_; have NB251_256 := n11_; have NB256_251 := n12_; clear n0_ n1_ n2_ n3_ n4_ n5_ n6_ n7_ n8_ n9_ n10_ n11_ n12_ hb hbox hg; have hnb48 := NB256_240.out; have hnc48 := NB240_256.out; have hnb49 := NB256_251.out; have hnc49 := NB251_256.out; have hcz50_0 := cz20 BK256.out; have hcz50_1 := cz21 BK256.out; have hfz50_0 := blk_frozen BK256.out 0; have hfz50_1 := blk_frozen BK256.out 1; obtain ⟨Ao51, co51, eo51⟩ := Kd.R_slice HO255.out; subst eo51) | ((with_reducible refine gate_store (t := 27) (p := 8) rfl ?_); refine store_event (t := 27) (p := 8) (v := ?vo_w52) (w1 := ((w47.setCell ⟨gb256, 0, none⟩ (.int .i64 t252)).setCell ⟨gb256, 1, none⟩ (.slice Ao51 t253.length co51))) ?hg ?ho ?hn ?hr ?_; (case ho => rfl); (case hg => rfl); (case hn => rfl); (case hr => first | (go_simp; done) | (go_simp; rfl)); intro w52 hw; have n0_ : Aside0 (Kd.R (Kd.int .i64) 3 w52 w.heap.size (fun k_ => some k_ ≠ (.slice Ao44 t247.length co44 : Value).ownBlock ∧ some k_ ≠ (.slice Ao51 t253.length co51 : Value).ownBlock) (.slice Ao39 t243.length co39) t243) := ⟨(by rw [hw]; exact (by (with_reducible repeat (first | apply ra | apply rn | apply rw_)); exact Kd.R_mono (Kd.R_far (p := ⟨gb256, 1, none⟩) (Kd.R_far (p := ⟨gb256, 0, none⟩) (Kd.R_types HO245.out BK256.out (by decide)) (fun _ hk => hk.2) (.int .i64 t252)) (fun _ hk => hk.2) (.slice Ao51 t253.length co51)) (fun _ hk => ⟨hk.1.1.2, hk.1.2⟩)))⟩; have n1_ : Aside0 (Kd.R (Kd.int .i64) 3 w52 w.heap.size (fun k_ => some k_ ≠ (.slice Ao39 t243.length co39 : Value).ownBlock ∧ some k_ ≠ (.slice Ao51 t253.length co51 : Value).ownBlock) (.slice Ao44 t247.length co44) t247) := ⟨(by rw [hw]; exact (by (with_reducible repeat (first | apply ra | apply rn | apply rw_)); exact Kd.R_mono (Kd.R_far (p := ⟨gb256, 1, none⟩) (Kd.R_far (p := ⟨gb256, 0, none⟩) (Kd.R_types HO249.out BK256.out (by decide)) (fun _ hk => hk.2) (.int .i64 t252)) (fun _ hk => hk.2) (.slice Ao51 t253.length co51)) (fun _ hk => ⟨hk.1.1.2, hk.1.2⟩)))⟩; have n2_ : Aside0 (Kd.R (Kd.int .i64) 3 w52 w.heap.size (fun k_ => some k_ ≠ (.slice Ao39 t243.length co39 : Value).ownBlock ∧ some k_ ≠ (.slice Ao44 t247.length co44 : Value).ownBlock) (.slice Ao51 t253.length co51) t253) := ⟨(by rw [hw]; exact (by (with_reducible repeat (first | apply ra | apply rn | apply rw_)); exact Kd.R_mono (Kd.R_far (p := ⟨gb256, 1, none⟩) (Kd.R_far (p := ⟨gb256, 0, none⟩) (Kd.R_types HO255.out BK256.out (by decide)) (fun _ hk => hk.2) (.int .i64 t252)) (fun _ hk => hk.2) (.slice Ao51 t253.length co51)) (fun _ hk => ⟨hk.1.1.2, hk.1.2⟩)))⟩; have n3_ : Aside0 (w52.heap[gb240]? = some (.cells #[.int .i64 a0_0, .slice A0_1 l0_1.length c0_1] 24 (0, 0))) := ⟨(by rw [hw]; exact (by (with_reducible repeat (first | refine kn ?_ _ | refine kd ?_ | refine ka ?_ _)); refine blk_far ?_ NB240_256.out _; (with_reducible repeat (first | refine kn ?_ _ | refine kd ?_ | refine ka ?_ _)); refine blk_far ?_ NB240_256.out _; (with_reducible repeat (first | refine kn ?_ _ | refine kd ?_ | refine ka ?_ _)); exact BK240.out))⟩; have n4_ : Aside0 (w52.heap[gb251]? = some (.cells #[.int .i64 t246, .slice Ao44 t247.length co44] 27 (0, 0))) := ⟨(by rw [hw]; exact (by (with_reducible repeat (first | refine kn ?_ _ | refine kd ?_ | refine ka ?_ _)); refine blk_far ?_ NB251_256.out _; (with_reducible repeat (first | refine kn ?_ _ | refine kd ?_ | refine ka ?_ _)); refine blk_far ?_ NB251_256.out _; (with_reducible repeat (first | refine kn ?_ _ | refine kd ?_ | refine ka ?_ _)); exact BK251.out))⟩; have n5_ : Aside0 (w52.heap[gb256]? = some (.cells #[.int .i64 t252, .slice Ao51 t253.length co51] 27 (0, 0))) := ⟨(by rw [hw]; exact (by (with_reducible repeat (first | refine kn ?_ _ | refine kd ?_ | refine ka ?_ _)); refine blk_put (cs := #[.int .i64 t252, .slice none 0 0]) ?_ 1 _ rfl; (with_reducible repeat (first | refine kn ?_ _ | refine kd ?_ | refine ka ?_ _)); refine blk_put (cs := #[.int .i64 0, .slice none 0 0]) ?_ 0 _ rfl; (with_reducible repeat (first | refine kn ?_ _ | refine kd ?_ | refine ka ?_ _)); exact BK256.out))⟩; have n6_ : Aside0 (Below w.heap.size w w52) := ⟨(by rw [hw]; exact (by repeat (first | (with_reducible first | exact HB.out | apply ba | apply bn | apply bd | refine bs ?_ (by assumption)) | exact HB.out)))⟩; clear hw HO245 HO249 HO255 BK240 BK251 BK256 HB; have HO245 := n0_; have HO249 := n1_; have HO255 := n2_; have BK240 := n3_; have BK251 := n4_; have BK256 := n5_; have HB := n6_; clear n0_ n1_ n2_ n3_ n4_ n5_ n6_; have hcz53_0 := cz20 BK256.out; have hcz53_1 := cz21 BK256.out; have hfz53_0 := blk_frozen BK256.out 0; have hfz53_1 := blk_frozen BK256.out 1) | ((with_reducible refine gate_callee (f := 33) rfl ?_); refine goesL_ (some 33) rfl rfl Try.func33 (by kernel_rfl) rfl #[.agg #[.int .i64 t252, .slice Ao51 t253.length co51], .int .i64 a1] rfl (by (try simp only [List.map_toArray, List.map_cons, List.map_nil]); first | done | rfl | (simp only [List.length_drop, List.length_take]; rfl)) ?_; (with_reducible refine (impl_PowerMatrix.calls k t252 (fun k_ => some k_ = (.slice Ao51 t253.length co51 : Value).ownBlock) _ _ t253 a1 t257 t258 t261 _ ?side1 A11.out).mono ?_); (case side1 => exact Kd.R_V (Kd.R_tight rfl (Kd.R_types (Kd.R_types (Kd.R_types (HO255.out) BK240.out (by decide)) BK251.out (by decide)) BK256.out (by decide)))); rintro e w54 ⟨v259, rfl, ho0, hb⟩; refine ⟨_, rfl, ?_⟩; have n0_ := el HO245 (Kd.R_base ho0) hb; have n1_ := el HO249 (Kd.R_base ho0) hb; have n2_ := el HO255 (Kd.R_base ho0) hb; have n3_ := Aside0.mk (Kd.R_lower (Kd.R_new' (Kd.R_new' (Kd.R_new' (Kd.R_mono (ok' := fun k_ => True) ho0 (fun _ hk_ => trivial)) (Kd.R_lt (rz HO245.out))) (Kd.R_lt (rz HO249.out))) (Kd.R_lt (rz HO255.out))) (below_size (by repeat (first | (with_reducible first | exact HB.out | apply ba | apply bn | apply bd | refine bs ?_ (by assumption)) | exact HB.out)))); have n4_ := bk BK240 hb; have n5_ := bk BK251 hb; have n6_ := bk BK256 hb; have n7_ := Aside0.mk (below_step (by repeat (first | (with_reducible first | exact HB.out | apply ba | apply bn | apply bd | refine bs ?_ (by assumption)) | exact HB.out)) hb); clear HO245 HO249 HO255 BK240 BK251 BK256 HB; have HO245 := n0_; have HO249 := n1_; have HO255 := n2_; have HO260 := n3_; have BK240 := n4_; have BK251 := n5_; have BK256 := n6_; have HB := n7_; clear n0_ n1_ n2_ n3_ n4_ n5_ n6_ n7_; (try clear hb); (try clear hb2); (try clear hk); (try clear hi); (try clear ho0)) | ((with_reducible refine gate_dst (N := 9) rfl ?_); refine box_event ?hg (N := 9) ?hd (cs := #[.int .i64 0, .slice none 0 0]) (t := 27) ?hr ?_; (case hd => rfl); (case hg => rfl); (case hr => first | (go_simp; done) | (go_simp; rfl)); intro gb262 hg w55 hbox hb; have n0_ := Aside0.mk (Kd.R_below (rz HO245.out) hb); have n1_ := Aside0.mk (Kd.R_below (rz HO249.out) hb); have n2_ := Aside0.mk (Kd.R_below (rz HO255.out) hb); have n3_ := Aside0.mk (Kd.R_below (rz HO260.out) hb); have n4_ := bk BK240 hb; have n5_ := bk BK251 hb; have n6_ := bk BK256 hb; have n7_ := Aside0.mk (below_step (by repeat (first | (with_reducible first | exact HB.out | apply ba | apply bn | apply bd | refine bs ?_ (by assumption)) | exact HB.out)) hb); have n8_ := Aside0.mk (hbox); have n9_ := Aside0.mk ((by rw [hg]; exact (below_size (by repeat (first | (with_reducible first | exact HB.out | apply ba | apply bn | apply bd | refine bs ?_ (by assumption)) | exact HB.out))) : w.heap.size ≤ gb262)); have n10_ := Aside0.mk ((by rw [hg]; exact (below_size (by repeat (first | (with_reducible first | exact HB.out | apply ba | apply bn | apply bd | refine bs ?_ (by assumption)) | exact HB.out))) : w.heap.size ≤ gb262)); have n11_ := Aside0.mk ((by rw [hg]; exact Nat.ne_of_lt (blk_lt (kz BK240.out)) : gb240 ≠ gb262)); have n12_ := Aside0.mk ((by rw [hg]; exact Nat.ne_of_gt (blk_lt (kz BK240.out)) : gb262 ≠ gb240)); have n13_ := Aside0.mk ((by rw [hg]; exact Nat.ne_of_lt (blk_lt (kz BK251.out)) : gb251 ≠ gb262)); have n14_ := Aside0.mk ((by rw [hg]; exact Nat.ne_of_gt (blk_lt (kz BK251.out)) : gb262 ≠ gb251)); have n15_ := Aside0.mk ((by rw [hg]; exact Nat.ne_of_lt (blk_lt (kz BK256.out)) : gb256 ≠ gb262)); have n16_ := Aside0.mk ((by rw [hg]; exact Nat.ne_of_gt (blk_lt (kz BK256.out)) : gb262 ≠ gb256)); clear HO245 HO249 HO255 HO260 BK240 BK251 BK256 HB; have HO245 := n0_; have HO249 := n1_; have HO255 := n2_; have HO260 := n3_; have BK240 := n4_; have BK251 := n5_; have BK256 := n6_; have HB := n7_; have BK262 := n8_; have GW262 := n9_; have GE262 := n10_; have NB240_262 := n11_; have NB262_240 := n12_; have NB251_262 := n13_; have NB262_251 := n14_; have NB256_262 := n15_; have NB262_256 := n16_; clear n0_ n1_ n2_ n3_ n4_ n5_ n6_ n7_ n8_ n9_ n10_ n11_ n12_ n13_ n14_ n15_ n16_ hb hbox hg; have hnb56 := NB262_240.out; have hnc56 := NB240_262.out; have hnb57 := NB262_251.out; have hnc57 := NB251_262.out; have hnb58 := NB262_256.out; have hnc58 := NB256_262.out; have hcz59_0 := cz20 BK262.out; have hcz59_1 := cz21 BK262.out; have hfz59_0 := blk_frozen BK262.out 0; have hfz59_1 := blk_frozen BK262.out 1; obtain ⟨Ao60, co60, eo60⟩ := Kd.R_slice HO260.out; subst eo60; have hcz61_0 := cz20 BK251.out; have hcz61_1 := cz21 BK251.out; have hfz61_0 := blk_frozen BK251.out 0; have hfz61_1 := blk_frozen BK251.out 1) | ((with_reducible refine gate_callee (f := 18) rfl ?_); refine goesL_ (some 38) rfl rfl Try.func18 (by kernel_rfl) rfl #[.agg #[.int .i64 t257, .slice Ao60 t258.length co60], .agg #[.int .i64 t246, .slice Ao44 t247.length co44]] rfl (by (try simp only [List.map_toArray, List.map_cons, List.map_nil]); first | done | rfl | (simp only [List.length_drop, List.length_take]; rfl)) ?_; (with_reducible refine (laws_eqMatrix.calls k t257 _ _ t258 t246 _ _ t247 true _ ?side1 ?side2 ?side3 ?side4 A12.out).mono ?_); (case side1 => refine (Kd.R_reads' (e := 3) (base := w.heap.size) (ok := fun k_ => (((True ∧ some k_ ≠ (.slice Ao39 t243.length co39 : Value).ownBlock) ∧ some k_ ≠ (.slice Ao44 t247.length co44 : Value).ownBlock) ∧ some k_ ≠ (.slice Ao51 t253.length co51 : Value).ownBlock)) (n := t258.length) (c := co60) ?_).2.2; exact (by (with_reducible repeat (first | apply ra | apply rn | apply rw_)); exact (Kd.R_mono (Kd.R_far (p := ⟨gb262, 1, none⟩) (Kd.R_far (p := ⟨gb262, 0, none⟩) (Kd.R_types HO260.out BK262.out (by decide)) (fun _ hk => hk.2) (.int .i64 t257)) (fun _ hk => hk.2) (.slice Ao60 t258.length co60)) (fun _ h_ => h_.1)))); (case side2 => exact (Kd.R_reads' HO260.out).2.1); (case side3 => refine (Kd.R_reads' (e := 3) (base := w.heap.size) (ok := fun k_ => ((some k_ ≠ (.slice Ao39 t243.length co39 : Value).ownBlock ∧ some k_ ≠ (.slice Ao51 t253.length co51 : Value).ownBlock) ∧ some k_ ≠ (.slice Ao60 t258.length co60 : Value).ownBlock)) (n := t247.length) (c := co44) ?_).2.2; exact (by (with_reducible repeat (first | apply ra | apply rn | apply rw_)); exact (Kd.R_mono (Kd.R_far (p := ⟨gb262, 1, none⟩) (Kd.R_far (p := ⟨gb262, 0, none⟩) (Kd.R_types HO249.out BK262.out (by decide)) (fun _ hk => hk.2) (.int .i64 t257)) (fun _ hk => hk.2) (.slice Ao60 t258.length co60)) (fun _ h_ => h_.1)))); (case side4 => exact (Kd.R_reads' HO249.out).2.1); rintro e w62 ⟨rfl, hb⟩; refine ⟨_, rfl, ?_⟩; have n0_ := Aside0.mk (Kd.R_below (by (with_reducible repeat (first | apply ra | apply rn | apply rw_)); exact (Kd.R_mono (Kd.R_far (p := ⟨gb262, 1, none⟩) (Kd.R_far (p := ⟨gb262, 0, none⟩) (Kd.R_types HO245.out BK262.out (by decide)) (fun _ hk => hk.2) (.int .i64 t257)) (fun _ hk => hk.2) (.slice Ao60 t258.length co60)) (fun _ h_ => h_.1))) hb); have n1_ := Aside0.mk (Kd.R_below (by (with_reducible repeat (first | apply ra | apply rn | apply rw_)); exact (Kd.R_mono (Kd.R_far (p := ⟨gb262, 1, none⟩) (Kd.R_far (p := ⟨gb262, 0, none⟩) (Kd.R_types HO249.out BK262.out (by decide)) (fun _ hk => hk.2) (.int .i64 t257)) (fun _ hk => hk.2) (.slice Ao60 t258.length co60)) (fun _ h_ => h_.1))) hb); have n2_ := Aside0.mk (Kd.R_below (by (with_reducible repeat (first | apply ra | apply rn | apply rw_)); exact (Kd.R_mono (Kd.R_far (p := ⟨gb262, 1, none⟩) (Kd.R_far (p := ⟨gb262, 0, none⟩) (Kd.R_types HO255.out BK262.out (by decide)) (fun _ hk => hk.2) (.int .i64 t257)) (fun _ hk => hk.2) (.slice Ao60 t258.length co60)) (fun _ h_ => h_.1))) hb); have n3_ := Aside0.mk (Kd.R_below (by (with_reducible repeat (first | apply ra | apply rn | apply rw_)); exact (Kd.R_mono (Kd.R_far (p := ⟨gb262, 1, none⟩) (Kd.R_far (p := ⟨gb262, 0, none⟩) (Kd.R_types HO260.out BK262.out (by decide)) (fun _ hk => hk.2) (.int .i64 t257)) (fun _ hk => hk.2) (.slice Ao60 t258.length co60)) (fun _ h_ => h_.1))) hb); have n4_ := Aside0.mk (blk_below (g := gb240) (o := .cells #[.int .i64 a0_0, .slice A0_1 l0_1.length c0_1] 24 (0, 0)) (by (with_reducible repeat (first | refine kn ?_ _ | refine kd ?_ | refine ka ?_ _)); refine blk_far ?_ NB240_262.out _; (with_reducible repeat (first | refine kn ?_ _ | refine kd ?_ | refine ka ?_ _)); refine blk_far ?_ NB240_262.out _; (with_reducible repeat (first | refine kn ?_ _ | refine kd ?_ | refine ka ?_ _)); exact BK240.out) hb); have n5_ := Aside0.mk (blk_below (g := gb251) (o := .cells #[.int .i64 t246, .slice Ao44 t247.length co44] 27 (0, 0)) (by (with_reducible repeat (first | refine kn ?_ _ | refine kd ?_ | refine ka ?_ _)); refine blk_far ?_ NB251_262.out _; (with_reducible repeat (first | refine kn ?_ _ | refine kd ?_ | refine ka ?_ _)); refine blk_far ?_ NB251_262.out _; (with_reducible repeat (first | refine kn ?_ _ | refine kd ?_ | refine ka ?_ _)); exact BK251.out) hb); have n6_ := Aside0.mk (blk_below (g := gb256) (o := .cells #[.int .i64 t252, .slice Ao51 t253.length co51] 27 (0, 0)) (by (with_reducible repeat (first | refine kn ?_ _ | refine kd ?_ | refine ka ?_ _)); refine blk_far ?_ NB256_262.out _; (with_reducible repeat (first | refine kn ?_ _ | refine kd ?_ | refine ka ?_ _)); refine blk_far ?_ NB256_262.out _; (with_reducible repeat (first | refine kn ?_ _ | refine kd ?_ | refine ka ?_ _)); exact BK256.out) hb); have n7_ := Aside0.mk (blk_below (g := gb262) (o := .cells #[.int .i64 t257, .slice Ao60 t258.length co60] 27 (0, 0)) (by (with_reducible repeat (first | refine kn ?_ _ | refine kd ?_ | refine ka ?_ _)); refine blk_put (cs := #[.int .i64 t257, .slice none 0 0]) ?_ 1 _ rfl; (with_reducible repeat (first | refine kn ?_ _ | refine kd ?_ | refine ka ?_ _)); refine blk_put (cs := #[.int .i64 0, .slice none 0 0]) ?_ 0 _ rfl; (with_reducible repeat (first | refine kn ?_ _ | refine kd ?_ | refine ka ?_ _)); exact BK262.out) hb); have n8_ := Aside0.mk (below_step (by repeat (first | (with_reducible first | exact HB.out | apply ba | apply bn | apply bd | refine bs ?_ (by assumption)) | exact HB.out)) hb); clear HO245 HO249 HO255 HO260 BK240 BK251 BK256 BK262 HB; have HO245 := n0_; have HO249 := n1_; have HO255 := n2_; have HO260 := n3_; have BK240 := n4_; have BK251 := n5_; have BK256 := n6_; have BK262 := n7_; have HB := n8_; clear n0_ n1_ n2_ n3_ n4_ n5_ n6_ n7_ n8_; (try clear hb); (try clear hb2); (try clear hk); (try clear hi)))
             have n0_ := Aside0.mk (Kd.R_drew HO245.out)
             have n1_ := Aside0.mk (Kd.R_drew HO249.out)
             have n2_ := Aside0.mk (Kd.R_drew HO255.out)
             have n3_ := Aside0.mk (Kd.R_drew HO260.out)
             have n4_ := Aside0.mk (blk_drew BK240.out)
             have n5_ := Aside0.mk (blk_drew BK251.out)
             have n6_ := Aside0.mk (blk_drew BK256.out)
             have n7_ := Aside0.mk (blk_drew BK262.out)
             have n8_ := Aside0.mk (below_drew1 HB.out)
             clear HO245 HO249 HO255 HO260 BK240 BK251 BK256 BK262 HB
             have HO245 := n0_
             have HO249 := n1_
             have HO255 := n2_
             have HO260 := n3_
             have BK240 := n4_
             have BK251 := n5_
             have BK256 := n6_
             have BK262 := n7_
             have HB := n8_
             clear n0_ n1_ n2_ n3_ n4_ n5_ n6_ n7_ n8_
             refine start_ (n := 5) (S := fun w' => w'.cell? ⟨gb256, 0, none⟩ = some (.int .i64 t252) ∧ w'.cell? ⟨gb256, 1, none⟩ = some (.slice Ao51 t253.length co51) ∧ w'.cell? ⟨gb240, 0, none⟩ = some (.int .i64 a0_0) ∧ w'.cell? ⟨gb240, 1, none⟩ = some (.slice A0_1 l0_1.length c0_1)) (ds := []) #[false, false, false, false, false] (by kernel_rfl) rfl rfl ⟨(blk_cell BK256.out 0).trans rfl, (blk_cell BK256.out 1).trans rfl, (blk_cell BK240.out 0).trans rfl, (blk_cell BK240.out 1).trans rfl⟩ (fun hHeld => ?_)
             generalize w62.drew = w63 at HO245 HO249 HO255 HO260 BK240 BK251 BK256 BK262 HB hHeld ⊢
             refine take_ (i := 0) (N := some 45) (v := ?_) (a' := ?_) #[true, false, false, false, false] rfl rfl (by kernel_rfl) (fun _ _ _ h => h) (Or.inl ⟨by rfl, ?_⟩) hHeld ?_ ?_
             rotate_left
             ·rintro w' ⟨s0, s1, s2, s3⟩
              go_simp
              with_reducible rfl
             rotate_left
             ·simp only [Act.put, List.setIfInBounds_toArray, List.set_cons_zero, List.set_cons_succ, i64_w, i32_w]
              rfl
             refine take_ (i := 1) (N := some 46) (v := ?_) (a' := ?_) #[true, true, false, false, false] rfl rfl (by kernel_rfl) (fun _ _ _ h => h) (Or.inl ⟨by rfl, ?_⟩) hHeld ?_ ?_
             rotate_left
             ·rintro w' ⟨s0, s1, s2, s3⟩
              go_simp
              with_reducible rfl
             rotate_left
             ·simp only [Act.put, List.setIfInBounds_toArray, List.set_cons_zero, List.set_cons_succ, i64_w, i32_w]
              rfl
             refine one_ (i := 2) (N := some 47) #[true, true, true, false, false] rfl rfl (by kernel_rfl) (by decide) (fun K hK => ?_)
             refine goes_ Try.func16 (by kernel_rfl) rfl #[.agg #[.int .i64 a0_0, .slice A0_1 l0_1.length c0_1]] (by rfl) rfl rfl (by (try simp only [List.map_toArray, List.map_cons, List.map_nil]); first | done | rfl | (simp only [List.length_drop, List.length_take]; rfl)) ?_
             with_reducible refine (laws_toMatrix.calls k a0_0 _ _ l0_1 t264 t265 _ ?side1 ?side2 A15.out).mono ?_
             (case side1 => repeat (first | exact (Kd.C_below HR0_1.out HB.out) | (with_reducible refine Kd.C_alloc ?_ _) | (with_reducible refine Kd.C_drewN ?_ _) | (with_reducible refine Kd.C_drew ?_)))
             (case side2 => exact HC0_1.out)
             rintro e w64 ⟨v266, rfl, ho0, hb⟩
             refine ⟨_, rfl, ?_⟩
             have n0_ := el HO245 (Kd.R_base ho0) hb
             have n1_ := el HO249 (Kd.R_base ho0) hb
             have n2_ := el HO255 (Kd.R_base ho0) hb
             have n3_ := el HO260 (Kd.R_base ho0) hb
             have n4_ := Aside0.mk (Kd.R_lower (Kd.R_new' (Kd.R_new' (Kd.R_new' (Kd.R_new' ho0 (Kd.R_lt (rz HO245.out))) (Kd.R_lt (rz HO249.out))) (Kd.R_lt (rz HO255.out))) (Kd.R_lt (rz HO260.out))) (below_size (by repeat (first | (with_reducible first | exact HB.out | apply ba | apply bn | apply bd | refine bs ?_ (by assumption)) | exact HB.out))))
             have n5_ := bk BK240 hb
             have n6_ := bk BK251 hb
             have n7_ := bk BK256 hb
             have n8_ := bk BK262 hb
             have n9_ := Aside0.mk (below_step (by repeat (first | (with_reducible first | exact HB.out | apply ba | apply bn | apply bd | refine bs ?_ (by assumption)) | exact HB.out)) hb)
             clear HO245 HO249 HO255 HO260 BK240 BK251 BK256 BK262 HB
             have HO245 := n0_
             have HO249 := n1_
             have HO255 := n2_
             have HO260 := n3_
             have HO267 := n4_
             have BK240 := n5_
             have BK251 := n6_
             have BK256 := n7_
             have BK262 := n8_
             have HB := n9_
             clear n0_ n1_ n2_ n3_ n4_ n5_ n6_ n7_ n8_ n9_
             (try clear hb)
             (try clear hb2)
             (try clear hk)
             (try clear hi)
             (try clear ho0)
             obtain ⟨Ao65, co65, eo65⟩ := Kd.R_slice HO267.out
             (first | subst eo65 | (injection eo65 with f1_ f2_ f3_; have f4_ := f1_.symm; have f5_ := f3_.symm; clear f1_ f2_ f3_; subst f4_; subst f5_))
             refine hK.out _ _ ⟨(blk_cell BK256.out 0).trans rfl, (blk_cell BK256.out 1).trans rfl, (blk_cell BK240.out 0).trans rfl, (blk_cell BK240.out 1).trans rfl⟩ (fun hHeld => ?_)
             clear hK K
             refine norm_ (a' := ?_) ?_ ?_
             rotate_left
             ·show Act.put _ (some 47) _ = _
              simp only [Act.put, List.setIfInBounds_toArray, List.set_cons_zero, List.set_cons_succ, i64_w, i32_w]
              rfl
             refine one_ (i := 3) (N := some 48) #[true, true, true, true, false] rfl rfl (by kernel_rfl) (by decide) (fun K hK => ?_)
             refine goes_ Try.func18 (by kernel_rfl) rfl #[.agg #[.int .i64 t252, .slice Ao51 t253.length co51], .agg #[.int .i64 t264, .slice Ao65 t265.length co65]] (by rfl) rfl rfl (by (try simp only [List.map_toArray, List.map_cons, List.map_nil]); first | done | rfl | (simp only [List.length_drop, List.length_take]; rfl)) ?_
             with_reducible refine (laws_eqMatrix.calls k t252 _ _ t253 t264 _ _ t265 true _ ?side1 ?side2 ?side3 ?side4 A16.out).mono ?_
             (case side1 => repeat (first | exact (Kd.R_reads' HO255.out).2.2 | (with_reducible refine Kd.C_alloc ?_ _) | (with_reducible refine Kd.C_drewN ?_ _) | (with_reducible refine Kd.C_drew ?_)))
             (case side2 => exact (Kd.R_reads' HO255.out).2.1)
             (case side3 => repeat (first | exact (Kd.R_reads' HO267.out).2.2 | (with_reducible refine Kd.C_alloc ?_ _) | (with_reducible refine Kd.C_drewN ?_ _) | (with_reducible refine Kd.C_drew ?_)))
             (case side4 => exact (Kd.R_reads' HO267.out).2.1)
             rintro e w66 ⟨rfl, hb⟩
             refine ⟨_, rfl, ?_⟩
             have n0_ := Aside0.mk (Kd.R_below (rz HO245.out) hb)
             have n1_ := Aside0.mk (Kd.R_below (rz HO249.out) hb)
             have n2_ := Aside0.mk (Kd.R_below (rz HO255.out) hb)
             have n3_ := Aside0.mk (Kd.R_below (rz HO260.out) hb)
             have n4_ := Aside0.mk (Kd.R_below (rz HO267.out) hb)
             have n5_ := bk BK240 hb
             have n6_ := bk BK251 hb
             have n7_ := bk BK256 hb
             have n8_ := bk BK262 hb
             have n9_ := Aside0.mk (below_step (by repeat (first | (with_reducible first | exact HB.out | apply ba | apply bn | apply bd | refine bs ?_ (by assumption)) | exact HB.out)) hb)
             clear HO245 HO249 HO255 HO260 HO267 BK240 BK251 BK256 BK262 HB
             have HO245 := n0_
             have HO249 := n1_
             have HO255 := n2_
             have HO260 := n3_
             have HO267 := n4_
             have BK240 := n5_
             have BK251 := n6_
             have BK256 := n7_
             have BK262 := n8_
             have HB := n9_
             clear n0_ n1_ n2_ n3_ n4_ n5_ n6_ n7_ n8_ n9_
             (try clear hb)
             (try clear hb2)
             (try clear hk)
             (try clear hi)
             refine hK.out _ _ ⟨(blk_cell BK256.out 0).trans rfl, (blk_cell BK256.out 1).trans rfl, (blk_cell BK240.out 0).trans rfl, (blk_cell BK240.out 1).trans rfl⟩ (fun hHeld => ?_)
             clear hK K
             refine norm_ (a' := ?_) ?_ ?_
             rotate_left
             ·show Act.put _ (some 48) _ = _
              simp only [Act.put, List.setIfInBounds_toArray, List.set_cons_zero, List.set_cons_succ, i64_w, i32_w]
              rfl
             refine pure_ (i := 4) (N := some 49) (v := ?_) (a' := ?_) #[true, true, true, true, true] rfl rfl (by kernel_rfl) (fun _ _ _ h => h) (Or.inl ⟨by rfl, ?_⟩) ?_ ?_
             rotate_left
             ·intro w'
              go_simp
              with_reducible rfl
             rotate_left
             ·simp only [Act.put, List.setIfInBounds_toArray, List.set_cons_zero, List.set_cons_succ, i64_w, i32_w]
              rfl
             refine done_ (by kernel_rfl) ?_
             have hcz67_0 := cz20 BK256.out
             have hcz67_1 := cz21 BK256.out
             have hfz67_0 := blk_frozen BK256.out 0
             have hfz67_1 := blk_frozen BK256.out 1
             try go_wp2_with (first | ((with_reducible refine gate_callee (f := 21) rfl ?_); refine goesL_ (some 52) rfl rfl Try.func21 (by kernel_rfl) rfl #[.agg #[.int .i64 t252, .slice Ao51 t253.length co51], .int .i64 1] rfl (by (try simp only [List.map_toArray, List.map_cons, List.map_nil]); first | done | rfl | (simp only [List.length_drop, List.length_take]; rfl)) ?_; (with_reducible refine (laws_markMatrix.calls k t252 (fun k_ => some k_ = (.slice Ao51 t253.length co51 : Value).ownBlock) (.slice Ao51 t253.length co51) t253 1 t269 t270 w _ ?side1 ?side2 A18.out).mono ?_); (case side1 => repeat (first | (with_reducible first | exact HB.out | apply below_alloc | apply pw_below_drewN | apply below_drew1 | refine below_set ?_ GE240.out | refine below_set ?_ GE251.out | refine below_set ?_ GE256.out | refine below_set ?_ GE262.out) | exact HB.out)); (case side2 => exact Kd.R_tight rfl HO255.out); rintro e w68 ⟨rfl, hy0, hb, hkp⟩; refine ⟨_, rfl, ?_⟩; have n0_ := Aside0.mk (blk_kept (kz BK240.out) hkp (fun hs_ => (fun e_ => (Kd.R_ne HO255.out BK240.out (by decide)) e_) hs_)); have n1_ := Aside0.mk (Kd.R_mono (ok' := fun k_ => some k_ ≠ (.slice Ao44 t247.length co44 : Value).ownBlock ∧ some k_ ≠ (.slice Ao51 t253.length co51 : Value).ownBlock ∧ some k_ ≠ (.slice Ao60 t258.length co60 : Value).ownBlock ∧ some k_ ≠ (.slice Ao65 t265.length co65 : Value).ownBlock) (Kd.R_keptB (HO245.out) hkp (fun k_ hk_ hs_ => (hk_.1.1.2) hs_)) (fun k_ hk_ => ⟨hk_.1.1.1.1, hk_.1.1.1.2, hk_.1.1.2, hk_.1.2⟩)); have n2_ := Aside0.mk (Kd.R_mono (ok' := fun k_ => some k_ ≠ (.slice Ao39 t243.length co39 : Value).ownBlock ∧ some k_ ≠ (.slice Ao51 t253.length co51 : Value).ownBlock ∧ some k_ ≠ (.slice Ao60 t258.length co60 : Value).ownBlock ∧ some k_ ≠ (.slice Ao65 t265.length co65 : Value).ownBlock) (Kd.R_keptB (HO249.out) hkp (fun k_ hk_ hs_ => (hk_.1.1.2) hs_)) (fun k_ hk_ => ⟨hk_.1.1.1.1, hk_.1.1.1.2, hk_.1.1.2, hk_.1.2⟩)); have n3_ := Aside0.mk (blk_kept (kz BK251.out) hkp (fun hs_ => (fun e_ => (Kd.R_ne HO255.out BK251.out (by decide)) e_) hs_)); have n4_ := Aside0.mk (Kd.R_reok rfl hy0 (fun k_ e_ => HO255.out.1 k_ e_)); have n5_ := Aside0.mk (blk_kept (kz BK256.out) hkp (fun hs_ => (fun e_ => (Kd.R_ne HO255.out BK256.out (by decide)) e_) hs_)); have n6_ := Aside0.mk (Kd.R_mono (ok' := fun k_ => some k_ ≠ (.slice Ao39 t243.length co39 : Value).ownBlock ∧ some k_ ≠ (.slice Ao44 t247.length co44 : Value).ownBlock ∧ some k_ ≠ (.slice Ao51 t253.length co51 : Value).ownBlock ∧ some k_ ≠ (.slice Ao65 t265.length co65 : Value).ownBlock) (Kd.R_keptB (HO260.out) hkp (fun k_ hk_ hs_ => (hk_.1.2) hs_)) (fun k_ hk_ => ⟨hk_.1.1.1.1.2, hk_.1.1.1.2, hk_.1.1.2, hk_.1.2⟩)); have n7_ := Aside0.mk (blk_kept (kz BK262.out) hkp (fun hs_ => (fun e_ => (Kd.R_ne HO255.out BK262.out (by decide)) e_) hs_)); have n8_ := Aside0.mk (Kd.R_mono (ok' := fun k_ => some k_ ≠ (.slice Ao39 t243.length co39 : Value).ownBlock ∧ some k_ ≠ (.slice Ao44 t247.length co44 : Value).ownBlock ∧ some k_ ≠ (.slice Ao51 t253.length co51 : Value).ownBlock ∧ some k_ ≠ (.slice Ao60 t258.length co60 : Value).ownBlock) (Kd.R_keptB (HO267.out) hkp (fun k_ hk_ hs_ => (hk_.1.2) hs_)) (fun k_ hk_ => ⟨hk_.1.1.1.1.2, hk_.1.1.1.2, hk_.1.1.2, hk_.1.2⟩)); have n9_ := Aside0.mk (hb); clear BK240 HO245 HO249 BK251 HO255 BK256 HO260 BK262 HO267 HB; have BK240 := n0_; have HO245 := n1_; have HO249 := n2_; have BK251 := n3_; have HO255 := n4_; have BK256 := n5_; have HO260 := n6_; have BK262 := n7_; have HO267 := n8_; have HB := n9_; clear n0_ n1_ n2_ n3_ n4_ n5_ n6_ n7_ n8_ n9_; (try clear hb); (try clear hkp); (try clear hy0); have hcz69_0 := cz20 BK262.out; have hcz69_1 := cz21 BK262.out; have hfz69_0 := blk_frozen BK262.out 0; have hfz69_1 := blk_frozen BK262.out 1; have hcz70_0 := cz20 BK251.out; have hcz70_1 := cz21 BK251.out; have hfz70_0 := blk_frozen BK251.out 0; have hfz70_1 := blk_frozen BK251.out 1) | (go_at_call 18; (with_reducible refine (laws_eqMatrix.calls k t257 _ _ t258 t246 _ _ t247 true _ ?side1 ?side2 ?side3 ?side4 A20.out).mono ?_); (case side1 => repeat (first | exact (Kd.R_reads' HO260.out).2.2 | (with_reducible refine Kd.C_alloc ?_ _) | (with_reducible refine Kd.C_drewN ?_ _) | (with_reducible refine Kd.C_drew ?_))); (case side2 => exact (Kd.R_reads' HO260.out).2.1); (case side3 => repeat (first | exact (Kd.R_reads' HO249.out).2.2 | (with_reducible refine Kd.C_alloc ?_ _) | (with_reducible refine Kd.C_drewN ?_ _) | (with_reducible refine Kd.C_drew ?_))); (case side4 => exact (Kd.R_reads' HO249.out).2.1); rintro e w71 ⟨rfl, hb⟩; have n0_ := Aside0.mk (Kd.R_below (rz HO245.out) hb); have n1_ := Aside0.mk (Kd.R_below (rz HO249.out) hb); have n2_ := Aside0.mk (Kd.R_below (rz HO255.out) hb); have n3_ := Aside0.mk (Kd.R_below (rz HO260.out) hb); have n4_ := Aside0.mk (Kd.R_below (rz HO267.out) hb); have n5_ := bk BK240 hb; have n6_ := bk BK251 hb; have n7_ := bk BK256 hb; have n8_ := bk BK262 hb; have n9_ := Aside0.mk (below_step (by repeat (first | (with_reducible first | exact HB.out | apply ba | apply bn | apply bd | refine bs ?_ (by assumption)) | exact HB.out)) hb); clear HO245 HO249 HO255 HO260 HO267 BK240 BK251 BK256 BK262 HB; have HO245 := n0_; have HO249 := n1_; have HO255 := n2_; have HO260 := n3_; have HO267 := n4_; have BK240 := n5_; have BK251 := n6_; have BK256 := n7_; have BK262 := n8_; have HB := n9_; clear n0_ n1_ n2_ n3_ n4_ n5_ n6_ n7_ n8_ n9_; (try clear hb); (try clear hb2); (try clear hk); (try clear hi); have hcz72_0 := cz20 BK262.out; have hcz72_1 := cz21 BK262.out; have hfz72_0 := blk_frozen BK262.out 0; have hfz72_1 := blk_frozen BK262.out 1) | ((with_reducible refine gate_callee (f := 21) rfl ?_); refine goesL_ (some 68) rfl rfl Try.func21 (by kernel_rfl) rfl #[.agg #[.int .i64 t257, .slice Ao60 t258.length co60], .int .i64 1] rfl (by (try simp only [List.map_toArray, List.map_cons, List.map_nil]); first | done | rfl | (simp only [List.length_drop, List.length_take]; rfl)) ?_; (with_reducible refine (laws_markMatrix.calls k t257 (fun k_ => some k_ = (.slice Ao60 t258.length co60 : Value).ownBlock) (.slice Ao60 t258.length co60) t258 1 t272 t273 w _ ?side1 ?side2 A22.out).mono ?_); (case side1 => repeat (first | (with_reducible first | exact HB.out | apply below_alloc | apply pw_below_drewN | apply below_drew1 | refine below_set ?_ GE240.out | refine below_set ?_ GE251.out | refine below_set ?_ GE256.out | refine below_set ?_ GE262.out) | exact HB.out)); (case side2 => exact Kd.R_tight rfl HO260.out); rintro e w73 ⟨rfl, hy0, hb, hkp⟩; refine ⟨_, rfl, ?_⟩; have n0_ := Aside0.mk (blk_kept (kz BK240.out) hkp (fun hs_ => (fun e_ => (Kd.R_ne HO260.out BK240.out (by decide)) e_) hs_)); have n1_ := Aside0.mk (Kd.R_mono (ok' := fun k_ => some k_ ≠ (.slice Ao44 t247.length co44 : Value).ownBlock ∧ some k_ ≠ (.slice Ao51 t253.length co51 : Value).ownBlock ∧ some k_ ≠ (.slice Ao60 t258.length co60 : Value).ownBlock ∧ some k_ ≠ (.slice Ao65 t265.length co65 : Value).ownBlock) (Kd.R_keptB (HO245.out) hkp (fun k_ hk_ hs_ => (hk_.2.2.1) hs_)) (fun k_ hk_ => ⟨hk_.1.1, hk_.1.2.1, hk_.1.2.2.1, hk_.1.2.2.2⟩)); have n2_ := Aside0.mk (Kd.R_mono (ok' := fun k_ => some k_ ≠ (.slice Ao39 t243.length co39 : Value).ownBlock ∧ some k_ ≠ (.slice Ao51 t253.length co51 : Value).ownBlock ∧ some k_ ≠ (.slice Ao60 t258.length co60 : Value).ownBlock ∧ some k_ ≠ (.slice Ao65 t265.length co65 : Value).ownBlock) (Kd.R_keptB (HO249.out) hkp (fun k_ hk_ hs_ => (hk_.2.2.1) hs_)) (fun k_ hk_ => ⟨hk_.1.1, hk_.1.2.1, hk_.1.2.2.1, hk_.1.2.2.2⟩)); have n3_ := Aside0.mk (blk_kept (kz BK251.out) hkp (fun hs_ => (fun e_ => (Kd.R_ne HO260.out BK251.out (by decide)) e_) hs_)); have n4_ := Aside0.mk (Kd.R_mono (ok' := fun k_ => some k_ ≠ (.slice Ao39 t243.length co39 : Value).ownBlock ∧ some k_ ≠ (.slice Ao44 t247.length co44 : Value).ownBlock ∧ some k_ ≠ (.slice Ao60 t258.length co60 : Value).ownBlock ∧ some k_ ≠ (.slice Ao65 t265.length co65 : Value).ownBlock) (Kd.R_keptB (HO255.out) hkp (fun k_ hk_ hs_ => (hk_.1.2) hs_)) (fun k_ hk_ => ⟨hk_.1.1.1.1, hk_.1.1.1.2, hk_.1.1.2, hk_.1.2⟩)); have n5_ := Aside0.mk (blk_kept (kz BK256.out) hkp (fun hs_ => (fun e_ => (Kd.R_ne HO260.out BK256.out (by decide)) e_) hs_)); have n6_ := Aside0.mk (Kd.R_reok rfl hy0 (fun k_ e_ => HO260.out.1 k_ e_)); have n7_ := Aside0.mk (blk_kept (kz BK262.out) hkp (fun hs_ => (fun e_ => (Kd.R_ne HO260.out BK262.out (by decide)) e_) hs_)); have n8_ := Aside0.mk (Kd.R_mono (ok' := fun k_ => some k_ ≠ (.slice Ao39 t243.length co39 : Value).ownBlock ∧ some k_ ≠ (.slice Ao44 t247.length co44 : Value).ownBlock ∧ some k_ ≠ (.slice Ao51 t253.length co51 : Value).ownBlock ∧ some k_ ≠ (.slice Ao60 t258.length co60 : Value).ownBlock) (Kd.R_keptB (HO267.out) hkp (fun k_ hk_ hs_ => (hk_.2.2.2) hs_)) (fun k_ hk_ => ⟨hk_.1.1, hk_.1.2.1, hk_.1.2.2.1, hk_.1.2.2.2⟩)); have n9_ := Aside0.mk (hb); clear BK240 HO245 HO249 BK251 HO255 BK256 HO260 BK262 HO267 HB; have BK240 := n0_; have HO245 := n1_; have HO249 := n2_; have BK251 := n3_; have HO255 := n4_; have BK256 := n5_; have HO260 := n6_; have BK262 := n7_; have HO267 := n8_; have HB := n9_; clear n0_ n1_ n2_ n3_ n4_ n5_ n6_ n7_ n8_ n9_; (try clear hb); (try clear hkp); (try clear hy0); have hcz74_0 := cz20 BK262.out; have hcz74_1 := cz21 BK262.out; have hfz74_0 := blk_frozen BK262.out 0; have hfz74_1 := blk_frozen BK262.out 1) | ((with_reducible refine gate_callee (f := 22) rfl ?_); refine goesL_ (some 71) rfl rfl Try.func22 (by kernel_rfl) rfl #[.agg #[.int .i64 t257, .slice Ao60 t273.length co60], .int .i64 1] rfl (by (try simp only [List.map_toArray, List.map_cons, List.map_nil]); first | done | (rw [show t273.length = t258.length from (Kd.R_reads' HO260.out).1.symm] <;> rfl) | rfl | (simp only [List.length_drop, List.length_take]; rfl)) ?_; (with_reducible refine (laws_heldMatrix.calls k t257 _ _ t273 1 t274 _ ?side1 ?side2 A23.out).mono ?_); (case side1 => repeat (first | exact (Kd.R_reads' HO260.out).2.2 | (with_reducible refine Kd.C_alloc ?_ _) | (with_reducible refine Kd.C_drewN ?_ _) | (with_reducible refine Kd.C_drew ?_))); (case side2 => rw [show t273.length = t258.length from (Kd.R_reads' HO260.out).1.symm]; exact (Kd.R_reads' HO260.out).2.1); rintro e w75 ⟨rfl, hb⟩; refine ⟨_, rfl, ?_⟩; have n0_ := Aside0.mk (Kd.R_below (rz HO245.out) hb); have n1_ := Aside0.mk (Kd.R_below (rz HO249.out) hb); have n2_ := Aside0.mk (Kd.R_below (rz HO255.out) hb); have n3_ := Aside0.mk (Kd.R_below (rz HO260.out) hb); have n4_ := Aside0.mk (Kd.R_below (rz HO267.out) hb); have n5_ := bk BK240 hb; have n6_ := bk BK251 hb; have n7_ := bk BK256 hb; have n8_ := bk BK262 hb; have n9_ := Aside0.mk (below_step (by repeat (first | (with_reducible first | exact HB.out | apply ba | apply bn | apply bd | refine bs ?_ (by assumption)) | exact HB.out)) hb); clear HO245 HO249 HO255 HO260 HO267 BK240 BK251 BK256 BK262 HB; have HO245 := n0_; have HO249 := n1_; have HO255 := n2_; have HO260 := n3_; have HO267 := n4_; have BK240 := n5_; have BK251 := n6_; have BK256 := n7_; have BK262 := n8_; have HB := n9_; clear n0_ n1_ n2_ n3_ n4_ n5_ n6_ n7_ n8_ n9_; (try clear hb); (try clear hb2); (try clear hk); (try clear hi); have hcz76_0 := cz20 BK240.out; have hcz76_1 := cz21 BK240.out; have hfz76_0 := blk_frozen BK240.out 0; have hfz76_1 := blk_frozen BK240.out 1) | ((with_reducible refine gate_callee (f := 16) rfl ?_); refine goesL_ (some 79) rfl rfl Try.func16 (by kernel_rfl) rfl #[.agg #[.int .i64 a0_0, .slice A0_1 l0_1.length c0_1]] rfl (by (try simp only [List.map_toArray, List.map_cons, List.map_nil]); first | done | rfl | (simp only [List.length_drop, List.length_take]; rfl)) ?_; (with_reducible refine (laws_toMatrix.calls k a0_0 _ _ l0_1 t275 t276 _ ?side1 ?side2 A26.out).mono ?_); (case side1 => repeat (first | exact (Kd.C_below HR0_1.out HB.out) | (with_reducible refine Kd.C_alloc ?_ _) | (with_reducible refine Kd.C_drewN ?_ _) | (with_reducible refine Kd.C_drew ?_))); (case side2 => exact HC0_1.out); rintro e w77 ⟨v277, rfl, ho0, hb⟩; refine ⟨_, rfl, ?_⟩; have n0_ := el HO245 (Kd.R_base ho0) hb; have n1_ := el HO249 (Kd.R_base ho0) hb; have n2_ := el HO255 (Kd.R_base ho0) hb; have n3_ := el HO260 (Kd.R_base ho0) hb; have n4_ := el HO267 (Kd.R_base ho0) hb; have n5_ := Aside0.mk (Kd.R_lower (Kd.R_new' (Kd.R_new' (Kd.R_new' (Kd.R_new' (Kd.R_new' ho0 (Kd.R_lt (rz HO245.out))) (Kd.R_lt (rz HO249.out))) (Kd.R_lt (rz HO255.out))) (Kd.R_lt (rz HO260.out))) (Kd.R_lt (rz HO267.out))) (below_size (by repeat (first | (with_reducible first | exact HB.out | apply ba | apply bn | apply bd | refine bs ?_ (by assumption)) | exact HB.out)))); have n6_ := bk BK240 hb; have n7_ := bk BK251 hb; have n8_ := bk BK256 hb; have n9_ := bk BK262 hb; have n10_ := Aside0.mk (below_step (by repeat (first | (with_reducible first | exact HB.out | apply ba | apply bn | apply bd | refine bs ?_ (by assumption)) | exact HB.out)) hb); clear HO245 HO249 HO255 HO260 HO267 BK240 BK251 BK256 BK262 HB; have HO245 := n0_; have HO249 := n1_; have HO255 := n2_; have HO260 := n3_; have HO267 := n4_; have HO278 := n5_; have BK240 := n6_; have BK251 := n7_; have BK256 := n8_; have BK262 := n9_; have HB := n10_; clear n0_ n1_ n2_ n3_ n4_ n5_ n6_ n7_ n8_ n9_ n10_; (try clear hb); (try clear hb2); (try clear hk); (try clear hi); (try clear ho0); obtain ⟨Ao78, co78, eo78⟩ := Kd.R_slice HO278.out; subst eo78) | ((with_reducible refine gate_callee (f := 33) rfl ?_); refine goesL_ (some 81) rfl rfl Try.func33 (by kernel_rfl) rfl #[.agg #[.int .i64 t275, .slice Ao78 t276.length co78], .int .i64 a1] rfl (by (try simp only [List.map_toArray, List.map_cons, List.map_nil]); first | done | rfl | (simp only [List.length_drop, List.length_take]; rfl)) ?_; (with_reducible refine (impl_PowerMatrix.calls k t275 (fun k_ => some k_ = (.slice Ao78 t276.length co78 : Value).ownBlock) _ _ t276 a1 t279 t280 t283 _ ?side1 A27.out).mono ?_); (case side1 => exact Kd.R_V (Kd.R_tight rfl (Kd.R_types (Kd.R_types (Kd.R_types (Kd.R_types (HO278.out) BK240.out (by decide)) BK251.out (by decide)) BK256.out (by decide)) BK262.out (by decide)))); rintro e w79 ⟨v281, rfl, ho0, hb⟩; refine ⟨_, rfl, ?_⟩; have n0_ := el HO245 (Kd.R_base ho0) hb; have n1_ := el HO249 (Kd.R_base ho0) hb; have n2_ := el HO255 (Kd.R_base ho0) hb; have n3_ := el HO260 (Kd.R_base ho0) hb; have n4_ := el HO267 (Kd.R_base ho0) hb; have n5_ := el HO278 (Kd.R_base ho0) hb; have n6_ := Aside0.mk (Kd.R_lower (Kd.R_new' (Kd.R_new' (Kd.R_new' (Kd.R_new' (Kd.R_new' (Kd.R_new' (Kd.R_mono (ok' := fun k_ => True) ho0 (fun _ hk_ => trivial)) (Kd.R_lt (rz HO245.out))) (Kd.R_lt (rz HO249.out))) (Kd.R_lt (rz HO255.out))) (Kd.R_lt (rz HO260.out))) (Kd.R_lt (rz HO267.out))) (Kd.R_lt (rz HO278.out))) (below_size (by repeat (first | (with_reducible first | exact HB.out | apply ba | apply bn | apply bd | refine bs ?_ (by assumption)) | exact HB.out)))); have n7_ := bk BK240 hb; have n8_ := bk BK251 hb; have n9_ := bk BK256 hb; have n10_ := bk BK262 hb; have n11_ := Aside0.mk (below_step (by repeat (first | (with_reducible first | exact HB.out | apply ba | apply bn | apply bd | refine bs ?_ (by assumption)) | exact HB.out)) hb); clear HO245 HO249 HO255 HO260 HO267 HO278 BK240 BK251 BK256 BK262 HB; have HO245 := n0_; have HO249 := n1_; have HO255 := n2_; have HO260 := n3_; have HO267 := n4_; have HO278 := n5_; have HO282 := n6_; have BK240 := n7_; have BK251 := n8_; have BK256 := n9_; have BK262 := n10_; have HB := n11_; clear n0_ n1_ n2_ n3_ n4_ n5_ n6_ n7_ n8_ n9_ n10_ n11_; (try clear hb); (try clear hb2); (try clear hk); (try clear hi); (try clear ho0)) | ((with_reducible refine gate_dst (N := 14) rfl ?_); refine box_event ?hg (N := 14) ?hd (cs := #[.int .i64 0, .slice none 0 0]) (t := 27) ?hr ?_; (case hd => rfl); (case hg => rfl); (case hr => first | (go_simp; done) | (go_simp; rfl)); intro gb284 hg w80 hbox hb; have n0_ := Aside0.mk (Kd.R_below (rz HO245.out) hb); have n1_ := Aside0.mk (Kd.R_below (rz HO249.out) hb); have n2_ := Aside0.mk (Kd.R_below (rz HO255.out) hb); have n3_ := Aside0.mk (Kd.R_below (rz HO260.out) hb); have n4_ := Aside0.mk (Kd.R_below (rz HO267.out) hb); have n5_ := Aside0.mk (Kd.R_below (rz HO278.out) hb); have n6_ := Aside0.mk (Kd.R_below (rz HO282.out) hb); have n7_ := bk BK240 hb; have n8_ := bk BK251 hb; have n9_ := bk BK256 hb; have n10_ := bk BK262 hb; have n11_ := Aside0.mk (below_step (by repeat (first | (with_reducible first | exact HB.out | apply ba | apply bn | apply bd | refine bs ?_ (by assumption)) | exact HB.out)) hb); have n12_ := Aside0.mk (hbox); have n13_ := Aside0.mk ((by rw [hg]; exact (below_size (by repeat (first | (with_reducible first | exact HB.out | apply ba | apply bn | apply bd | refine bs ?_ (by assumption)) | exact HB.out))) : w.heap.size ≤ gb284)); have n14_ := Aside0.mk ((by rw [hg]; exact (below_size (by repeat (first | (with_reducible first | exact HB.out | apply ba | apply bn | apply bd | refine bs ?_ (by assumption)) | exact HB.out))) : w.heap.size ≤ gb284)); have n15_ := Aside0.mk ((by rw [hg]; exact Nat.ne_of_lt (blk_lt (kz BK240.out)) : gb240 ≠ gb284)); have n16_ := Aside0.mk ((by rw [hg]; exact Nat.ne_of_gt (blk_lt (kz BK240.out)) : gb284 ≠ gb240)); have n17_ := Aside0.mk ((by rw [hg]; exact Nat.ne_of_lt (blk_lt (kz BK251.out)) : gb251 ≠ gb284)); have n18_ := Aside0.mk ((by rw [hg]; exact Nat.ne_of_gt (blk_lt (kz BK251.out)) : gb284 ≠ gb251)); have n19_ := Aside0.mk ((by rw [hg]; exact Nat.ne_of_lt (blk_lt (kz BK256.out)) : gb256 ≠ gb284)); have n20_ := Aside0.mk ((by rw [hg]; exact Nat.ne_of_gt (blk_lt (kz BK256.out)) : gb284 ≠ gb256)); have n21_ := Aside0.mk ((by rw [hg]; exact Nat.ne_of_lt (blk_lt (kz BK262.out)) : gb262 ≠ gb284)); have n22_ := Aside0.mk ((by rw [hg]; exact Nat.ne_of_gt (blk_lt (kz BK262.out)) : gb284 ≠ gb262)); clear HO245 HO249 HO255 HO260 HO267 HO278 HO282 BK240 BK251 BK256 BK262 HB; have HO245 := n0_; have HO249 := n1_; have HO255 := n2_; have HO260 := n3_; have HO267 := n4_; have HO278 := n5_; have HO282 := n6_; have BK240 := n7_; have BK251 := n8_; have BK256 := n9_; have BK262 := n10_; have HB := n11_; have BK284 := n12_; have GW284 := n13_; have GE284 := n14_; have NB240_284 := n15_; have NB284_240 := n16_; have NB251_284 := n17_; have NB284_251 := n18_; have NB256_284 := n19_; have NB284_256 := n20_; have NB262_284 := n21_; have NB284_262 := n22_; clear n0_ n1_ n2_ n3_ n4_ n5_ n6_ n7_ n8_ n9_ n10_ n11_ n12_ n13_ n14_ n15_ n16_ n17_ n18_ n19_ n20_ n21_ n22_ hb hbox hg; have hnb81 := NB284_240.out; have hnc81 := NB240_284.out; have hnb82 := NB284_251.out; have hnc82 := NB251_284.out; have hnb83 := NB284_256.out; have hnc83 := NB256_284.out; have hnb84 := NB284_262.out; have hnc84 := NB262_284.out; have hcz85_0 := cz20 BK284.out; have hcz85_1 := cz21 BK284.out; have hfz85_0 := blk_frozen BK284.out 0; have hfz85_1 := blk_frozen BK284.out 1; obtain ⟨Ao86, co86, eo86⟩ := Kd.R_slice HO282.out; subst eo86; have hcz87_0 := cz20 BK251.out; have hcz87_1 := cz21 BK251.out; have hfz87_0 := blk_frozen BK251.out 0; have hfz87_1 := blk_frozen BK251.out 1) | ((with_reducible refine gate_callee (f := 18) rfl ?_); refine goesL_ (some 86) rfl rfl Try.func18 (by kernel_rfl) rfl #[.agg #[.int .i64 t279, .slice Ao86 t280.length co86], .agg #[.int .i64 t246, .slice Ao44 t247.length co44]] rfl (by (try simp only [List.map_toArray, List.map_cons, List.map_nil]); first | done | rfl | (simp only [List.length_drop, List.length_take]; rfl)) ?_; (with_reducible refine (laws_eqMatrix.calls k t279 _ _ t280 t246 _ _ t247 true _ ?side1 ?side2 ?side3 ?side4 A28.out).mono ?_); (case side1 => refine (Kd.R_reads' (e := 3) (base := w.heap.size) (ok := fun k_ => ((((((True ∧ some k_ ≠ (.slice Ao39 t243.length co39 : Value).ownBlock) ∧ some k_ ≠ (.slice Ao44 t247.length co44 : Value).ownBlock) ∧ some k_ ≠ (.slice Ao51 t253.length co51 : Value).ownBlock) ∧ some k_ ≠ (.slice Ao60 t258.length co60 : Value).ownBlock) ∧ some k_ ≠ (.slice Ao65 t265.length co65 : Value).ownBlock) ∧ some k_ ≠ (.slice Ao78 t276.length co78 : Value).ownBlock)) (n := t280.length) (c := co86) ?_).2.2; exact (by (with_reducible repeat (first | apply ra | apply rn | apply rw_)); exact (Kd.R_mono (Kd.R_far (p := ⟨gb284, 1, none⟩) (Kd.R_far (p := ⟨gb284, 0, none⟩) (Kd.R_types HO282.out BK284.out (by decide)) (fun _ hk => hk.2) (.int .i64 t279)) (fun _ hk => hk.2) (.slice Ao86 t280.length co86)) (fun _ h_ => h_.1)))); (case side2 => exact (Kd.R_reads' HO282.out).2.1); (case side3 => refine (Kd.R_reads' (e := 3) (base := w.heap.size) (ok := fun k_ => (((some k_ ≠ (.slice Ao39 t243.length co39 : Value).ownBlock ∧ (some k_ ≠ (.slice Ao51 t253.length co51 : Value).ownBlock ∧ (some k_ ≠ (.slice Ao60 t258.length co60 : Value).ownBlock ∧ some k_ ≠ (.slice Ao65 t265.length co65 : Value).ownBlock))) ∧ some k_ ≠ (.slice Ao78 t276.length co78 : Value).ownBlock) ∧ some k_ ≠ (.slice Ao86 t280.length co86 : Value).ownBlock)) (n := t247.length) (c := co44) ?_).2.2; exact (by (with_reducible repeat (first | apply ra | apply rn | apply rw_)); exact (Kd.R_mono (Kd.R_far (p := ⟨gb284, 1, none⟩) (Kd.R_far (p := ⟨gb284, 0, none⟩) (Kd.R_types HO249.out BK284.out (by decide)) (fun _ hk => hk.2) (.int .i64 t279)) (fun _ hk => hk.2) (.slice Ao86 t280.length co86)) (fun _ h_ => h_.1)))); (case side4 => exact (Kd.R_reads' HO249.out).2.1); rintro e w88 ⟨rfl, hb⟩; refine ⟨_, rfl, ?_⟩; have n0_ := Aside0.mk (Kd.R_below (by (with_reducible repeat (first | apply ra | apply rn | apply rw_)); exact (Kd.R_mono (Kd.R_far (p := ⟨gb284, 1, none⟩) (Kd.R_far (p := ⟨gb284, 0, none⟩) (Kd.R_types HO245.out BK284.out (by decide)) (fun _ hk => hk.2) (.int .i64 t279)) (fun _ hk => hk.2) (.slice Ao86 t280.length co86)) (fun _ h_ => h_.1))) hb); have n1_ := Aside0.mk (Kd.R_below (by (with_reducible repeat (first | apply ra | apply rn | apply rw_)); exact (Kd.R_mono (Kd.R_far (p := ⟨gb284, 1, none⟩) (Kd.R_far (p := ⟨gb284, 0, none⟩) (Kd.R_types HO249.out BK284.out (by decide)) (fun _ hk => hk.2) (.int .i64 t279)) (fun _ hk => hk.2) (.slice Ao86 t280.length co86)) (fun _ h_ => h_.1))) hb); have n2_ := Aside0.mk (Kd.R_below (by (with_reducible repeat (first | apply ra | apply rn | apply rw_)); exact (Kd.R_mono (Kd.R_far (p := ⟨gb284, 1, none⟩) (Kd.R_far (p := ⟨gb284, 0, none⟩) (Kd.R_types HO255.out BK284.out (by decide)) (fun _ hk => hk.2) (.int .i64 t279)) (fun _ hk => hk.2) (.slice Ao86 t280.length co86)) (fun _ h_ => h_.1))) hb); have n3_ := Aside0.mk (Kd.R_below (by (with_reducible repeat (first | apply ra | apply rn | apply rw_)); exact (Kd.R_mono (Kd.R_far (p := ⟨gb284, 1, none⟩) (Kd.R_far (p := ⟨gb284, 0, none⟩) (Kd.R_types HO260.out BK284.out (by decide)) (fun _ hk => hk.2) (.int .i64 t279)) (fun _ hk => hk.2) (.slice Ao86 t280.length co86)) (fun _ h_ => h_.1))) hb); have n4_ := Aside0.mk (Kd.R_below (by (with_reducible repeat (first | apply ra | apply rn | apply rw_)); exact (Kd.R_mono (Kd.R_far (p := ⟨gb284, 1, none⟩) (Kd.R_far (p := ⟨gb284, 0, none⟩) (Kd.R_types HO267.out BK284.out (by decide)) (fun _ hk => hk.2) (.int .i64 t279)) (fun _ hk => hk.2) (.slice Ao86 t280.length co86)) (fun _ h_ => h_.1))) hb); have n5_ := Aside0.mk (Kd.R_below (by (with_reducible repeat (first | apply ra | apply rn | apply rw_)); exact (Kd.R_mono (Kd.R_far (p := ⟨gb284, 1, none⟩) (Kd.R_far (p := ⟨gb284, 0, none⟩) (Kd.R_types HO278.out BK284.out (by decide)) (fun _ hk => hk.2) (.int .i64 t279)) (fun _ hk => hk.2) (.slice Ao86 t280.length co86)) (fun _ h_ => h_.1))) hb); have n6_ := Aside0.mk (Kd.R_below (by (with_reducible repeat (first | apply ra | apply rn | apply rw_)); exact (Kd.R_mono (Kd.R_far (p := ⟨gb284, 1, none⟩) (Kd.R_far (p := ⟨gb284, 0, none⟩) (Kd.R_types HO282.out BK284.out (by decide)) (fun _ hk => hk.2) (.int .i64 t279)) (fun _ hk => hk.2) (.slice Ao86 t280.length co86)) (fun _ h_ => h_.1))) hb); have n7_ := Aside0.mk (blk_below (g := gb240) (o := .cells #[.int .i64 a0_0, .slice A0_1 l0_1.length c0_1] 24 (0, 0)) (by (with_reducible repeat (first | refine kn ?_ _ | refine kd ?_ | refine ka ?_ _)); refine blk_far ?_ NB240_284.out _; (with_reducible repeat (first | refine kn ?_ _ | refine kd ?_ | refine ka ?_ _)); refine blk_far ?_ NB240_284.out _; (with_reducible repeat (first | refine kn ?_ _ | refine kd ?_ | refine ka ?_ _)); exact BK240.out) hb); have n8_ := Aside0.mk (blk_below (g := gb251) (o := .cells #[.int .i64 t246, .slice Ao44 t247.length co44] 27 (0, 0)) (by (with_reducible repeat (first | refine kn ?_ _ | refine kd ?_ | refine ka ?_ _)); refine blk_far ?_ NB251_284.out _; (with_reducible repeat (first | refine kn ?_ _ | refine kd ?_ | refine ka ?_ _)); refine blk_far ?_ NB251_284.out _; (with_reducible repeat (first | refine kn ?_ _ | refine kd ?_ | refine ka ?_ _)); exact BK251.out) hb); have n9_ := Aside0.mk (blk_below (g := gb256) (o := .cells #[.int .i64 t252, .slice Ao51 t253.length co51] 27 (0, 0)) (by (with_reducible repeat (first | refine kn ?_ _ | refine kd ?_ | refine ka ?_ _)); refine blk_far ?_ NB256_284.out _; (with_reducible repeat (first | refine kn ?_ _ | refine kd ?_ | refine ka ?_ _)); refine blk_far ?_ NB256_284.out _; (with_reducible repeat (first | refine kn ?_ _ | refine kd ?_ | refine ka ?_ _)); exact BK256.out) hb); have n10_ := Aside0.mk (blk_below (g := gb262) (o := .cells #[.int .i64 t257, .slice Ao60 t258.length co60] 27 (0, 0)) (by (with_reducible repeat (first | refine kn ?_ _ | refine kd ?_ | refine ka ?_ _)); refine blk_far ?_ NB262_284.out _; (with_reducible repeat (first | refine kn ?_ _ | refine kd ?_ | refine ka ?_ _)); refine blk_far ?_ NB262_284.out _; (with_reducible repeat (first | refine kn ?_ _ | refine kd ?_ | refine ka ?_ _)); exact BK262.out) hb); have n11_ := Aside0.mk (blk_below (g := gb284) (o := .cells #[.int .i64 t279, .slice Ao86 t280.length co86] 27 (0, 0)) (by (with_reducible repeat (first | refine kn ?_ _ | refine kd ?_ | refine ka ?_ _)); refine blk_put (cs := #[.int .i64 t279, .slice none 0 0]) ?_ 1 _ rfl; (with_reducible repeat (first | refine kn ?_ _ | refine kd ?_ | refine ka ?_ _)); refine blk_put (cs := #[.int .i64 0, .slice none 0 0]) ?_ 0 _ rfl; (with_reducible repeat (first | refine kn ?_ _ | refine kd ?_ | refine ka ?_ _)); exact BK284.out) hb); have n12_ := Aside0.mk (below_step (by repeat (first | (with_reducible first | exact HB.out | apply ba | apply bn | apply bd | refine bs ?_ (by assumption)) | exact HB.out)) hb); clear HO245 HO249 HO255 HO260 HO267 HO278 HO282 BK240 BK251 BK256 BK262 BK284 HB; have HO245 := n0_; have HO249 := n1_; have HO255 := n2_; have HO260 := n3_; have HO267 := n4_; have HO278 := n5_; have HO282 := n6_; have BK240 := n7_; have BK251 := n8_; have BK256 := n9_; have BK262 := n10_; have BK284 := n11_; have HB := n12_; clear n0_ n1_ n2_ n3_ n4_ n5_ n6_ n7_ n8_ n9_ n10_ n11_ n12_; (try clear hb); (try clear hb2); (try clear hk); (try clear hi); have hcz89_0 := cz20 BK262.out; have hcz89_1 := cz21 BK262.out; have hfz89_0 := blk_frozen BK262.out 0; have hfz89_1 := blk_frozen BK262.out 1) | ((with_reducible refine gate_callee (f := 22) rfl ?_); refine goesL_ (some 95) rfl rfl Try.func22 (by kernel_rfl) rfl #[.agg #[.int .i64 t257, .slice Ao60 t273.length co60], .int .i64 1] rfl (by (try simp only [List.map_toArray, List.map_cons, List.map_nil]); first | done | (rw [show t273.length = t258.length from (Kd.R_reads' HO260.out).1.symm] <;> rfl) | rfl | (simp only [List.length_drop, List.length_take]; rfl)) ?_; (with_reducible refine (laws_heldMatrix.calls k t257 _ _ t273 1 t286 _ ?side1 ?side2 A31.out).mono ?_); (case side1 => repeat (first | exact (Kd.R_reads' HO260.out).2.2 | (with_reducible refine Kd.C_alloc ?_ _) | (with_reducible refine Kd.C_drewN ?_ _) | (with_reducible refine Kd.C_drew ?_))); (case side2 => rw [show t273.length = t258.length from (Kd.R_reads' HO260.out).1.symm]; exact (Kd.R_reads' HO260.out).2.1); rintro e w90 ⟨rfl, hb⟩; refine ⟨_, rfl, ?_⟩; have n0_ := Aside0.mk (Kd.R_below (rz HO245.out) hb); have n1_ := Aside0.mk (Kd.R_below (rz HO249.out) hb); have n2_ := Aside0.mk (Kd.R_below (rz HO255.out) hb); have n3_ := Aside0.mk (Kd.R_below (rz HO260.out) hb); have n4_ := Aside0.mk (Kd.R_below (rz HO267.out) hb); have n5_ := Aside0.mk (Kd.R_below (rz HO278.out) hb); have n6_ := Aside0.mk (Kd.R_below (rz HO282.out) hb); have n7_ := bk BK240 hb; have n8_ := bk BK251 hb; have n9_ := bk BK256 hb; have n10_ := bk BK262 hb; have n11_ := bk BK284 hb; have n12_ := Aside0.mk (below_step (by repeat (first | (with_reducible first | exact HB.out | apply ba | apply bn | apply bd | refine bs ?_ (by assumption)) | exact HB.out)) hb); clear HO245 HO249 HO255 HO260 HO267 HO278 HO282 BK240 BK251 BK256 BK262 BK284 HB; have HO245 := n0_; have HO249 := n1_; have HO255 := n2_; have HO260 := n3_; have HO267 := n4_; have HO278 := n5_; have HO282 := n6_; have BK240 := n7_; have BK251 := n8_; have BK256 := n9_; have BK262 := n10_; have BK284 := n11_; have HB := n12_; clear n0_ n1_ n2_ n3_ n4_ n5_ n6_ n7_ n8_ n9_ n10_ n11_ n12_; (try clear hb); (try clear hb2); (try clear hk); (try clear hi)))
             go_ret
             exact ⟨by first | rfl | (simp [errW_none, errW_some] <;> rfl) | (simp [*, errW_none, errW_some] <;> rfl), by repeat (first | (with_reducible first | exact HB.out | apply ba | apply bn | apply bd | refine bs ?_ (by assumption)) | exact HB.out)⟩
            ·rw [if_neg c33] at H
             exact absurd H (by simp)
         ·replace c29 := Bool.eq_false_iff.mpr c29
          subst c29
          have H1 : (none) = some r := by rw [if_neg (show ¬ (false = true) by decide)] at H; exact H
          clear H
          have H := H1
          clear H1
          exact absurd H (by simp)
        ·rw [if_neg c25] at H
         exact absurd H (by simp)
      ·replace c21 := Bool.eq_false_iff.mpr c21
       subst c21
       have H1 : (none) = some r := by rw [if_neg (show ¬ (false = true) by decide)] at H; exact H
       clear H
       have H := H1
       clear H1
       exact absurd H (by simp)
    ·replace c17 := Bool.eq_false_iff.mpr c17
     subst c17
     have H1 : (none) = some r := by rw [if_neg (show ¬ (false = true) by decide)] at H; exact H
     clear H
     have H := H1
     clear H1
     exact absurd H (by simp)
  ·replace c13 := Bool.eq_false_iff.mpr c13
   subst c13
   have H1 : (none) = some r := by rw [if_neg (show ¬ (false = true) by decide)] at H; exact H
   clear H
   have H := H1
   clear H1
   exact absurd H (by simp)

/-- THE ONE PURE STATEMENT of laws_FnExactPowerMatrix. -/
def laws_FnExactPowerMatrix.Pure : Prop := ∀ (a0_0 : Int) (l0_1 : List Int) (a1 : Int), (Lit.int .i64 a0_0).wf = true → l0_1.length ≤ maxLen → (∀ x ∈ l0_1, (Lit.int .i64 x).wf = true) → (Lit.int .i64 a1).wf = true → ∃ k, laws_FnExactPowerMatrix.f k a0_0 l0_1 a1 = some true
theorem laws_FnExactPowerMatrix.walk (P : laws_FnExactPowerMatrix.Pure) (a0_0 : Int) (a0_1 : Option Addr) (len0_1 cap0_1 : Nat) (z0_1 : List Int) (a1 : Int) (w : World) (w0_0 : (Lit.int .i64 a0_0).wf = true) (w0_1 : (a0_1 = none ∧ len0_1 = 0 ∧ cap0_1 = 0 ∧ z0_1 = []) ∨ ∃ x, a0_1 = some x ∧ len0_1 ≤ cap0_1 ∧ cap0_1 ≤ maxLen ∧ z0_1.length = cap0_1 ∧ (∀ i, i < z0_1.length → w.cell? (x.add i) = some (.int .i64 (z0_1.getD i 0))) ∧ ∀ n ∈ z0_1, (Lit.int .i64 n).wf = true) (w1 : (Lit.int .i64 a1).wf = true) :
  Calls Try.prog 12 #[.agg #[.int .i64 a0_0, .slice a0_1 len0_1 cap0_1], .int .i64 a1] w fun e w' => e = .returned (.bool true) ∧ Below w.heap.size w w' := by
 obtain ⟨l0_1, rfl, hr0_1, hm0_1, hw0_1, hc0_1⟩ := ReadsInt.ofRowC w0_1
 obtain ⟨k, h⟩ := P a0_0 l0_1 a1 w0_0 hm0_1 hw0_1 w1
 refine (laws_FnExactPowerMatrix.calls k a0_0 _ _ l0_1 a1 true w (Kd.C_of_reads (d := (0 : Int)) (h1 := fun _ => rfl) hr0_1) hc0_1 h).mono ?_
 rintro e w' ⟨rfl, hd⟩
 exact ⟨rfl, hd⟩

end Go.Proofs.Ythojienhgeiknaa.PFnExactPowerMatrix
