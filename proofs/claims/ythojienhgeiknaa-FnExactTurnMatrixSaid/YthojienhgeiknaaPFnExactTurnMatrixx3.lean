-- Written by a program (wip/myprint.py): the machine side of one law: each function that it reaches, as a plain function, and the proof that a call comes to just that.
import Derived.Test.YthojienhgeiknaaPFnExactTurnMatrixx0
import Derived.Test.YthojienhgeiknaaPFnExactTurnMatrixx1
import Derived.Test.YthojienhgeiknaaPFnExactTurnMatrixx2
namespace Go.Proofs.Ythojienhgeiknaa.PFnExactTurnMatrix
open Go.RowKit Go.Proofs.YthojienhgeiknaaW.PrintWords Go.Proofs.YthojienhgeiknaaW.PrintLast Go.Proofs.YthojienhgeiknaaW.PrintMore
attribute [local go_sem] max2_int min2_int max_two min_two max_three min_three max_four min_four   -- for this text's walks alone
set_option linter.unusedVariables false
set_option linter.unusedSimpArgs false

/-! ### impl_Matrix_at: function 52 -/
def impl_Matrix_at.f (a0_0 : Int) (l0_1 : List Int) (a1 : Int) (a2 : Int) : Option (Int) := if 0 ≤ (wrap64 ((wrap64 (a1 * a0_0)) + a2)) then (if (wrap64 ((wrap64 (a1 * a0_0)) + a2)) < (l0_1.length : Int) then (some (rd l0_1 (wrap64 ((wrap64 (a1 * a0_0)) + a2)))) else (none)) else (none)
set_option maxHeartbeats 8000000 in
set_option maxRecDepth 100000 in
theorem impl_Matrix_at.calls (a0_0 : Int) (A0_1 : Option Addr) (c0_1 : Nat) (l0_1 : List Int) (a1 : Int) (a2 : Int) (r : Int) (w : World) (hr0_1 : Kd.C (Kd.int .i64) w A0_1 l0_1.length l0_1) (hc0_1 : l0_1.length ≤ c0_1) (h : impl_Matrix_at.f a0_0 l0_1 a1 a2 = some r) :
  Calls Try.prog 52 #[.agg #[.int .i64 a0_0, .slice A0_1 l0_1.length c0_1], .int .i64 a1, .int .i64 a2] w fun e w' => e = .returned (.int .i64 r) ∧ Below w.heap.size w w' := by
 have hu27 := Try.underlying27
 have HR0_1 := Aside0.mk hr0_1
 have HC0_1 := Aside0.mk hc0_1
 clear hr0_1 hc0_1
 have HB := Aside0.mk (Below.refl w.heap.size w)
 have H : (if 0 ≤ (wrap64 ((wrap64 (a1 * a0_0)) + a2)) then (if (wrap64 ((wrap64 (a1 * a0_0)) + a2)) < (l0_1.length : Int) then (some (rd l0_1 (wrap64 ((wrap64 (a1 * a0_0)) + a2)))) else (none)) else (none)) = some r := h
 clear h
 obtain ⟨ji4, hji4⟩ : ∃ j_ : Int, (wrap64 ((wrap64 (a1 * a0_0)) + a2)) = j_ := ⟨_, rfl⟩
 replace H : (if 0 ≤ (ji4) then (if (ji4) < (l0_1.length : Int) then (some (rd l0_1 (ji4))) else (none)) else (none)) = some r := by first | (rw [hji4] at H; exact H) | (simp only [hji4] at H ⊢; exact H)
 have hji4w : (IntKind.i64.wrap ((wrap64 (a1 * a0_0)) + a2)) = ji4 := (i64_w _).trans hji4
 by_cases c5 : 0 ≤ (ji4)
 ·rw [if_pos c5] at H
  have c5b0 : decide (0 ≤ (ji4)) = true := decide_eq_true c5
  clear c5
  by_cases c6 : (ji4) < (l0_1.length : Int)
  ·rw [if_pos c6] at H
   have c6b0 : decide ((ji4) < (l0_1.length : Int)) = true := decide_eq_true c6
   clear c6
   obtain rfl := Option.some.inj H
   go_enter Try.func52, Try.ntmps52
   go_wp2_with (first | ((with_reducible refine gate_dst (N := 3) rfl ?_); refine box_event ?hg (N := 3) ?hd (cs := #[.int .i64 a0_0, .slice A0_1 l0_1.length c0_1]) (t := 27) ?hr ?_; (case hd => rfl); (case hg => rfl); (case hr => first | (go_simp; done) | (go_simp; rfl)); intro gb146 hg w7 hbox hb; have n0_ := Aside0.mk (below_step (by exact bz HB.out) hb); have n1_ := Aside0.mk (hbox); have n2_ := Aside0.mk ((by rw [hg]; exact (below_size (by exact bz HB.out)) : w.heap.size ≤ gb146)); have n3_ := Aside0.mk ((by rw [hg]; exact (below_size (by exact bz HB.out)) : w.heap.size ≤ gb146)); clear HB; have HB := n0_; have BK146 := n1_; have GW146 := n2_; have GE146 := n3_; clear n0_ n1_ n2_ n3_ hb hbox hg; have hcz8_0 := cz20 BK146.out; have hcz8_1 := cz21 BK146.out; have hfz8_0 := blk_frozen BK146.out 0; have hfz8_1 := blk_frozen BK146.out 1; have p147 : 0 ≤ ((ji4) : Int) := of_decide_eq_true (by first | (with_reducible assumption) | assumption); have q147 : (ji4) < (l0_1.length : Int) := of_decide_eq_true (by first | (with_reducible assumption) | assumption); obtain ⟨ad147, e147, hx147_0⟩ := Kd.at_int HR0_1.out (ji4) p147 q147; cases e147; replace hx147_0 := (HB.out.cell (World.block_lt_of_cell? w _ hx147_0)).trans hx147_0; replace p147 := eq_true p147; replace q147 := eq_true q147))
   go_ret
   exact ⟨by first | rfl | (simp [errW_none, errW_some] <;> rfl) | (simp only [← hji4]; first | rfl | (simp [errW_none, errW_some] <;> rfl)) | (simp [*, errW_none, errW_some] <;> rfl), by repeat (first | (with_reducible first | exact HB.out | apply ba | apply bn | apply bd | refine bs ?_ (by assumption)) | exact HB.out)⟩
  ·rw [if_neg c6] at H
   exact absurd H (by simp)
 ·rw [if_neg c5] at H
  exact absurd H (by simp)

/-! ### impl_TurnMatrix_1: function 51 -/
def impl_TurnMatrix_1.f (a0 : Int) (a1 : Int) (a2_0 : Int) (l2_1 : List Int) : Option (Int) := (impl_Matrix_at.f a2_0 l2_1 a1 a0).bind fun t149 => (some t149)
set_option maxHeartbeats 8000000 in
set_option maxRecDepth 100000 in
theorem impl_TurnMatrix_1.calls (a0 : Int) (a1 : Int) (a2_0 : Int) (A2_1 : Option Addr) (c2_1 : Nat) (l2_1 : List Int) (r : Int) (w : World) (hr2_1 : Kd.C (Kd.int .i64) w A2_1 l2_1.length l2_1) (hc2_1 : l2_1.length ≤ c2_1) (h : impl_TurnMatrix_1.f a0 a1 a2_0 l2_1 = some r) (gb148 : Nat) (hk0_ : w.heap[gb148]? = some (.cells #[.int .i64 a2_0, .slice A2_1 l2_1.length c2_1] 27 (0, 0))) :
  Calls Try.prog 51 #[.int .i64 a0, .int .i64 a1, .pointer (some ⟨gb148, 0, none⟩)] w fun e w' => e = .returned (.int .i64 r) ∧ Below w.heap.size w w' := by
 have hu27 := Try.underlying27
 have HR2_1 := Aside0.mk hr2_1
 have HC2_1 := Aside0.mk hc2_1
 clear hr2_1 hc2_1
 have BK148 := Aside0.mk hk0_
 clear hk0_
 have hcz148_0_ := cz20 BK148.out
 have hfz148_0_ := blk_frozen BK148.out 0
 have hcz148_1_ := cz21 BK148.out
 have hfz148_1_ := blk_frozen BK148.out 1
 have HB := Aside0.mk (Below.refl w.heap.size w)
 have H : ((impl_Matrix_at.f a2_0 l2_1 a1 a0).bind fun t149 => (some t149)) = some r := h
 clear h
 replace H := Option.bind_eq_some_iff.mp H
 obtain ⟨t149, A40, H⟩ := H
 replace H : (some t149) = some r := H
 have A4 := Aside0.mk A40
 clear A40
 obtain rfl := Option.some.inj H
 go_enter Try.func51, Try.ntmps51
 go_wp2_with (first | ((with_reducible refine gate_dst (N := 2) rfl ?_); refine box_event ?hg (N := 2) ?hd (cs := #[.int .i64 a2_0, .slice A2_1 l2_1.length c2_1]) (t := 27) ?hr ?_; (case hd => rfl); (case hg => rfl); (case hr => first | (go_simp; done) | (go_simp; rfl)); intro gb148 hg w hbox hb; have n0_ := Aside0.mk (below_step (by exact bz HB.out) hb); have n1_ := Aside0.mk (hbox); have n2_ := Aside0.mk ((by rw [hg]; exact (below_size (by exact bz HB.out)) : w.heap.size ≤ gb148)); have n3_ := Aside0.mk ((by rw [hg]; exact (below_size (by exact bz HB.out)) : w.heap.size ≤ gb148)); clear HB; have HB := n0_; have BK148 := n1_; have GW148 := n2_; have GE148 := n3_; clear n0_ n1_ n2_ n3_ hb hbox hg; have hcz6_0 := cz20 BK148.out; have hcz6_1 := cz21 BK148.out; have hfz6_0 := blk_frozen BK148.out 0; have hfz6_1 := blk_frozen BK148.out 1) | ((with_reducible refine gate_callee (f := 52) rfl ?_); refine goesL_ (some 9) rfl rfl Try.func52 (by kernel_rfl) rfl #[.agg #[.int .i64 a2_0, .slice A2_1 l2_1.length c2_1], .int .i64 a1, .int .i64 a0] rfl (by (try simp only [List.map_toArray, List.map_cons, List.map_nil]); first | done | rfl | (simp only [List.length_drop, List.length_take]; rfl)) ?_; (with_reducible refine (impl_Matrix_at.calls a2_0 _ _ l2_1 a1 a0 t149 _ ?side1 ?side2 A4.out).mono ?_); (case side1 => repeat (first | exact (Kd.C_below HR2_1.out HB.out) | (with_reducible refine Kd.C_alloc ?_ _) | (with_reducible refine Kd.C_drewN ?_ _) | (with_reducible refine Kd.C_drew ?_))); (case side2 => exact HC2_1.out); rintro e w7 ⟨rfl, hb⟩; refine ⟨_, rfl, ?_⟩; have n0_ := bk BK148 hb; have n1_ := Aside0.mk (below_step (by repeat (first | (with_reducible first | exact HB.out | apply ba | apply bn | apply bd | refine bs ?_ (by assumption)) | exact HB.out)) hb); clear BK148 HB; have BK148 := n0_; have HB := n1_; clear n0_ n1_; (try clear hb); (try clear hb2); (try clear hk); (try clear hi)))
 go_ret
 exact ⟨by first | rfl | (simp [errW_none, errW_some] <;> rfl) | (simp [*, errW_none, errW_some] <;> rfl), by repeat (first | (with_reducible first | exact HB.out | apply ba | apply bn | apply bd | refine bs ?_ (by assumption)) | exact HB.out)⟩

/-! ### impl_filled_at_impl_TurnMatrix_1: function 200002 -/
mutual
def impl_filled_at_impl_TurnMatrix_1.l0 : Nat → Int → Int → Int → Int → List Int → Int → List Int → Option (Int × List Int)
 | 0, _, _, _, _, _, _, _ => none
 | k + 1, x0, x10, x11, x151000, x151001, x153000, x153001 => if x11 < x10 then (impl_filled_at_impl_TurnMatrix_1.l1 k x0 x11 x10 x11 x0 0 x151000 x151001 x153000 x153001) else (some (x153000, x153001))
def impl_filled_at_impl_TurnMatrix_1.l1 : Nat → Int → Int → Int → Int → Int → Int → Int → List Int → Int → List Int → Option (Int × List Int)
 | 0, _, _, _, _, _, _, _, _, _, _ => none
 | k + 1, x0, x6, x10, x11, x14, x15, x151000, x151001, x153000, x153001 => if x15 < x14 then ((impl_TurnMatrix_1.f x6 x15 x151000 x151001).bind fun t153 => (if x153001.length < 17592186044416 then (impl_filled_at_impl_TurnMatrix_1.l1 k x0 x6 x10 x11 x14 (wrap64 (x15 + 1)) x151000 x151001 x153000 (x153001 ++ [t153])) else (none))) else (impl_filled_at_impl_TurnMatrix_1.l0 k x0 x10 (wrap64 (x11 + 1)) x151000 x151001 x153000 x153001)
end
def impl_filled_at_impl_TurnMatrix_1.f (k : Nat) (a0 : Int) (a1_0 : Int) (l1_1 : List Int) : Option (Int × List Int) := impl_filled_at_impl_TurnMatrix_1.l0 k a0 a0 0 a1_0 l1_1 a0 ([] : List Int)
theorem impl_filled_at_impl_TurnMatrix_1.mono_l : ∀ k, (∀ y0 y1 y2 y3 y4 y5 y6, LeO (impl_filled_at_impl_TurnMatrix_1.l0 k y0 y1 y2 y3 y4 y5 y6) (impl_filled_at_impl_TurnMatrix_1.l0 (k + 1) y0 y1 y2 y3 y4 y5 y6)) ∧ (∀ y0 y1 y2 y3 y4 y5 y6 y7 y8 y9, LeO (impl_filled_at_impl_TurnMatrix_1.l1 k y0 y1 y2 y3 y4 y5 y6 y7 y8 y9) (impl_filled_at_impl_TurnMatrix_1.l1 (k + 1) y0 y1 y2 y3 y4 y5 y6 y7 y8 y9))
 | 0 => ⟨fun _ _ _ _ _ _ _ r h => by simp [impl_filled_at_impl_TurnMatrix_1.l0] at h, fun _ _ _ _ _ _ _ _ _ _ r h => by simp [impl_filled_at_impl_TurnMatrix_1.l1] at h⟩
 | k + 1 => by
  obtain ⟨ih0, ih1⟩ := impl_filled_at_impl_TurnMatrix_1.mono_l k
  refine ⟨?_, ?_⟩
  ·intro y0 y1 y2 y3 y4 y5 y6
   unfold impl_filled_at_impl_TurnMatrix_1.l0
   repeat' first
   | (with_reducible exact ih0 _ _ _ _ _ _ _)
   | (with_reducible exact ih1 _ _ _ _ _ _ _ _ _ _)
   | (with_reducible exact LeO.refl _)
   | (with_reducible exact LeO.none _)
   | (with_reducible refine LeO.ite ?_ ?_)
   | (with_reducible refine LeO.bind ?_ (fun _ => ?_))
   | exact ih0 _ _ _ _ _ _ _
   | exact ih1 _ _ _ _ _ _ _ _ _ _
   | exact LeO.none _
   | refine LeO.ite ?_ ?_
   | refine LeO.bind ?_ (fun _ => ?_)
  ·intro y0 y1 y2 y3 y4 y5 y6 y7 y8 y9
   unfold impl_filled_at_impl_TurnMatrix_1.l1
   repeat' first
   | (with_reducible exact ih0 _ _ _ _ _ _ _)
   | (with_reducible exact ih1 _ _ _ _ _ _ _ _ _ _)
   | (with_reducible exact LeO.refl _)
   | (with_reducible exact LeO.none _)
   | (with_reducible refine LeO.ite ?_ ?_)
   | (with_reducible refine LeO.bind ?_ (fun _ => ?_))
   | exact ih0 _ _ _ _ _ _ _
   | exact ih1 _ _ _ _ _ _ _ _ _ _
   | exact LeO.none _
   | refine LeO.ite ?_ ?_
   | refine LeO.bind ?_ (fun _ => ?_)
theorem impl_filled_at_impl_TurnMatrix_1.mono : ∀ a0 a1 a2 k, LeO (impl_filled_at_impl_TurnMatrix_1.f k a0 a1 a2) (impl_filled_at_impl_TurnMatrix_1.f (k + 1) a0 a1 a2) := by
 intro a0 a1 a2 k
 obtain ⟨ih0, ih1⟩ := impl_filled_at_impl_TurnMatrix_1.mono_l k
 unfold impl_filled_at_impl_TurnMatrix_1.f
 repeat' first
   | (with_reducible exact ih0 _ _ _ _ _ _ _)
   | (with_reducible exact ih1 _ _ _ _ _ _ _ _ _ _)
   | (with_reducible exact LeO.refl _)
   | (with_reducible exact LeO.none _)
   | (with_reducible refine LeO.ite ?_ ?_)
   | (with_reducible refine LeO.bind ?_ (fun _ => ?_))
   | exact ih0 _ _ _ _ _ _ _
   | exact ih1 _ _ _ _ _ _ _ _ _ _
   | exact LeO.none _
   | refine LeO.ite ?_ ?_
   | refine LeO.bind ?_ (fun _ => ?_)
def impl_filled_at_impl_TurnMatrix_1.T8 : Bool × List (List Nat × List Nat) := (true, [([], []), ([0], [0]), ([], []), ([], []), ([], []), ([2, 3, 4], [2, 3, 4]), ([5], [5]), ([1, 6, 5], [1, 6]), ([0, 1, 2, 3, 4, 5, 6, 7], []), ([8, 7, 7, 0, 1, 2, 3, 4, 5, 6, 7], [7, 8])])
def impl_filled_at_impl_TurnMatrix_1.B8 : List Nat := [0, 1, 0, 0, 0, 28, 60, 127, 255, 511]
theorem impl_filled_at_impl_TurnMatrix_1.tab8 : rtab .any (opsOf Try.f47 8) = impl_filled_at_impl_TurnMatrix_1.T8 := by kernel_rfl
theorem impl_filled_at_impl_TurnMatrix_1.bits8 : waitsOk impl_filled_at_impl_TurnMatrix_1.T8.2 impl_filled_at_impl_TurnMatrix_1.B8 = true := by kernel_rfl
set_option maxHeartbeats 8000000 in
set_option maxRecDepth 100000 in
theorem impl_filled_at_impl_TurnMatrix_1.calls (k : Nat) (a0 : Int) (a1_0 : Int) (A1_1 : Option Addr) (c1_1 : Nat) (l1_1 : List Int) (r1 : Int) (r2 : List Int) (w : World) (hr1_1 : Kd.C (Kd.int .i64) w A1_1 l1_1.length l1_1) (hc1_1 : l1_1.length ≤ c1_1) (h : impl_filled_at_impl_TurnMatrix_1.f k a0 a1_0 l1_1 = some (r1, r2)) (gb150 : Nat) (hk0_ : w.heap[gb150]? = some (.cells #[.int .i64 a1_0, .slice A1_1 l1_1.length c1_1] 27 (0, 0))) :
  Calls Try.prog 47 #[.int .i64 a0, .func (.func 51) #[] #[.pointer (some ⟨gb150, 0, none⟩)]] w fun e w' => ∃ v1_ : Value, e = .returned (.agg #[.int .i64 r1, v1_]) ∧ Kd.R (Kd.int .i64) 3 w' w.heap.size (fun _ => True) v1_ r2 ∧ Below w.heap.size w w' := by
 have hu27 := Try.underlying27
 have HR1_1 := Aside0.mk hr1_1
 have HC1_1 := Aside0.mk hc1_1
 clear hr1_1 hc1_1
 have BK150 := Aside0.mk hk0_
 clear hk0_
 have hcz150_0_ := cz20 BK150.out
 have hfz150_0_ := blk_frozen BK150.out 0
 have hcz150_1_ := cz21 BK150.out
 have hfz150_1_ := blk_frozen BK150.out 1
 have HB := Aside0.mk (Below.refl w.heap.size w)
 have H : (impl_filled_at_impl_TurnMatrix_1.l0 k a0 a0 0 a1_0 l1_1 a0 ([] : List Int)) = some (r1, r2) := h
 clear h
 have H' := Aside0.mk H
 clear H
 go_enter Try.func47, Try.ntmps47
 go_wp2_with (first | ((with_reducible refine gate_dst (N := 1) rfl ?_); refine box_event ?hg (N := 1) ?hd (cs := #[.int .i64 a1_0, .slice A1_1 l1_1.length c1_1]) (t := 27) ?hr ?_; (case hd => rfl); (case hg => rfl); (case hr => first | (go_simp; done) | (go_simp; rfl)); intro gb150 hg w hbox hb; have n0_ := Aside0.mk (below_step (by exact bz HB.out) hb); have n1_ := Aside0.mk (hbox); have n2_ := Aside0.mk ((by rw [hg]; exact (below_size (by exact bz HB.out)) : w.heap.size ≤ gb150)); have n3_ := Aside0.mk ((by rw [hg]; exact (below_size (by exact bz HB.out)) : w.heap.size ≤ gb150)); clear HB; have HB := n0_; have BK150 := n1_; have GW150 := n2_; have GE150 := n3_; clear n0_ n1_ n2_ n3_; clear hb hbox hg) | ((with_reducible refine gate_dst (N := 4) rfl ?_); refine box_event ?hg (N := 4) ?hd (cs := #[.int .i64 0, .slice none 0 0]) (t := 27) ?hr ?_; (case hd => rfl); (case hg => rfl); (case hr => first | (go_simp; done) | (go_simp; rfl)); intro gb151 hg w4 hbox hb; have n0_ := bk BK150 hb; have n1_ := Aside0.mk (below_step (by repeat (first | (with_reducible first | exact HB.out | apply ba | apply bn | apply bd | refine bs ?_ (by assumption)) | exact HB.out)) hb); have n2_ := Aside0.mk (hbox); have n3_ := Aside0.mk ((by rw [hg]; exact (below_size (by repeat (first | (with_reducible first | exact HB.out | apply ba | apply bn | apply bd | refine bs ?_ (by assumption)) | exact HB.out))) : w.heap.size ≤ gb151)); have n4_ := Aside0.mk ((by rw [hg]; exact (below_size (by repeat (first | (with_reducible first | exact HB.out | apply ba | apply bn | apply bd | refine bs ?_ (by assumption)) | exact HB.out))) : w.heap.size ≤ gb151)); have n5_ := Aside0.mk ((by rw [hg]; exact Nat.ne_of_lt (blk_lt (kz BK150.out)) : gb150 ≠ gb151)); have n6_ := Aside0.mk ((by rw [hg]; exact Nat.ne_of_gt (blk_lt (kz BK150.out)) : gb151 ≠ gb150)); clear BK150 HB; have BK150 := n0_; have HB := n1_; have BK151 := n2_; have GW151 := n3_; have GE151 := n4_; have NB150_151 := n5_; have NB151_150 := n6_; clear n0_ n1_ n2_ n3_ n4_ n5_ n6_; clear hb hbox hg) | ((with_reducible refine gate_dst (N := 5) rfl ?_); refine box_event ?hg (N := 5) ?hd (cs := #[.int .i64 0, .slice none 0 0]) (t := 27) ?hr ?_; (case hd => rfl); (case hg => rfl); (case hr => first | (go_simp; done) | (go_simp; rfl)); intro gb152 hg w5 hbox hb; have n0_ := bk BK150 hb; have n1_ := bk BK151 hb; have n2_ := Aside0.mk (below_step (by repeat (first | (with_reducible first | exact HB.out | apply ba | apply bn | apply bd | refine bs ?_ (by assumption)) | exact HB.out)) hb); have n3_ := Aside0.mk (hbox); have n4_ := Aside0.mk ((by rw [hg]; exact (below_size (by repeat (first | (with_reducible first | exact HB.out | apply ba | apply bn | apply bd | refine bs ?_ (by assumption)) | exact HB.out))) : w.heap.size ≤ gb152)); have n5_ := Aside0.mk ((by rw [hg]; exact (below_size (by repeat (first | (with_reducible first | exact HB.out | apply ba | apply bn | apply bd | refine bs ?_ (by assumption)) | exact HB.out))) : w.heap.size ≤ gb152)); have n6_ := Aside0.mk ((by rw [hg]; exact Nat.ne_of_lt (blk_lt (kz BK150.out)) : gb150 ≠ gb152)); have n7_ := Aside0.mk ((by rw [hg]; exact Nat.ne_of_gt (blk_lt (kz BK150.out)) : gb152 ≠ gb150)); have n8_ := Aside0.mk ((by rw [hg]; exact Nat.ne_of_lt (blk_lt (kz BK151.out)) : gb151 ≠ gb152)); have n9_ := Aside0.mk ((by rw [hg]; exact Nat.ne_of_gt (blk_lt (kz BK151.out)) : gb152 ≠ gb151)); clear BK150 BK151 HB; have BK150 := n0_; have BK151 := n1_; have HB := n2_; have BK152 := n3_; have GW152 := n4_; have GE152 := n5_; have NB150_152 := n6_; have NB152_150 := n7_; have NB151_152 := n8_; have NB152_151 := n9_; clear n0_ n1_ n2_ n3_ n4_ n5_ n6_ n7_ n8_ n9_ hb hbox hg; have hnb6 := NB152_150.out; have hnc6 := NB150_152.out; have hnb7 := NB152_151.out; have hnc7 := NB151_152.out; have hcz8_0 := cz20 BK152.out; have hcz8_1 := cz21 BK152.out; have hfz8_0 := blk_frozen BK152.out 0; have hfz8_1 := blk_frozen BK152.out 1))
 go_loopg [11] k (fun kq v11 w' => ∃ (x11_1 : Int) (x153001_1 : List Int) (u153001 : Value), v11 = .int .i64 x11_1 ∧ Aside0 (impl_filled_at_impl_TurnMatrix_1.l0 kq a0 a0 x11_1 a1_0 l1_1 a0 x153001_1 = some (r1, r2)) ∧ Aside0 (kq ≤ k) ∧ Aside0 (Kd.R (Kd.int .i64) 3 w' w.heap.size (fun _ => True) u153001 x153001_1) ∧ Aside0 (w'.heap[gb150]? = some (.cells #[.int .i64 a1_0, (.slice A1_1 l1_1.length c1_1)] 27 (0, 0))) ∧ Aside0 (w'.heap[gb151]? = some (.cells #[.int .i64 0, (.slice none 0 0)] 27 (0, 0))) ∧ Aside0 (w'.heap[gb152]? = some (.cells #[.int .i64 a0, u153001] 27 (0, 0))) ∧ Aside0 (Below w.heap.size w w'))
 case atStart => exact ⟨(0), (([] : List Int)), (.slice none 0 0), (by first | rfl | (simp; done) | (simp [*]; done)), H', ⟨Nat.le_refl _⟩, ⟨by first | exact Kd.R_nil _ _ _ _ _ | exact Kd.N_nil _ _ _ _ _ | exact Kd.V_nil _ _ _ _ _ | exact Kd.Q_nil _ _ _ _ _ | exact Kd.S_nil _ _ _ _ _⟩, ⟨by (with_reducible repeat (first | refine kn ?_ _ | refine kd ?_ | refine ka ?_ _)); refine blk_far ?_ NB150_152.out _; (with_reducible repeat (first | refine kn ?_ _ | refine kd ?_ | refine ka ?_ _)); refine blk_far ?_ NB150_152.out _; (with_reducible repeat (first | refine kn ?_ _ | refine kd ?_ | refine ka ?_ _)); exact BK150.out⟩, ⟨by (with_reducible repeat (first | refine kn ?_ _ | refine kd ?_ | refine ka ?_ _)); refine blk_far ?_ NB151_152.out _; (with_reducible repeat (first | refine kn ?_ _ | refine kd ?_ | refine ka ?_ _)); refine blk_far ?_ NB151_152.out _; (with_reducible repeat (first | refine kn ?_ _ | refine kd ?_ | refine ka ?_ _)); exact BK151.out⟩, ⟨by (with_reducible repeat (first | refine kn ?_ _ | refine kd ?_ | refine ka ?_ _)); refine blk_put (cs := #[.int .i64 a0, .slice none 0 0]) ?_ 1 _ rfl; (with_reducible repeat (first | refine kn ?_ _ | refine kd ?_ | refine ka ?_ _)); refine blk_put (cs := #[.int .i64 0, .slice none 0 0]) ?_ 0 _ rfl; (with_reducible repeat (first | refine kn ?_ _ | refine kd ?_ | refine ka ?_ _)); exact BK152.out⟩, ⟨by repeat (first | (with_reducible first | exact HB.out | apply ba | apply bn | apply bd | refine bs ?_ (by assumption)) | exact HB.out)⟩⟩
 case round =>
  clear H'
  try clear c1
  try clear c2
  try clear p2
  try clear c6
  try clear c7
  try clear hcz8_0
  try clear hcz8_1
  try clear hfz8_0
  try clear hfz8_1
  obtain ⟨x11_1, x153001_1, u153001, rfl, HA, HK1, HO_153001, BK150, BK151, BK152, HB⟩ := hrel
  cases gk with
  | zero => exact absurd HA.out (by simp [impl_filled_at_impl_TurnMatrix_1.l0])
  | succ k1 =>
   have H := HA.out
   clear HA
   simp only [impl_filled_at_impl_TurnMatrix_1.l0] at H
   by_cases c9 : x11_1 < a0
   ·rw [if_pos c9] at H
    have c9b0 : decide (x11_1 < a0) = true := decide_eq_true c9
    clear c9
    have H' := Aside0.mk H
    clear H
    go_wp2
    go_loopg [15] k1 (fun kq v15 w' => ∃ (x15_2 : Int) (x153001_2 : List Int) (u153001 : Value), v15 = .int .i64 x15_2 ∧ Aside0 (impl_filled_at_impl_TurnMatrix_1.l1 kq a0 x11_1 a0 x11_1 a0 x15_2 a1_0 l1_1 a0 x153001_2 = some (r1, r2)) ∧ Aside0 (kq ≤ k1) ∧ Aside0 (Kd.R (Kd.int .i64) 3 w' w.heap.size (fun _ => True) u153001 x153001_2) ∧ Aside0 (w'.heap[gb150]? = some (.cells #[.int .i64 a1_0, (.slice A1_1 l1_1.length c1_1)] 27 (0, 0))) ∧ Aside0 (w'.heap[gb151]? = some (.cells #[.int .i64 0, (.slice none 0 0)] 27 (0, 0))) ∧ Aside0 (w'.heap[gb152]? = some (.cells #[.int .i64 a0, u153001] 27 (0, 0))) ∧ Aside0 (Below w.heap.size w w'))
    case atStart => exact ⟨(0), (x153001_1), (u153001), (by first | rfl | (simp; done) | (simp [*]; done)), H', ⟨Nat.le_refl _⟩, ⟨rz HO_153001.out⟩, ⟨kz BK150.out⟩, ⟨kz BK151.out⟩, ⟨kz BK152.out⟩, ⟨by repeat (first | (with_reducible first | exact HB.out | apply ba | apply bn | apply bd | refine bs ?_ (by assumption)) | exact HB.out)⟩⟩
    case round =>
     clear H'
     try clear c1
     try clear c2
     try clear p2
     try clear c6
     try clear c7
     try clear c9
     try clear c9b0
     try clear hcz8_0
     try clear hcz8_1
     try clear hfz8_0
     try clear hfz8_1
     try clear p2
     obtain ⟨x15_2, x153001_2, u153001, rfl, HA, HK2, HO_153001, BK150, BK151, BK152, HB⟩ := hrel
     cases gk with
     | zero => exact absurd HA.out (by simp [impl_filled_at_impl_TurnMatrix_1.l1])
     | succ k2 =>
      have H := HA.out
      clear HA
      simp only [impl_filled_at_impl_TurnMatrix_1.l1] at H
      by_cases c10 : x15_2 < a0
      ·rw [if_pos c10] at H
       have c10b0 : decide (x15_2 < a0) = true := decide_eq_true c10
       clear c10
       replace H := Option.bind_eq_some_iff.mp H
       obtain ⟨t153, A110, H⟩ := H
       replace H : (if x153001_2.length < 17592186044416 then (impl_filled_at_impl_TurnMatrix_1.l1 k2 a0 x11_1 a0 x11_1 a0 (wrap64 (x15_2 + 1)) a1_0 l1_1 a0 (x153001_2 ++ [t153])) else (none)) = some (r1, r2) := H
       have A11 := Aside0.mk A110
       clear A110
       by_cases c12 : x153001_2.length < 17592186044416
       ·rw [if_pos c12] at H
        have LMc12 := Aside0.mk c12
        clear c12
        obtain ⟨y154, hy154⟩ : ∃ y_ : List Int, y_ = (x153001_2 ++ [t153]) := ⟨_, rfl⟩
        replace H : (impl_filled_at_impl_TurnMatrix_1.l1 k2 a0 x11_1 a0 x11_1 a0 (wrap64 (x15_2 + 1)) a1_0 l1_1 a0 y154) = some (r1, r2) := by first | (rw [hy154]; with_reducible exact H) | (have H2_ := (Option.bind_some _ _).symm.trans H; rw [hy154]; with_reducible exact H2_) | (have H2_ := (Option.bind_some _ _).symm.trans H; with_reducible exact H2_) | with_reducible exact H | (rw [hy154]; exact H) | exact H
        have Ny154 := Aside0.mk hy154
        clear hy154
        have H' := Aside0.mk H
        clear H
        try go_wp2
        have n0_ := Aside0.mk (Kd.R_drew HO_153001.out)
        have n1_ := Aside0.mk (blk_drew BK150.out)
        have n2_ := Aside0.mk (blk_drew BK151.out)
        have n3_ := Aside0.mk (blk_drew BK152.out)
        have n4_ := Aside0.mk (below_drew1 HB.out)
        clear HO_153001 BK150 BK151 BK152 HB
        have HO_153001 := n0_
        have BK150 := n1_
        have BK151 := n2_
        have BK152 := n3_
        have HB := n4_
        clear n0_ n1_ n2_ n3_ n4_
        refine start_ (n := 10) (S := fun w' => w'.cell? ⟨gb152, 0, none⟩ = some (.int .i64 a0) ∧ w'.cell? ⟨gb152, 1, none⟩ = some (u153001)) (ds := [9]) #[false, false, false, false, false, false, false, false, false, false] (by kernel_rfl) rfl rfl ⟨(blk_cell BK152.out 0).trans rfl, (blk_cell BK152.out 1).trans rfl⟩ (fun hHeld => ?_); refine with_tabW impl_filled_at_impl_TurnMatrix_1.tab8 impl_filled_at_impl_TurnMatrix_1.bits8 (fun HT_ HW_ => ?_)
        generalize wr.drew = w13 at HO_153001 BK150 BK151 BK152 HB hHeld ⊢
        refine pure_ (i := 0) (N := some 18) (v := ?_) (a' := ?_) #[true, false, false, false, false, false, false, false, false, false] rfl rfl (any_of HT_.out (by kernel_rfl)) (fun _ _ _ h => h) (Or.inl ⟨by rfl, ?_⟩) ?_ ?_
        rotate_left
        ·intro w'
         go_simp
         with_reducible rfl
        rotate_left
        ·simp only [Act.put, List.setIfInBounds_toArray, List.set_cons_zero, List.set_cons_succ, i64_w, i32_w]
         rfl
        refine pure_ (i := 2) (N := some 20) (v := ?_) (a' := ?_) #[true, false, true, false, false, false, false, false, false, false] rfl rfl (any_of HT_.out (by kernel_rfl)) (fun _ _ _ h => h) (Or.inl ⟨by rfl, ?_⟩) ?_ ?_
        rotate_left
        ·intro w'
         go_simp
         with_reducible rfl
        rotate_left
        ·simp only [Act.put, List.setIfInBounds_toArray, List.set_cons_zero, List.set_cons_succ, i64_w, i32_w]
         rfl
        refine pure_ (i := 3) (N := some 21) (v := ?_) (a' := ?_) #[true, false, true, true, false, false, false, false, false, false] rfl rfl (any_of HT_.out (by kernel_rfl)) (fun _ _ _ h => h) (Or.inl ⟨by rfl, ?_⟩) ?_ ?_
        rotate_left
        ·intro w'
         go_simp
         with_reducible rfl
        rotate_left
        ·simp only [Act.put, List.setIfInBounds_toArray, List.set_cons_zero, List.set_cons_succ, i64_w, i32_w]
         rfl
        refine pure_ (i := 4) (N := some 22) (v := ?_) (a' := ?_) #[true, false, true, true, true, false, false, false, false, false] rfl rfl (any_of HT_.out (by kernel_rfl)) (fun _ _ _ h => h) (Or.inl ⟨by rfl, ?_⟩) ?_ ?_
        rotate_left
        ·intro w'
         go_simp
         with_reducible rfl
        rotate_left
        ·simp only [Act.put, List.setIfInBounds_toArray, List.set_cons_zero, List.set_cons_succ, i64_w, i32_w]
         rfl
        refine take_ (i := 1) (N := some 19) (v := ?_) (a' := ?_) #[true, true, true, true, true, false, false, false, false, false] rfl rfl (take_ofW HT_.out HW_.out (by kernel_rfl)) (fun _ _ _ h => h) (Or.inl ⟨by rfl, ?_⟩) hHeld ?_ ?_
        rotate_left
        ·rintro w' ⟨s0, s1⟩
         go_simp
         with_reducible rfl
        rotate_left
        ·simp only [Act.put, List.setIfInBounds_toArray, List.set_cons_zero, List.set_cons_succ, i64_w, i32_w]
         rfl
        refine one_ (i := 5) (N := some 23) #[true, true, true, true, true, true, false, false, false, false] rfl rfl (one_of HT_.out (by kernel_rfl)) (by decide) (fun K hK => ?_)
        refine goesV Try.func51 (by kernel_rfl) rfl #[.int .i64 x11_1, .int .i64 x15_2] #[.pointer (some ⟨gb150, 0, none⟩)] #[.int .i64 x11_1, .int .i64 x15_2, .pointer (some ⟨gb150, 0, none⟩)] (by rfl) rfl rfl rfl (by (try simp only [List.map_toArray, List.map_cons, List.map_nil]); first | done | rfl | (simp only [List.length_drop, List.length_take]; rfl)) rfl ?_
        with_reducible refine (impl_TurnMatrix_1.calls x11_1 x15_2 a1_0 _ _ l1_1 t153 _ ?side1 ?side2 A11.out gb150 (kz BK150.out)).mono ?_
        (case side1 => repeat (first | exact (Kd.C_below HR1_1.out HB.out) | (with_reducible refine Kd.C_alloc ?_ _) | (with_reducible refine Kd.C_drewN ?_ _) | (with_reducible refine Kd.C_drew ?_)))
        (case side2 => exact HC1_1.out)
        rintro e w14 ⟨rfl, hb⟩
        refine ⟨_, rfl, ?_⟩
        have n0_ := Aside0.mk (Kd.R_below (rz HO_153001.out) hb)
        have n1_ := bk BK150 hb
        have n2_ := bk BK151 hb
        have n3_ := bk BK152 hb
        have n4_ := Aside0.mk (below_step (by repeat (first | (with_reducible first | exact HB.out | apply ba | apply bn | apply bd | refine bs ?_ (by assumption)) | exact HB.out)) hb)
        clear HO_153001 BK150 BK151 BK152 HB
        have HO_153001 := n0_
        have BK150 := n1_
        have BK151 := n2_
        have BK152 := n3_
        have HB := n4_
        clear n0_ n1_ n2_ n3_ n4_
        (try clear hb)
        (try clear hb2)
        (try clear hk)
        (try clear hi)
        refine hK.out _ _ ⟨(blk_cell BK152.out 0).trans rfl, (blk_cell BK152.out 1).trans rfl⟩ (fun hHeld => ?_)
        clear hK K
        refine norm_ (a' := ?_) ?_ ?_
        rotate_left
        ·show Act.put _ (some 23) _ = _
         simp only [Act.put, List.setIfInBounds_toArray, List.set_cons_zero, List.set_cons_succ, i64_w, i32_w]
         rfl
        refine one_ (i := 6) (N := some 24) #[true, true, true, true, true, true, true, false, false, false] rfl rfl (one_of HT_.out (by kernel_rfl)) (by decide) (fun K hK => ?_)
        refine value_ (w1 := ?_) (v := ?_) (by rfl) rfl ?_ ?_
        rotate_left 2
        ·go_simp
         constructor
         ·rfl
         ·rfl
        refine hK.out _ _ ⟨(blk_cell (blk_alloc BK152.out _) 0).trans rfl, (blk_cell (blk_alloc BK152.out _) 1).trans rfl⟩ (fun hHeld => ?_)
        clear hK K
        refine norm_ (a' := ?_) ?_ ?_
        rotate_left
        ·show Act.put _ (some 24) _ = _
         simp only [Act.put, List.setIfInBounds_toArray, List.set_cons_zero, List.set_cons_succ, i64_w, i32_w]
         rfl
        refine one_ (i := 7) (N := some 25) #[true, true, true, true, true, true, true, true, false, false] rfl rfl (one_of HT_.out (by kernel_rfl)) (by decide) (fun K hK => ?_)
        refine Kd.R_append_step (Kd.int .i64) (w0 := w) w.heap.size (by rfl) (.tmp 19) (.tmp 24) 22 3 (.int .i64 0) 8 rfl Try.underlying22 info3 rfl (by decide) (by omega) u153001 x153001_2 t153 [.int .i64 t153] (fun _ => True) (fun _ => False) rfl rfl ?aP (fun _ hk => hk.elim) ?aF ?aO ?aB ?aS ?aL ?_
        (case aP => exact rfl)
        (case aB => exact (by repeat (first | (with_reducible first | exact HB.out | apply ba | apply bn | apply bd | refine bs ?_ (by assumption)) | exact HB.out)))
        (case aF => exact (fun _ _ => trivial))
        (case aO => exact (rz HO_153001.out))
        (case aS => exact (below_size (by repeat (first | (with_reducible first | exact HB.out | apply ba | apply bn | apply bd | refine bs ?_ (by assumption)) | exact HB.out))))
        (case aL => have := LMc12.out; omega)
        intro v155 w15 ho hb hg hat
        rw [← Ny154.out] at ho
        have n0_ := Aside0.mk (blk_grown (kz BK150.out) hg (Kd.R_ne HO_153001.out BK150.out (by decide)))
        have n1_ := Aside0.mk (blk_grown (kz BK151.out) hg (Kd.R_ne HO_153001.out BK151.out (by decide)))
        have n2_ := Aside0.mk (blk_grown (kz BK152.out) hg (Kd.R_ne HO_153001.out BK152.out (by decide)))
        have n3_ := Aside0.mk (hb)
        have n4_ := Aside0.mk (ho)
        clear BK150 BK151 BK152 HB HO_153001
        have BK150 := n0_
        have BK151 := n1_
        have BK152 := n2_
        have HB := n3_
        have HO156 := n4_
        clear n0_ n1_ n2_ n3_ n4_ ho hb hg hat
        obtain ⟨Ao16, co16, eo16⟩ := Kd.R_slice HO156.out
        (first | subst eo16 | (injection eo16 with f1_ f2_ f3_; have f4_ := f1_.symm; have f5_ := f3_.symm; clear f1_ f2_ f3_; subst f4_; subst f5_))
        refine hK.out _ _ ⟨(blk_cell BK152.out 0).trans rfl, (blk_cell BK152.out 1).trans rfl⟩ (fun hHeld => ?_)
        clear hK K
        refine norm_ (a' := ?_) ?_ ?_
        rotate_left
        ·show Act.put _ (some 25) _ = _
         simp only [Act.put, List.setIfInBounds_toArray, List.set_cons_zero, List.set_cons_succ, i64_w, i32_w]
         rfl
        refine pure_ (i := 8) (N := some 26) (v := ?_) (a' := ?_) #[true, true, true, true, true, true, true, true, true, false] rfl rfl (any_of HT_.out (by kernel_rfl)) (fun _ _ _ h => h) (Or.inl ⟨by rfl, ?_⟩) ?_ ?_
        rotate_left
        ·intro w'
         go_simp
         with_reducible rfl
        rotate_left
        ·simp only [Act.put, List.setIfInBounds_toArray, List.set_cons_zero, List.set_cons_succ, i64_w, i32_w]
         rfl
        refine last_ (i := 9) (N := none) #[true, true, true, true, true, true, true, true, true, true] rfl rfl (one_of HT_.out (by kernel_rfl)) (by decide) (fun K hK => ?_)
        have hs17 : w15.cell? ⟨gb152, 1, none⟩ = some (u153001) := (blk_cell BK152.out 1).trans rfl
        have hfs17 := blk_frozen BK152.out 1
        have hns17_0 := NB150_152.out
        have hns17_1 := NB151_152.out
        have hms17_0 := NB152_150.out
        have hms17_1 := NB152_151.out
        refine skip_ (w1 := ?_) (by rfl) rfl ?_ ?_
        rotate_left
        ·go_simp
         rfl
        refine hK.out _ _ ?_
        clear hK K
        refine done_ (done_of HT_.out (by kernel_rfl)) ?_
        try go_wp2
        go_roundg k2
        case measure => have := HK1.out; have := HK2.out; omega
        case rel => exact ⟨(wrap64 (x15_2 + 1)), (y154), (.slice Ao16 y154.length co16), (by first | rfl | (simp; done) | (simp [*]; done)), H', ⟨by have := HK1.out; have := HK2.out; omega⟩, ⟨by (with_reducible repeat (first | apply ra | apply rn | apply rw_)); exact Kd.R_mono (Kd.R_far (p := ⟨gb152, 1, none⟩) (Kd.R_types HO156.out BK152.out (by decide)) (fun _ hk => hk.2) (.slice Ao16 y154.length co16)) (fun _ hk => trivial)⟩, ⟨by (with_reducible repeat (first | refine kn ?_ _ | refine kd ?_ | refine ka ?_ _)); refine blk_far ?_ NB150_152.out _; (with_reducible repeat (first | refine kn ?_ _ | refine kd ?_ | refine ka ?_ _)); exact BK150.out⟩, ⟨by (with_reducible repeat (first | refine kn ?_ _ | refine kd ?_ | refine ka ?_ _)); refine blk_far ?_ NB151_152.out _; (with_reducible repeat (first | refine kn ?_ _ | refine kd ?_ | refine ka ?_ _)); exact BK151.out⟩, ⟨by (with_reducible repeat (first | refine kn ?_ _ | refine kd ?_ | refine ka ?_ _)); refine blk_put (cs := #[.int .i64 a0, u153001]) ?_ 1 _ rfl; (with_reducible repeat (first | refine kn ?_ _ | refine kd ?_ | refine ka ?_ _)); exact BK152.out⟩, ⟨by repeat (first | (with_reducible first | exact HB.out | apply ba | apply bn | apply bd | refine bs ?_ (by assumption)) | exact HB.out)⟩⟩
       ·rw [if_neg c12] at H
        exact absurd H (by simp)
      ·rw [if_neg c10] at H
       have c10b0 : decide (x15_2 < a0) = false := decide_eq_false c10
       clear c10
       have H' := Aside0.mk H
       clear H
       go_wp2
       go_roundg k2
       case measure => have := HK1.out; have := HK2.out; omega
       case rel => exact ⟨(wrap64 (x11_1 + 1)), (x153001_2), (u153001), (by first | rfl | (simp; done) | (simp [*]; done)), H', ⟨by have := HK1.out; have := HK2.out; omega⟩, ⟨rz HO_153001.out⟩, ⟨kz BK150.out⟩, ⟨kz BK151.out⟩, ⟨kz BK152.out⟩, ⟨by repeat (first | (with_reducible first | exact HB.out | apply ba | apply bn | apply bd | refine bs ?_ (by assumption)) | exact HB.out)⟩⟩
   ·rw [if_neg c9] at H
    have c9b0 : decide (x11_1 < a0) = false := decide_eq_false c9
    clear c9
    simp only [Option.some.injEq, Prod.mk.injEq] at H
    obtain ⟨rfl, rfl⟩ := H
    have hnb18 := NB152_150.out
    have hnc18 := NB150_152.out
    have hnb19 := NB152_151.out
    have hnc19 := NB151_152.out
    have hcz20_0 := cz20 BK152.out
    have hcz20_1 := cz21 BK152.out
    have hfz20_0 := blk_frozen BK152.out 0
    have hfz20_1 := blk_frozen BK152.out 1
    have hnb21 := NB151_150.out
    have hnc21 := NB150_151.out
    have hcz22_0 := cz20 BK151.out
    have hcz22_1 := cz21 BK151.out
    have hfz22_0 := blk_frozen BK151.out 0
    have hfz22_1 := blk_frozen BK151.out 1
    obtain ⟨Ao23, co23, eo23⟩ := Kd.R_slice HO_153001.out
    subst eo23
    go_wp2
    refine bodyPost_ret (results_cell_row rfl _ _ gb151 27 #[.int .i64 a0, .slice Ao23 x153001_1.length co23] (0, 0) _ rfl (by (with_reducible repeat (first | refine kn ?_ _ | refine kd ?_ | refine ka ?_ _)); refine blk_put (cs := #[.int .i64 a0, .slice none 0 0]) ?_ 1 _ rfl; (with_reducible repeat (first | refine kn ?_ _ | refine kd ?_ | refine ka ?_ _)); refine blk_put (cs := #[.int .i64 0, .slice none 0 0]) ?_ 0 _ rfl; (with_reducible repeat (first | refine kn ?_ _ | refine kd ?_ | refine ka ?_ _)); exact BK151.out) Try.underlying27 rfl (by kernel_rfl)) rfl ?_
    exact ⟨_, by first | rfl | (simp [errW_none, errW_some] <;> rfl) | (simp [*, errW_none, errW_some] <;> rfl), by (with_reducible repeat (first | apply ra | apply rn | apply rw_)); exact Kd.R_mono (Kd.R_far (p := ⟨gb151, 1, none⟩) (Kd.R_far (p := ⟨gb151, 0, none⟩) (Kd.R_types HO_153001.out BK151.out (by decide)) (fun _ hk => hk.2) (.int .i64 a0)) (fun _ hk => hk.2) (.slice Ao23 x153001_1.length co23)) (fun _ hk => trivial), by repeat (first | (with_reducible first | exact HB.out | apply ba | apply bn | apply bd | refine bs ?_ (by assumption)) | exact HB.out)⟩

/-! ### impl_TurnMatrix: function 24 -/
def impl_TurnMatrix.f (k : Nat) (a0_0 : Int) (l0_1 : List Int) : Option (Int × List Int × Bool) := (impl_MatrixValid.f k a0_0 l0_1).bind fun t159 => (if t159 = true then ((impl_filled_at_impl_TurnMatrix_1.f k a0_0 a0_0 l0_1).bind fun bt160 => (some (bt160.1, bt160.2, true))) else (some (0, ([] : List Int), false)))
theorem impl_TurnMatrix.mono : ∀ a0 a1 k, LeO (impl_TurnMatrix.f k a0 a1) (impl_TurnMatrix.f (k + 1) a0 a1) := by
 intro a0 a1 k
 unfold impl_TurnMatrix.f
 repeat' first
   | (with_reducible exact impl_MatrixValid.mono _ _ _)
   | (with_reducible exact impl_filled_at_impl_TurnMatrix_1.mono _ _ _ _)
   | (with_reducible exact LeO.refl _)
   | (with_reducible exact LeO.none _)
   | (with_reducible refine LeO.ite ?_ ?_)
   | (with_reducible refine LeO.bind ?_ (fun _ => ?_))
   | exact impl_MatrixValid.mono _ _ _
   | exact impl_filled_at_impl_TurnMatrix_1.mono _ _ _ _
   | exact LeO.none _
   | refine LeO.ite ?_ ?_
   | refine LeO.bind ?_ (fun _ => ?_)
set_option maxHeartbeats 8000000 in
set_option maxRecDepth 100000 in
theorem impl_TurnMatrix.calls (k : Nat) (a0_0 : Int) (A0_1 : Option Addr) (c0_1 : Nat) (l0_1 : List Int) (r1 : Int) (r2 : List Int) (r3 : Bool) (w : World) (hr0_1 : Kd.C (Kd.int .i64) w A0_1 l0_1.length l0_1) (hc0_1 : l0_1.length ≤ c0_1) (h : impl_TurnMatrix.f k a0_0 l0_1 = some (r1, r2, r3)) :
  Calls Try.prog 24 #[.agg #[.int .i64 a0_0, .slice A0_1 l0_1.length c0_1]] w fun e w' => ∃ v1_ : Value, e = .returned (.tuple #[.agg #[.int .i64 r1, v1_], .bool r3]) ∧ Kd.R (Kd.int .i64) 3 w' w.heap.size (fun _ => True) v1_ r2 ∧ Below w.heap.size w w' := by
 have hu27 := Try.underlying27
 have HR0_1 := Aside0.mk hr0_1
 have HC0_1 := Aside0.mk hc0_1
 clear hr0_1 hc0_1
 have HB := Aside0.mk (Below.refl w.heap.size w)
 have H : ((impl_MatrixValid.f k a0_0 l0_1).bind fun t159 => (if t159 = true then ((impl_filled_at_impl_TurnMatrix_1.f k a0_0 a0_0 l0_1).bind fun bt160 => (some (bt160.1, bt160.2, true))) else (some (0, ([] : List Int), false)))) = some (r1, r2, r3) := h
 clear h
 replace H := Option.bind_eq_some_iff.mp H
 obtain ⟨t159, A20, H⟩ := H
 replace H : (if t159 = true then ((impl_filled_at_impl_TurnMatrix_1.f k a0_0 a0_0 l0_1).bind fun bt160 => (some (bt160.1, bt160.2, true))) else (some (0, ([] : List Int), false))) = some (r1, r2, r3) := H
 have A2 := Aside0.mk A20
 clear A20
 by_cases c3 : t159 = true
 ·subst c3
  have H1 : ((impl_filled_at_impl_TurnMatrix_1.f k a0_0 a0_0 l0_1).bind fun bt160 => (some (bt160.1, bt160.2, true))) = some (r1, r2, r3) := by rw [if_pos rfl] at H; exact H
  clear H
  have H := H1
  clear H1
  replace H := Option.bind_eq_some_iff.mp H
  obtain ⟨⟨t160, t161⟩, A40, H⟩ := H
  replace H : (some (t160, t161, true)) = some (r1, r2, r3) := H
  have A4 := Aside0.mk A40
  clear A40
  simp only [Option.some.injEq, Prod.mk.injEq] at H
  obtain ⟨rfl, rfl, rfl⟩ := H
  go_enter Try.func24, Try.ntmps24
  go_wp2_with (first | ((with_reducible refine gate_dst (N := 1) rfl ?_); refine box_event ?hg (N := 1) ?hd (cs := #[.int .i64 a0_0, .slice A0_1 l0_1.length c0_1]) (t := 27) ?hr ?_; (case hd => rfl); (case hg => rfl); (case hr => first | (go_simp; done) | (go_simp; rfl)); intro gb157 hg w5 hbox hb; have n0_ := Aside0.mk (below_step (by exact bz HB.out) hb); have n1_ := Aside0.mk (hbox); have n2_ := Aside0.mk ((by rw [hg]; exact (below_size (by exact bz HB.out)) : w.heap.size ≤ gb157)); have n3_ := Aside0.mk ((by rw [hg]; exact (below_size (by exact bz HB.out)) : w.heap.size ≤ gb157)); clear HB; have HB := n0_; have BK157 := n1_; have GW157 := n2_; have GE157 := n3_; clear n0_ n1_ n2_ n3_; clear hb hbox hg) | ((with_reducible refine gate_dst (N := 2) rfl ?_); refine box_event ?hg (N := 2) ?hd (cs := #[.int .i64 0, .slice none 0 0]) (t := 27) ?hr ?_; (case hd => rfl); (case hg => rfl); (case hr => first | (go_simp; done) | (go_simp; rfl)); intro gb158 hg w6 hbox hb; have n0_ := bk BK157 hb; have n1_ := Aside0.mk (below_step (by repeat (first | (with_reducible first | exact HB.out | apply ba | apply bn | apply bd | refine bs ?_ (by assumption)) | exact HB.out)) hb); have n2_ := Aside0.mk (hbox); have n3_ := Aside0.mk ((by rw [hg]; exact (below_size (by repeat (first | (with_reducible first | exact HB.out | apply ba | apply bn | apply bd | refine bs ?_ (by assumption)) | exact HB.out))) : w.heap.size ≤ gb158)); have n4_ := Aside0.mk ((by rw [hg]; exact (below_size (by repeat (first | (with_reducible first | exact HB.out | apply ba | apply bn | apply bd | refine bs ?_ (by assumption)) | exact HB.out))) : w.heap.size ≤ gb158)); have n5_ := Aside0.mk ((by rw [hg]; exact Nat.ne_of_lt (blk_lt (kz BK157.out)) : gb157 ≠ gb158)); have n6_ := Aside0.mk ((by rw [hg]; exact Nat.ne_of_gt (blk_lt (kz BK157.out)) : gb158 ≠ gb157)); clear BK157 HB; have BK157 := n0_; have HB := n1_; have BK158 := n2_; have GW158 := n3_; have GE158 := n4_; have NB157_158 := n5_; have NB158_157 := n6_; clear n0_ n1_ n2_ n3_ n4_ n5_ n6_ hb hbox hg; have hnb7 := NB157_158.out; have hnc7 := NB158_157.out; have hcz8_0 := cz20 BK157.out; have hcz8_1 := cz21 BK157.out; have hfz8_0 := blk_frozen BK157.out 0; have hfz8_1 := blk_frozen BK157.out 1) | ((with_reducible refine gate_callee (f := 17) rfl ?_); refine goesL_ (some 5) rfl rfl Try.func17 (by kernel_rfl) rfl #[.agg #[.int .i64 a0_0, .slice A0_1 l0_1.length c0_1]] rfl (by (try simp only [List.map_toArray, List.map_cons, List.map_nil]); first | done | rfl | (simp only [List.length_drop, List.length_take]; rfl)) ?_; (with_reducible refine (impl_MatrixValid.calls k a0_0 _ _ l0_1 true _ ?side1 ?side2 A2.out).mono ?_); (case side1 => repeat (first | exact (Kd.C_below HR0_1.out HB.out) | (with_reducible refine Kd.C_alloc ?_ _) | (with_reducible refine Kd.C_drewN ?_ _) | (with_reducible refine Kd.C_drew ?_))); (case side2 => exact HC0_1.out); rintro e w9 ⟨rfl, hb⟩; refine ⟨_, rfl, ?_⟩; have n0_ := bk BK157 hb; have n1_ := bk BK158 hb; have n2_ := Aside0.mk (below_step (by repeat (first | (with_reducible first | exact HB.out | apply ba | apply bn | apply bd | refine bs ?_ (by assumption)) | exact HB.out)) hb); clear BK157 BK158 HB; have BK157 := n0_; have BK158 := n1_; have HB := n2_; clear n0_ n1_ n2_; (try clear hb); (try clear hb2); (try clear hk); (try clear hi); have hcz10_0 := cz20 BK157.out; have hcz10_1 := cz21 BK157.out; have hfz10_0 := blk_frozen BK157.out 0; have hfz10_1 := blk_frozen BK157.out 1) | ((with_reducible refine gate_callee (f := 47) rfl ?_); refine goesL_ (some 11) rfl rfl Try.func47 (by kernel_rfl) rfl #[.int .i64 a0_0, .func (.func 51) #[] #[.pointer (some ⟨gb157, 0, none⟩)]] rfl (by (try simp only [List.map_toArray, List.map_cons, List.map_nil]); first | done | rfl | (simp only [List.length_drop, List.length_take]; rfl)) ?_; (with_reducible refine (impl_filled_at_impl_TurnMatrix_1.calls k a0_0 a0_0 _ _ l0_1 t160 t161 _ ?side1 ?side2 A4.out gb157 (kz BK157.out)).mono ?_); (case side1 => repeat (first | exact (Kd.C_below HR0_1.out HB.out) | (with_reducible refine Kd.C_alloc ?_ _) | (with_reducible refine Kd.C_drewN ?_ _) | (with_reducible refine Kd.C_drew ?_))); (case side2 => exact HC0_1.out); rintro e w11 ⟨v162, rfl, ho0, hb⟩; refine ⟨_, rfl, ?_⟩; have n0_ := Aside0.mk (Kd.R_lower ho0 (below_size (by repeat (first | (with_reducible first | exact HB.out | apply ba | apply bn | apply bd | refine bs ?_ (by assumption)) | exact HB.out)))); have n1_ := bk BK157 hb; have n2_ := bk BK158 hb; have n3_ := Aside0.mk (below_step (by repeat (first | (with_reducible first | exact HB.out | apply ba | apply bn | apply bd | refine bs ?_ (by assumption)) | exact HB.out)) hb); clear BK157 BK158 HB; have HO163 := n0_; have BK157 := n1_; have BK158 := n2_; have HB := n3_; clear n0_ n1_ n2_ n3_; (try clear hb); (try clear hb2); (try clear hk); (try clear hi); (try clear ho0); have hcz12_0 := cz20 BK158.out; have hcz12_1 := cz21 BK158.out; have hfz12_0 := blk_frozen BK158.out 0; have hfz12_1 := blk_frozen BK158.out 1; obtain ⟨Ao13, co13, eo13⟩ := Kd.R_slice HO163.out; subst eo13))
  refine bodyPost_ret (results_ct rfl _ _ gb158 27 #[.int .i64 t160, .slice Ao13 t161.length co13] (0, 0) _ rfl (by (with_reducible repeat (first | refine kn ?_ _ | refine kd ?_ | refine ka ?_ _)); refine blk_put (cs := #[.int .i64 t160, .slice none 0 0]) ?_ 1 _ rfl; (with_reducible repeat (first | refine kn ?_ _ | refine kd ?_ | refine ka ?_ _)); refine blk_put (cs := #[.int .i64 0, .slice none 0 0]) ?_ 0 _ rfl; (with_reducible repeat (first | refine kn ?_ _ | refine kd ?_ | refine ka ?_ _)); exact BK158.out) Try.underlying27 rfl (by kernel_rfl)) rfl ?_
  exact ⟨_, by first | rfl | (simp [errW_none, errW_some] <;> rfl) | (simp [*, errW_none, errW_some] <;> rfl), by (with_reducible repeat (first | apply ra | apply rn | apply rw_)); exact Kd.R_mono (Kd.R_far (p := ⟨gb158, 1, none⟩) (Kd.R_far (p := ⟨gb158, 0, none⟩) (Kd.R_types HO163.out BK158.out (by decide)) (fun _ hk => hk.2) (.int .i64 t160)) (fun _ hk => hk.2) (.slice Ao13 t161.length co13)) (fun _ hk => trivial), by repeat (first | (with_reducible first | exact HB.out | apply ba | apply bn | apply bd | refine bs ?_ (by assumption)) | exact HB.out)⟩
 ·replace c3 := Bool.eq_false_iff.mpr c3
  subst c3
  have H1 : (some (0, ([] : List Int), false)) = some (r1, r2, r3) := by rw [if_neg (show ¬ (false = true) by decide)] at H; exact H
  clear H
  have H := H1
  clear H1
  simp only [Option.some.injEq, Prod.mk.injEq] at H
  obtain ⟨rfl, rfl, rfl⟩ := H
  go_enter Try.func24, Try.ntmps24
  go_wp2_with (first | ((with_reducible refine gate_dst (N := 1) rfl ?_); refine box_event ?hg (N := 1) ?hd (cs := #[.int .i64 a0_0, .slice A0_1 l0_1.length c0_1]) (t := 27) ?hr ?_; (case hd => rfl); (case hg => rfl); (case hr => first | (go_simp; done) | (go_simp; rfl)); intro gb157 hg w14 hbox hb; have n0_ := Aside0.mk (below_step (by exact bz HB.out) hb); have n1_ := Aside0.mk (hbox); have n2_ := Aside0.mk ((by rw [hg]; exact (below_size (by exact bz HB.out)) : w.heap.size ≤ gb157)); have n3_ := Aside0.mk ((by rw [hg]; exact (below_size (by exact bz HB.out)) : w.heap.size ≤ gb157)); clear HB; have HB := n0_; have BK157 := n1_; have GW157 := n2_; have GE157 := n3_; clear n0_ n1_ n2_ n3_; clear hb hbox hg) | ((with_reducible refine gate_dst (N := 2) rfl ?_); refine box_event ?hg (N := 2) ?hd (cs := #[.int .i64 0, .slice none 0 0]) (t := 27) ?hr ?_; (case hd => rfl); (case hg => rfl); (case hr => first | (go_simp; done) | (go_simp; rfl)); intro gb158 hg w15 hbox hb; have n0_ := bk BK157 hb; have n1_ := Aside0.mk (below_step (by repeat (first | (with_reducible first | exact HB.out | apply ba | apply bn | apply bd | refine bs ?_ (by assumption)) | exact HB.out)) hb); have n2_ := Aside0.mk (hbox); have n3_ := Aside0.mk ((by rw [hg]; exact (below_size (by repeat (first | (with_reducible first | exact HB.out | apply ba | apply bn | apply bd | refine bs ?_ (by assumption)) | exact HB.out))) : w.heap.size ≤ gb158)); have n4_ := Aside0.mk ((by rw [hg]; exact (below_size (by repeat (first | (with_reducible first | exact HB.out | apply ba | apply bn | apply bd | refine bs ?_ (by assumption)) | exact HB.out))) : w.heap.size ≤ gb158)); have n5_ := Aside0.mk ((by rw [hg]; exact Nat.ne_of_lt (blk_lt (kz BK157.out)) : gb157 ≠ gb158)); have n6_ := Aside0.mk ((by rw [hg]; exact Nat.ne_of_gt (blk_lt (kz BK157.out)) : gb158 ≠ gb157)); clear BK157 HB; have BK157 := n0_; have HB := n1_; have BK158 := n2_; have GW158 := n3_; have GE158 := n4_; have NB157_158 := n5_; have NB158_157 := n6_; clear n0_ n1_ n2_ n3_ n4_ n5_ n6_ hb hbox hg; have hnb16 := NB157_158.out; have hnc16 := NB158_157.out; have hcz17_0 := cz20 BK157.out; have hcz17_1 := cz21 BK157.out; have hfz17_0 := blk_frozen BK157.out 0; have hfz17_1 := blk_frozen BK157.out 1) | ((with_reducible refine gate_callee (f := 17) rfl ?_); refine goesL_ (some 5) rfl rfl Try.func17 (by kernel_rfl) rfl #[.agg #[.int .i64 a0_0, .slice A0_1 l0_1.length c0_1]] rfl (by (try simp only [List.map_toArray, List.map_cons, List.map_nil]); first | done | rfl | (simp only [List.length_drop, List.length_take]; rfl)) ?_; (with_reducible refine (impl_MatrixValid.calls k a0_0 _ _ l0_1 false _ ?side1 ?side2 A2.out).mono ?_); (case side1 => repeat (first | exact (Kd.C_below HR0_1.out HB.out) | (with_reducible refine Kd.C_alloc ?_ _) | (with_reducible refine Kd.C_drewN ?_ _) | (with_reducible refine Kd.C_drew ?_))); (case side2 => exact HC0_1.out); rintro e w18 ⟨rfl, hb⟩; refine ⟨_, rfl, ?_⟩; have n0_ := bk BK157 hb; have n1_ := bk BK158 hb; have n2_ := Aside0.mk (below_step (by repeat (first | (with_reducible first | exact HB.out | apply ba | apply bn | apply bd | refine bs ?_ (by assumption)) | exact HB.out)) hb); clear BK157 BK158 HB; have BK157 := n0_; have BK158 := n1_; have HB := n2_; clear n0_ n1_ n2_; (try clear hb); (try clear hb2); (try clear hk); (try clear hi); have hcz19_0 := cz20 BK158.out; have hcz19_1 := cz21 BK158.out; have hfz19_0 := blk_frozen BK158.out 0; have hfz19_1 := blk_frozen BK158.out 1))
  refine bodyPost_ret (results_ct rfl _ _ gb158 27 #[.int .i64 0, .slice none 0 0] (0, 0) _ rfl (by (with_reducible repeat (first | refine kn ?_ _ | refine kd ?_ | refine ka ?_ _)); refine blk_put (cs := #[.int .i64 0, .slice none 0 0]) ?_ 1 _ rfl; (with_reducible repeat (first | refine kn ?_ _ | refine kd ?_ | refine ka ?_ _)); refine blk_put (cs := #[.int .i64 0, .slice none 0 0]) ?_ 0 _ rfl; (with_reducible repeat (first | refine kn ?_ _ | refine kd ?_ | refine ka ?_ _)); exact BK158.out) Try.underlying27 rfl (by kernel_rfl)) rfl ?_
  exact ⟨_, by first | rfl | (simp [errW_none, errW_some] <;> rfl) | (simp [*, errW_none, errW_some] <;> rfl), by first | exact Kd.R_nil _ _ _ _ _ | exact Kd.N_nil _ _ _ _ _ | exact Kd.V_nil _ _ _ _ _ | exact Kd.Q_nil _ _ _ _ _ | exact Kd.S_nil _ _ _ _ _, by repeat (first | (with_reducible first | exact HB.out | apply ba | apply bn | apply bd | refine bs ?_ (by assumption)) | exact HB.out)⟩

/-! ### laws_FnExactTurnMatrix: function 5 -/
def laws_FnExactTurnMatrix.f (k : Nat) (a0_0 : Int) (l0_1 : List Int) : Option (Bool) := (laws_szMatrix.f a0_0 l0_1 1048576).bind fun t165 => (if t165 < 0 then (some true) else ((laws_toMatrix.f k a0_0 l0_1).bind fun bt166 => ((spec_TurnMatrix.f k bt166.1 bt166.2).bind fun bt170 => ((laws_toMatrix.f k a0_0 l0_1).bind fun bt176 => ((impl_TurnMatrix.f k bt176.1 bt176.2).bind fun bt181 => ((laws_eqMatrix.f k bt181.1 bt181.2.1 bt170.1 bt170.2.1).bind fun t187 => (if t187 = true then (if (bt181.2.2 != bt170.2.2) = true then (none) else ((laws_toMatrix.f k a0_0 l0_1).bind fun bt188 => ((laws_eqMatrix.f k bt176.1 bt176.2 bt188.1 bt188.2).bind fun t192 => (if t192 = true then ((laws_markMatrix.f k bt176.1 bt176.2 1).bind fun bt193 => (if bt193.1 < 0 then (none) else ((laws_eqMatrix.f k bt181.1 bt181.2.1 bt170.1 bt170.2.1).bind fun t195 => (if t195 = true then ((laws_markMatrix.f k bt181.1 bt181.2.1 1).bind fun bt196 => ((laws_heldMatrix.f k bt181.1 bt196.2 1).bind fun t198 => (if t198 < 0 then (none) else (if t198 = bt196.1 then ((laws_toMatrix.f k a0_0 l0_1).bind fun bt199 => ((impl_TurnMatrix.f k bt199.1 bt199.2).bind fun bt203 => ((laws_eqMatrix.f k bt203.1 bt203.2.1 bt170.1 bt170.2.1).bind fun t209 => (if t209 = true then (if (bt203.2.2 != bt170.2.2) = true then (none) else ((laws_heldMatrix.f k bt181.1 bt196.2 1).bind fun t210 => (if t210 < 0 then (none) else (if t210 = bt196.1 then (some true) else (none))))) else (none))))) else (none))))) else (none))))) else (none))))) else (none))))))))
theorem laws_FnExactTurnMatrix.mono : ∀ a0 a1 k, LeO (laws_FnExactTurnMatrix.f k a0 a1) (laws_FnExactTurnMatrix.f (k + 1) a0 a1) := by
 intro a0 a1 k
 unfold laws_FnExactTurnMatrix.f
 repeat' first
   | (with_reducible exact impl_TurnMatrix.mono _ _ _)
   | (with_reducible exact laws_eqMatrix.mono _ _ _ _ _)
   | (with_reducible exact laws_heldMatrix.mono _ _ _ _)
   | (with_reducible exact laws_markMatrix.mono _ _ _ _)
   | (with_reducible exact laws_toMatrix.mono _ _ _)
   | (with_reducible exact spec_TurnMatrix.mono _ _ _)
   | (with_reducible exact LeO.refl _)
   | (with_reducible exact LeO.none _)
   | (with_reducible refine LeO.ite ?_ ?_)
   | (with_reducible refine LeO.bind ?_ (fun _ => ?_))
   | exact impl_TurnMatrix.mono _ _ _
   | exact laws_eqMatrix.mono _ _ _ _ _
   | exact laws_heldMatrix.mono _ _ _ _
   | exact laws_markMatrix.mono _ _ _ _
   | exact laws_toMatrix.mono _ _ _
   | exact spec_TurnMatrix.mono _ _ _
   | exact LeO.none _
   | refine LeO.ite ?_ ?_
   | refine LeO.bind ?_ (fun _ => ?_)
set_option maxHeartbeats 8000000 in
set_option maxRecDepth 100000 in
theorem laws_FnExactTurnMatrix.calls (k : Nat) (a0_0 : Int) (A0_1 : Option Addr) (c0_1 : Nat) (l0_1 : List Int) (r : Bool) (w : World) (hr0_1 : Kd.C (Kd.int .i64) w A0_1 l0_1.length l0_1) (hc0_1 : l0_1.length ≤ c0_1) (h : laws_FnExactTurnMatrix.f k a0_0 l0_1 = some r) :
  Calls Try.prog 5 #[.agg #[.int .i64 a0_0, .slice A0_1 l0_1.length c0_1]] w fun e w' => e = .returned (.bool r) ∧ Below w.heap.size w w' := by
 have hu24 := Try.underlying24
 have hu27 := Try.underlying27
 have HR0_1 := Aside0.mk hr0_1
 have HC0_1 := Aside0.mk hc0_1
 clear hr0_1 hc0_1
 have HB := Aside0.mk (Below.refl w.heap.size w)
 have H : ((laws_szMatrix.f a0_0 l0_1 1048576).bind fun t165 => (if t165 < 0 then (some true) else ((laws_toMatrix.f k a0_0 l0_1).bind fun bt166 => ((spec_TurnMatrix.f k bt166.1 bt166.2).bind fun bt170 => ((laws_toMatrix.f k a0_0 l0_1).bind fun bt176 => ((impl_TurnMatrix.f k bt176.1 bt176.2).bind fun bt181 => ((laws_eqMatrix.f k bt181.1 bt181.2.1 bt170.1 bt170.2.1).bind fun t187 => (if t187 = true then (if (bt181.2.2 != bt170.2.2) = true then (none) else ((laws_toMatrix.f k a0_0 l0_1).bind fun bt188 => ((laws_eqMatrix.f k bt176.1 bt176.2 bt188.1 bt188.2).bind fun t192 => (if t192 = true then ((laws_markMatrix.f k bt176.1 bt176.2 1).bind fun bt193 => (if bt193.1 < 0 then (none) else ((laws_eqMatrix.f k bt181.1 bt181.2.1 bt170.1 bt170.2.1).bind fun t195 => (if t195 = true then ((laws_markMatrix.f k bt181.1 bt181.2.1 1).bind fun bt196 => ((laws_heldMatrix.f k bt181.1 bt196.2 1).bind fun t198 => (if t198 < 0 then (none) else (if t198 = bt196.1 then ((laws_toMatrix.f k a0_0 l0_1).bind fun bt199 => ((impl_TurnMatrix.f k bt199.1 bt199.2).bind fun bt203 => ((laws_eqMatrix.f k bt203.1 bt203.2.1 bt170.1 bt170.2.1).bind fun t209 => (if t209 = true then (if (bt203.2.2 != bt170.2.2) = true then (none) else ((laws_heldMatrix.f k bt181.1 bt196.2 1).bind fun t210 => (if t210 < 0 then (none) else (if t210 = bt196.1 then (some true) else (none))))) else (none))))) else (none))))) else (none))))) else (none))))) else (none))))))))) = some r := h
 clear h
 replace H := Option.bind_eq_some_iff.mp H
 obtain ⟨t165, A20, H⟩ := H
 replace H : (if t165 < 0 then (some true) else ((laws_toMatrix.f k a0_0 l0_1).bind fun bt166 => ((spec_TurnMatrix.f k bt166.1 bt166.2).bind fun bt170 => ((laws_toMatrix.f k a0_0 l0_1).bind fun bt176 => ((impl_TurnMatrix.f k bt176.1 bt176.2).bind fun bt181 => ((laws_eqMatrix.f k bt181.1 bt181.2.1 bt170.1 bt170.2.1).bind fun t187 => (if t187 = true then (if (bt181.2.2 != bt170.2.2) = true then (none) else ((laws_toMatrix.f k a0_0 l0_1).bind fun bt188 => ((laws_eqMatrix.f k bt176.1 bt176.2 bt188.1 bt188.2).bind fun t192 => (if t192 = true then ((laws_markMatrix.f k bt176.1 bt176.2 1).bind fun bt193 => (if bt193.1 < 0 then (none) else ((laws_eqMatrix.f k bt181.1 bt181.2.1 bt170.1 bt170.2.1).bind fun t195 => (if t195 = true then ((laws_markMatrix.f k bt181.1 bt181.2.1 1).bind fun bt196 => ((laws_heldMatrix.f k bt181.1 bt196.2 1).bind fun t198 => (if t198 < 0 then (none) else (if t198 = bt196.1 then ((laws_toMatrix.f k a0_0 l0_1).bind fun bt199 => ((impl_TurnMatrix.f k bt199.1 bt199.2).bind fun bt203 => ((laws_eqMatrix.f k bt203.1 bt203.2.1 bt170.1 bt170.2.1).bind fun t209 => (if t209 = true then (if (bt203.2.2 != bt170.2.2) = true then (none) else ((laws_heldMatrix.f k bt181.1 bt196.2 1).bind fun t210 => (if t210 < 0 then (none) else (if t210 = bt196.1 then (some true) else (none))))) else (none))))) else (none))))) else (none))))) else (none))))) else (none)))))))) = some r := H
 have A2 := Aside0.mk A20
 clear A20
 by_cases c3 : t165 < 0
 ·rw [if_pos c3] at H
  have c3b0 : decide (t165 < 0) = true := decide_eq_true c3
  clear c3
  obtain rfl := Option.some.inj H
  go_enter Try.func5, Try.ntmps5
  go_wp2_with (first | ((with_reducible refine gate_dst (N := 1) rfl ?_); refine box_event ?hg (N := 1) ?hd (cs := #[.int .i64 a0_0, .slice A0_1 l0_1.length c0_1]) (t := 24) ?hr ?_; (case hd => rfl); (case hg => rfl); (case hr => first | (go_simp; done) | (go_simp; rfl)); intro gb164 hg w4 hbox hb; have n0_ := Aside0.mk (below_step (by exact bz HB.out) hb); have n1_ := Aside0.mk (hbox); have n2_ := Aside0.mk ((by rw [hg]; exact (below_size (by exact bz HB.out)) : w.heap.size ≤ gb164)); have n3_ := Aside0.mk ((by rw [hg]; exact (below_size (by exact bz HB.out)) : w.heap.size ≤ gb164)); clear HB; have HB := n0_; have BK164 := n1_; have GW164 := n2_; have GE164 := n3_; clear n0_ n1_ n2_ n3_ hb hbox hg; have hcz5_0 := cz20 BK164.out; have hcz5_1 := cz21 BK164.out; have hfz5_0 := blk_frozen BK164.out 0; have hfz5_1 := blk_frozen BK164.out 1) | ((with_reducible refine gate_callee (f := 14) rfl ?_); refine goesL_ (some 16) rfl rfl Try.func14 (by kernel_rfl) rfl #[.agg #[.int .i64 a0_0, .slice A0_1 l0_1.length c0_1], .int .i64 1048576] rfl (by (try simp only [List.map_toArray, List.map_cons, List.map_nil]); first | done | rfl | (simp only [List.length_drop, List.length_take]; rfl)) ?_; (with_reducible refine (laws_szMatrix.calls a0_0 _ _ l0_1 1048576 t165 _ ?side1 ?side2 A2.out).mono ?_); (case side1 => repeat (first | exact (Kd.C_below HR0_1.out HB.out) | (with_reducible refine Kd.C_alloc ?_ _) | (with_reducible refine Kd.C_drewN ?_ _) | (with_reducible refine Kd.C_drew ?_))); (case side2 => exact HC0_1.out); rintro e w6 ⟨rfl, hb⟩; refine ⟨_, rfl, ?_⟩; have n0_ := bk BK164 hb; have n1_ := Aside0.mk (below_step (by repeat (first | (with_reducible first | exact HB.out | apply ba | apply bn | apply bd | refine bs ?_ (by assumption)) | exact HB.out)) hb); clear BK164 HB; have BK164 := n0_; have HB := n1_; clear n0_ n1_; (try clear hb); (try clear hb2); (try clear hk); (try clear hi)))
  go_ret
  exact ⟨by first | rfl | (simp [errW_none, errW_some] <;> rfl) | (simp [*, errW_none, errW_some] <;> rfl), by repeat (first | (with_reducible first | exact HB.out | apply ba | apply bn | apply bd | refine bs ?_ (by assumption)) | exact HB.out)⟩
 ·rw [if_neg c3] at H
  have c3b0 : decide (t165 < 0) = false := decide_eq_false c3
  clear c3
  replace H := Option.bind_eq_some_iff.mp H
  obtain ⟨⟨t166, t167⟩, A70, H⟩ := H
  replace H : ((spec_TurnMatrix.f k t166 t167).bind fun bt170 => ((laws_toMatrix.f k a0_0 l0_1).bind fun bt176 => ((impl_TurnMatrix.f k bt176.1 bt176.2).bind fun bt181 => ((laws_eqMatrix.f k bt181.1 bt181.2.1 bt170.1 bt170.2.1).bind fun t187 => (if t187 = true then (if (bt181.2.2 != bt170.2.2) = true then (none) else ((laws_toMatrix.f k a0_0 l0_1).bind fun bt188 => ((laws_eqMatrix.f k bt176.1 bt176.2 bt188.1 bt188.2).bind fun t192 => (if t192 = true then ((laws_markMatrix.f k bt176.1 bt176.2 1).bind fun bt193 => (if bt193.1 < 0 then (none) else ((laws_eqMatrix.f k bt181.1 bt181.2.1 bt170.1 bt170.2.1).bind fun t195 => (if t195 = true then ((laws_markMatrix.f k bt181.1 bt181.2.1 1).bind fun bt196 => ((laws_heldMatrix.f k bt181.1 bt196.2 1).bind fun t198 => (if t198 < 0 then (none) else (if t198 = bt196.1 then ((laws_toMatrix.f k a0_0 l0_1).bind fun bt199 => ((impl_TurnMatrix.f k bt199.1 bt199.2).bind fun bt203 => ((laws_eqMatrix.f k bt203.1 bt203.2.1 bt170.1 bt170.2.1).bind fun t209 => (if t209 = true then (if (bt203.2.2 != bt170.2.2) = true then (none) else ((laws_heldMatrix.f k bt181.1 bt196.2 1).bind fun t210 => (if t210 < 0 then (none) else (if t210 = bt196.1 then (some true) else (none))))) else (none))))) else (none))))) else (none))))) else (none))))) else (none)))))) = some r := H
  have A7 := Aside0.mk A70
  clear A70
  replace H := Option.bind_eq_some_iff.mp H
  obtain ⟨⟨t170, t171, t174⟩, A80, H⟩ := H
  replace H : ((laws_toMatrix.f k a0_0 l0_1).bind fun bt176 => ((impl_TurnMatrix.f k bt176.1 bt176.2).bind fun bt181 => ((laws_eqMatrix.f k bt181.1 bt181.2.1 t170 t171).bind fun t187 => (if t187 = true then (if (bt181.2.2 != t174) = true then (none) else ((laws_toMatrix.f k a0_0 l0_1).bind fun bt188 => ((laws_eqMatrix.f k bt176.1 bt176.2 bt188.1 bt188.2).bind fun t192 => (if t192 = true then ((laws_markMatrix.f k bt176.1 bt176.2 1).bind fun bt193 => (if bt193.1 < 0 then (none) else ((laws_eqMatrix.f k bt181.1 bt181.2.1 t170 t171).bind fun t195 => (if t195 = true then ((laws_markMatrix.f k bt181.1 bt181.2.1 1).bind fun bt196 => ((laws_heldMatrix.f k bt181.1 bt196.2 1).bind fun t198 => (if t198 < 0 then (none) else (if t198 = bt196.1 then ((laws_toMatrix.f k a0_0 l0_1).bind fun bt199 => ((impl_TurnMatrix.f k bt199.1 bt199.2).bind fun bt203 => ((laws_eqMatrix.f k bt203.1 bt203.2.1 t170 t171).bind fun t209 => (if t209 = true then (if (bt203.2.2 != t174) = true then (none) else ((laws_heldMatrix.f k bt181.1 bt196.2 1).bind fun t210 => (if t210 < 0 then (none) else (if t210 = bt196.1 then (some true) else (none))))) else (none))))) else (none))))) else (none))))) else (none))))) else (none))))) = some r := H
  have A8 := Aside0.mk A80
  clear A80
  replace H := Option.bind_eq_some_iff.mp H
  obtain ⟨⟨t176, t177⟩, A90, H⟩ := H
  replace H : ((impl_TurnMatrix.f k t176 t177).bind fun bt181 => ((laws_eqMatrix.f k bt181.1 bt181.2.1 t170 t171).bind fun t187 => (if t187 = true then (if (bt181.2.2 != t174) = true then (none) else ((laws_toMatrix.f k a0_0 l0_1).bind fun bt188 => ((laws_eqMatrix.f k t176 t177 bt188.1 bt188.2).bind fun t192 => (if t192 = true then ((laws_markMatrix.f k t176 t177 1).bind fun bt193 => (if bt193.1 < 0 then (none) else ((laws_eqMatrix.f k bt181.1 bt181.2.1 t170 t171).bind fun t195 => (if t195 = true then ((laws_markMatrix.f k bt181.1 bt181.2.1 1).bind fun bt196 => ((laws_heldMatrix.f k bt181.1 bt196.2 1).bind fun t198 => (if t198 < 0 then (none) else (if t198 = bt196.1 then ((laws_toMatrix.f k a0_0 l0_1).bind fun bt199 => ((impl_TurnMatrix.f k bt199.1 bt199.2).bind fun bt203 => ((laws_eqMatrix.f k bt203.1 bt203.2.1 t170 t171).bind fun t209 => (if t209 = true then (if (bt203.2.2 != t174) = true then (none) else ((laws_heldMatrix.f k bt181.1 bt196.2 1).bind fun t210 => (if t210 < 0 then (none) else (if t210 = bt196.1 then (some true) else (none))))) else (none))))) else (none))))) else (none))))) else (none))))) else (none)))) = some r := H
  have A9 := Aside0.mk A90
  clear A90
  replace H := Option.bind_eq_some_iff.mp H
  obtain ⟨⟨t181, t182, t185⟩, A100, H⟩ := H
  replace H : ((laws_eqMatrix.f k t181 t182 t170 t171).bind fun t187 => (if t187 = true then (if (t185 != t174) = true then (none) else ((laws_toMatrix.f k a0_0 l0_1).bind fun bt188 => ((laws_eqMatrix.f k t176 t177 bt188.1 bt188.2).bind fun t192 => (if t192 = true then ((laws_markMatrix.f k t176 t177 1).bind fun bt193 => (if bt193.1 < 0 then (none) else ((laws_eqMatrix.f k t181 t182 t170 t171).bind fun t195 => (if t195 = true then ((laws_markMatrix.f k t181 t182 1).bind fun bt196 => ((laws_heldMatrix.f k t181 bt196.2 1).bind fun t198 => (if t198 < 0 then (none) else (if t198 = bt196.1 then ((laws_toMatrix.f k a0_0 l0_1).bind fun bt199 => ((impl_TurnMatrix.f k bt199.1 bt199.2).bind fun bt203 => ((laws_eqMatrix.f k bt203.1 bt203.2.1 t170 t171).bind fun t209 => (if t209 = true then (if (bt203.2.2 != t174) = true then (none) else ((laws_heldMatrix.f k t181 bt196.2 1).bind fun t210 => (if t210 < 0 then (none) else (if t210 = bt196.1 then (some true) else (none))))) else (none))))) else (none))))) else (none))))) else (none))))) else (none))) = some r := H
  have A10 := Aside0.mk A100
  clear A100
  replace H := Option.bind_eq_some_iff.mp H
  obtain ⟨t187, A110, H⟩ := H
  replace H : (if t187 = true then (if (t185 != t174) = true then (none) else ((laws_toMatrix.f k a0_0 l0_1).bind fun bt188 => ((laws_eqMatrix.f k t176 t177 bt188.1 bt188.2).bind fun t192 => (if t192 = true then ((laws_markMatrix.f k t176 t177 1).bind fun bt193 => (if bt193.1 < 0 then (none) else ((laws_eqMatrix.f k t181 t182 t170 t171).bind fun t195 => (if t195 = true then ((laws_markMatrix.f k t181 t182 1).bind fun bt196 => ((laws_heldMatrix.f k t181 bt196.2 1).bind fun t198 => (if t198 < 0 then (none) else (if t198 = bt196.1 then ((laws_toMatrix.f k a0_0 l0_1).bind fun bt199 => ((impl_TurnMatrix.f k bt199.1 bt199.2).bind fun bt203 => ((laws_eqMatrix.f k bt203.1 bt203.2.1 t170 t171).bind fun t209 => (if t209 = true then (if (bt203.2.2 != t174) = true then (none) else ((laws_heldMatrix.f k t181 bt196.2 1).bind fun t210 => (if t210 < 0 then (none) else (if t210 = bt196.1 then (some true) else (none))))) else (none))))) else (none))))) else (none))))) else (none))))) else (none)) = some r := H
  have A11 := Aside0.mk A110
  clear A110
  by_cases c12 : t187 = true
  ·subst c12
   have H1 : (if (t185 != t174) = true then (none) else ((laws_toMatrix.f k a0_0 l0_1).bind fun bt188 => ((laws_eqMatrix.f k t176 t177 bt188.1 bt188.2).bind fun t192 => (if t192 = true then ((laws_markMatrix.f k t176 t177 1).bind fun bt193 => (if bt193.1 < 0 then (none) else ((laws_eqMatrix.f k t181 t182 t170 t171).bind fun t195 => (if t195 = true then ((laws_markMatrix.f k t181 t182 1).bind fun bt196 => ((laws_heldMatrix.f k t181 bt196.2 1).bind fun t198 => (if t198 < 0 then (none) else (if t198 = bt196.1 then ((laws_toMatrix.f k a0_0 l0_1).bind fun bt199 => ((impl_TurnMatrix.f k bt199.1 bt199.2).bind fun bt203 => ((laws_eqMatrix.f k bt203.1 bt203.2.1 t170 t171).bind fun t209 => (if t209 = true then (if (bt203.2.2 != t174) = true then (none) else ((laws_heldMatrix.f k t181 bt196.2 1).bind fun t210 => (if t210 < 0 then (none) else (if t210 = bt196.1 then (some true) else (none))))) else (none))))) else (none))))) else (none))))) else (none))))) = some r := by rw [if_pos rfl] at H; exact H
   clear H
   have H := H1
   clear H1
   by_cases c13 : (t185 != t174) = true
   ·rw [if_pos c13] at H
    exact absurd H (by simp)
   ·rw [if_neg c13] at H
    have c13b0 : (t185 != t174) = false := by simpa using c13
    (try (have c13b1 : decide (t185 = t174) = true := by simpa using c13))
    (try (have c13b2 : (t185 == t174) = true := by simpa using c13))
    clear c13
    replace H := Option.bind_eq_some_iff.mp H
    obtain ⟨⟨t188, t189⟩, A140, H⟩ := H
    replace H : ((laws_eqMatrix.f k t176 t177 t188 t189).bind fun t192 => (if t192 = true then ((laws_markMatrix.f k t176 t177 1).bind fun bt193 => (if bt193.1 < 0 then (none) else ((laws_eqMatrix.f k t181 t182 t170 t171).bind fun t195 => (if t195 = true then ((laws_markMatrix.f k t181 t182 1).bind fun bt196 => ((laws_heldMatrix.f k t181 bt196.2 1).bind fun t198 => (if t198 < 0 then (none) else (if t198 = bt196.1 then ((laws_toMatrix.f k a0_0 l0_1).bind fun bt199 => ((impl_TurnMatrix.f k bt199.1 bt199.2).bind fun bt203 => ((laws_eqMatrix.f k bt203.1 bt203.2.1 t170 t171).bind fun t209 => (if t209 = true then (if (bt203.2.2 != t174) = true then (none) else ((laws_heldMatrix.f k t181 bt196.2 1).bind fun t210 => (if t210 < 0 then (none) else (if t210 = bt196.1 then (some true) else (none))))) else (none))))) else (none))))) else (none))))) else (none))) = some r := H
    have A14 := Aside0.mk A140
    clear A140
    replace H := Option.bind_eq_some_iff.mp H
    obtain ⟨t192, A150, H⟩ := H
    replace H : (if t192 = true then ((laws_markMatrix.f k t176 t177 1).bind fun bt193 => (if bt193.1 < 0 then (none) else ((laws_eqMatrix.f k t181 t182 t170 t171).bind fun t195 => (if t195 = true then ((laws_markMatrix.f k t181 t182 1).bind fun bt196 => ((laws_heldMatrix.f k t181 bt196.2 1).bind fun t198 => (if t198 < 0 then (none) else (if t198 = bt196.1 then ((laws_toMatrix.f k a0_0 l0_1).bind fun bt199 => ((impl_TurnMatrix.f k bt199.1 bt199.2).bind fun bt203 => ((laws_eqMatrix.f k bt203.1 bt203.2.1 t170 t171).bind fun t209 => (if t209 = true then (if (bt203.2.2 != t174) = true then (none) else ((laws_heldMatrix.f k t181 bt196.2 1).bind fun t210 => (if t210 < 0 then (none) else (if t210 = bt196.1 then (some true) else (none))))) else (none))))) else (none))))) else (none))))) else (none)) = some r := H
    have A15 := Aside0.mk A150
    clear A150
    by_cases c16 : t192 = true
    ·subst c16
     have H1 : ((laws_markMatrix.f k t176 t177 1).bind fun bt193 => (if bt193.1 < 0 then (none) else ((laws_eqMatrix.f k t181 t182 t170 t171).bind fun t195 => (if t195 = true then ((laws_markMatrix.f k t181 t182 1).bind fun bt196 => ((laws_heldMatrix.f k t181 bt196.2 1).bind fun t198 => (if t198 < 0 then (none) else (if t198 = bt196.1 then ((laws_toMatrix.f k a0_0 l0_1).bind fun bt199 => ((impl_TurnMatrix.f k bt199.1 bt199.2).bind fun bt203 => ((laws_eqMatrix.f k bt203.1 bt203.2.1 t170 t171).bind fun t209 => (if t209 = true then (if (bt203.2.2 != t174) = true then (none) else ((laws_heldMatrix.f k t181 bt196.2 1).bind fun t210 => (if t210 < 0 then (none) else (if t210 = bt196.1 then (some true) else (none))))) else (none))))) else (none))))) else (none))))) = some r := by rw [if_pos rfl] at H; exact H
     clear H
     have H := H1
     clear H1
     replace H := Option.bind_eq_some_iff.mp H
     obtain ⟨⟨t193, t194⟩, A170, H⟩ := H
     replace H : (if t193 < 0 then (none) else ((laws_eqMatrix.f k t181 t182 t170 t171).bind fun t195 => (if t195 = true then ((laws_markMatrix.f k t181 t182 1).bind fun bt196 => ((laws_heldMatrix.f k t181 bt196.2 1).bind fun t198 => (if t198 < 0 then (none) else (if t198 = bt196.1 then ((laws_toMatrix.f k a0_0 l0_1).bind fun bt199 => ((impl_TurnMatrix.f k bt199.1 bt199.2).bind fun bt203 => ((laws_eqMatrix.f k bt203.1 bt203.2.1 t170 t171).bind fun t209 => (if t209 = true then (if (bt203.2.2 != t174) = true then (none) else ((laws_heldMatrix.f k t181 bt196.2 1).bind fun t210 => (if t210 < 0 then (none) else (if t210 = bt196.1 then (some true) else (none))))) else (none))))) else (none))))) else (none)))) = some r := H
     have A17 := Aside0.mk A170
     clear A170
     by_cases c18 : t193 < 0
     ·rw [if_pos c18] at H
      exact absurd H (by simp)
     ·rw [if_neg c18] at H
      have c18b0 : decide (t193 < 0) = false := decide_eq_false c18
      clear c18
      replace H := Option.bind_eq_some_iff.mp H
      obtain ⟨t195, A190, H⟩ := H
      replace H : (if t195 = true then ((laws_markMatrix.f k t181 t182 1).bind fun bt196 => ((laws_heldMatrix.f k t181 bt196.2 1).bind fun t198 => (if t198 < 0 then (none) else (if t198 = bt196.1 then ((laws_toMatrix.f k a0_0 l0_1).bind fun bt199 => ((impl_TurnMatrix.f k bt199.1 bt199.2).bind fun bt203 => ((laws_eqMatrix.f k bt203.1 bt203.2.1 t170 t171).bind fun t209 => (if t209 = true then (if (bt203.2.2 != t174) = true then (none) else ((laws_heldMatrix.f k t181 bt196.2 1).bind fun t210 => (if t210 < 0 then (none) else (if t210 = bt196.1 then (some true) else (none))))) else (none))))) else (none))))) else (none)) = some r := H
      have A19 := Aside0.mk A190
      clear A190
      by_cases c20 : t195 = true
      ·subst c20
       have H1 : ((laws_markMatrix.f k t181 t182 1).bind fun bt196 => ((laws_heldMatrix.f k t181 bt196.2 1).bind fun t198 => (if t198 < 0 then (none) else (if t198 = bt196.1 then ((laws_toMatrix.f k a0_0 l0_1).bind fun bt199 => ((impl_TurnMatrix.f k bt199.1 bt199.2).bind fun bt203 => ((laws_eqMatrix.f k bt203.1 bt203.2.1 t170 t171).bind fun t209 => (if t209 = true then (if (bt203.2.2 != t174) = true then (none) else ((laws_heldMatrix.f k t181 bt196.2 1).bind fun t210 => (if t210 < 0 then (none) else (if t210 = bt196.1 then (some true) else (none))))) else (none))))) else (none))))) = some r := by rw [if_pos rfl] at H; exact H
       clear H
       have H := H1
       clear H1
       replace H := Option.bind_eq_some_iff.mp H
       obtain ⟨⟨t196, t197⟩, A210, H⟩ := H
       replace H : ((laws_heldMatrix.f k t181 t197 1).bind fun t198 => (if t198 < 0 then (none) else (if t198 = t196 then ((laws_toMatrix.f k a0_0 l0_1).bind fun bt199 => ((impl_TurnMatrix.f k bt199.1 bt199.2).bind fun bt203 => ((laws_eqMatrix.f k bt203.1 bt203.2.1 t170 t171).bind fun t209 => (if t209 = true then (if (bt203.2.2 != t174) = true then (none) else ((laws_heldMatrix.f k t181 t197 1).bind fun t210 => (if t210 < 0 then (none) else (if t210 = t196 then (some true) else (none))))) else (none))))) else (none)))) = some r := H
       have A21 := Aside0.mk A210
       clear A210
       replace H := Option.bind_eq_some_iff.mp H
       obtain ⟨t198, A220, H⟩ := H
       replace H : (if t198 < 0 then (none) else (if t198 = t196 then ((laws_toMatrix.f k a0_0 l0_1).bind fun bt199 => ((impl_TurnMatrix.f k bt199.1 bt199.2).bind fun bt203 => ((laws_eqMatrix.f k bt203.1 bt203.2.1 t170 t171).bind fun t209 => (if t209 = true then (if (bt203.2.2 != t174) = true then (none) else ((laws_heldMatrix.f k t181 t197 1).bind fun t210 => (if t210 < 0 then (none) else (if t210 = t196 then (some true) else (none))))) else (none))))) else (none))) = some r := H
       have A22 := Aside0.mk A220
       clear A220
       by_cases c23 : t198 < 0
       ·rw [if_pos c23] at H
        exact absurd H (by simp)
       ·rw [if_neg c23] at H
        have c23b0 : decide (t198 < 0) = false := decide_eq_false c23
        clear c23
        by_cases c24 : t198 = t196
        ·rw [if_pos c24] at H
         have c24b0 : (t198 == t196) = true := beq_iff_eq.mpr c24
         have c24b1 : (t198 != t196) = false := bne_eq_false_iff_eq.mpr c24
         clear c24
         replace H := Option.bind_eq_some_iff.mp H
         obtain ⟨⟨t199, t200⟩, A250, H⟩ := H
         replace H : ((impl_TurnMatrix.f k t199 t200).bind fun bt203 => ((laws_eqMatrix.f k bt203.1 bt203.2.1 t170 t171).bind fun t209 => (if t209 = true then (if (bt203.2.2 != t174) = true then (none) else ((laws_heldMatrix.f k t181 t197 1).bind fun t210 => (if t210 < 0 then (none) else (if t210 = t196 then (some true) else (none))))) else (none)))) = some r := H
         have A25 := Aside0.mk A250
         clear A250
         replace H := Option.bind_eq_some_iff.mp H
         obtain ⟨⟨t203, t204, t207⟩, A260, H⟩ := H
         replace H : ((laws_eqMatrix.f k t203 t204 t170 t171).bind fun t209 => (if t209 = true then (if (t207 != t174) = true then (none) else ((laws_heldMatrix.f k t181 t197 1).bind fun t210 => (if t210 < 0 then (none) else (if t210 = t196 then (some true) else (none))))) else (none))) = some r := H
         have A26 := Aside0.mk A260
         clear A260
         replace H := Option.bind_eq_some_iff.mp H
         obtain ⟨t209, A270, H⟩ := H
         replace H : (if t209 = true then (if (t207 != t174) = true then (none) else ((laws_heldMatrix.f k t181 t197 1).bind fun t210 => (if t210 < 0 then (none) else (if t210 = t196 then (some true) else (none))))) else (none)) = some r := H
         have A27 := Aside0.mk A270
         clear A270
         by_cases c28 : t209 = true
         ·subst c28
          have H1 : (if (t207 != t174) = true then (none) else ((laws_heldMatrix.f k t181 t197 1).bind fun t210 => (if t210 < 0 then (none) else (if t210 = t196 then (some true) else (none))))) = some r := by rw [if_pos rfl] at H; exact H
          clear H
          have H := H1
          clear H1
          by_cases c29 : (t207 != t174) = true
          ·rw [if_pos c29] at H
           exact absurd H (by simp)
          ·rw [if_neg c29] at H
           have c29b0 : (t207 != t174) = false := by simpa using c29
           (try (have c29b1 : decide (t207 = t174) = true := by simpa using c29))
           (try (have c29b2 : (t207 == t174) = true := by simpa using c29))
           clear c29
           replace H := Option.bind_eq_some_iff.mp H
           obtain ⟨t210, A300, H⟩ := H
           replace H : (if t210 < 0 then (none) else (if t210 = t196 then (some true) else (none))) = some r := H
           have A30 := Aside0.mk A300
           clear A300
           by_cases c31 : t210 < 0
           ·rw [if_pos c31] at H
            exact absurd H (by simp)
           ·rw [if_neg c31] at H
            have c31b0 : decide (t210 < 0) = false := decide_eq_false c31
            clear c31
            by_cases c32 : t210 = t196
            ·rw [if_pos c32] at H
             have c32b0 : (t210 == t196) = true := beq_iff_eq.mpr c32
             have c32b1 : (t210 != t196) = false := bne_eq_false_iff_eq.mpr c32
             clear c32
             obtain rfl := Option.some.inj H
             go_enter Try.func5, Try.ntmps5
             try go_wp2_with (first | ((with_reducible refine gate_dst (N := 1) rfl ?_); refine box_event ?hg (N := 1) ?hd (cs := #[.int .i64 a0_0, .slice A0_1 l0_1.length c0_1]) (t := 24) ?hr ?_; (case hd => rfl); (case hg => rfl); (case hr => first | (go_simp; done) | (go_simp; rfl)); intro gb164 hg w33 hbox hb; have n0_ := Aside0.mk (below_step (by exact bz HB.out) hb); have n1_ := Aside0.mk (hbox); have n2_ := Aside0.mk ((by rw [hg]; exact (below_size (by exact bz HB.out)) : w.heap.size ≤ gb164)); have n3_ := Aside0.mk ((by rw [hg]; exact (below_size (by exact bz HB.out)) : w.heap.size ≤ gb164)); clear HB; have HB := n0_; have BK164 := n1_; have GW164 := n2_; have GE164 := n3_; clear n0_ n1_ n2_ n3_ hb hbox hg; have hcz34_0 := cz20 BK164.out; have hcz34_1 := cz21 BK164.out; have hfz34_0 := blk_frozen BK164.out 0; have hfz34_1 := blk_frozen BK164.out 1) | ((with_reducible refine gate_callee (f := 14) rfl ?_); refine goesL_ (some 16) rfl rfl Try.func14 (by kernel_rfl) rfl #[.agg #[.int .i64 a0_0, .slice A0_1 l0_1.length c0_1], .int .i64 1048576] rfl (by (try simp only [List.map_toArray, List.map_cons, List.map_nil]); first | done | rfl | (simp only [List.length_drop, List.length_take]; rfl)) ?_; (with_reducible refine (laws_szMatrix.calls a0_0 _ _ l0_1 1048576 t165 _ ?side1 ?side2 A2.out).mono ?_); (case side1 => repeat (first | exact (Kd.C_below HR0_1.out HB.out) | (with_reducible refine Kd.C_alloc ?_ _) | (with_reducible refine Kd.C_drewN ?_ _) | (with_reducible refine Kd.C_drew ?_))); (case side2 => exact HC0_1.out); rintro e w35 ⟨rfl, hb⟩; refine ⟨_, rfl, ?_⟩; have n0_ := bk BK164 hb; have n1_ := Aside0.mk (below_step (by repeat (first | (with_reducible first | exact HB.out | apply ba | apply bn | apply bd | refine bs ?_ (by assumption)) | exact HB.out)) hb); clear BK164 HB; have BK164 := n0_; have HB := n1_; clear n0_ n1_; (try clear hb); (try clear hb2); (try clear hk); (try clear hi); have hcz36_0 := cz20 BK164.out; have hcz36_1 := cz21 BK164.out; have hfz36_0 := blk_frozen BK164.out 0; have hfz36_1 := blk_frozen BK164.out 1) | ((with_reducible refine gate_callee (f := 16) rfl ?_); refine goesL_ (some 21) rfl rfl Try.func16 (by kernel_rfl) rfl #[.agg #[.int .i64 a0_0, .slice A0_1 l0_1.length c0_1]] rfl (by (try simp only [List.map_toArray, List.map_cons, List.map_nil]); first | done | rfl | (simp only [List.length_drop, List.length_take]; rfl)) ?_; (with_reducible refine (laws_toMatrix.calls k a0_0 _ _ l0_1 t166 t167 _ ?side1 ?side2 A7.out).mono ?_); (case side1 => repeat (first | exact (Kd.C_below HR0_1.out HB.out) | (with_reducible refine Kd.C_alloc ?_ _) | (with_reducible refine Kd.C_drewN ?_ _) | (with_reducible refine Kd.C_drew ?_))); (case side2 => exact HC0_1.out); rintro e w37 ⟨v168, rfl, ho0, hb⟩; refine ⟨_, rfl, ?_⟩; have n0_ := Aside0.mk (Kd.R_lower ho0 (below_size (by repeat (first | (with_reducible first | exact HB.out | apply ba | apply bn | apply bd | refine bs ?_ (by assumption)) | exact HB.out)))); have n1_ := bk BK164 hb; have n2_ := Aside0.mk (below_step (by repeat (first | (with_reducible first | exact HB.out | apply ba | apply bn | apply bd | refine bs ?_ (by assumption)) | exact HB.out)) hb); clear BK164 HB; have HO169 := n0_; have BK164 := n1_; have HB := n2_; clear n0_ n1_ n2_; (try clear hb); (try clear hb2); (try clear hk); (try clear hi); (try clear ho0); obtain ⟨Ao38, co38, eo38⟩ := Kd.R_slice HO169.out; subst eo38) | ((with_reducible refine gate_callee (f := 23) rfl ?_); refine goesL_ (some 22) rfl rfl Try.func23 (by kernel_rfl) rfl #[.agg #[.int .i64 t166, .slice Ao38 t167.length co38]] rfl (by (try simp only [List.map_toArray, List.map_cons, List.map_nil]); first | done | rfl | (simp only [List.length_drop, List.length_take]; rfl)) ?_; (with_reducible refine (spec_TurnMatrix.calls k t166 _ _ t167 t170 t171 t174 _ ?side1 ?side2 A8.out).mono ?_); (case side1 => repeat (first | exact (Kd.R_reads' HO169.out).2.2 | (with_reducible refine Kd.C_alloc ?_ _) | (with_reducible refine Kd.C_drewN ?_ _) | (with_reducible refine Kd.C_drew ?_))); (case side2 => exact (Kd.R_reads' HO169.out).2.1); rintro e w39 ⟨v172, rfl, ho0, hb⟩; refine ⟨_, rfl, ?_⟩; have n0_ := el HO169 (Kd.R_base ho0) hb; have n1_ := Aside0.mk (Kd.R_lower (Kd.R_new' ho0 (Kd.R_lt (rz HO169.out))) (below_size (by repeat (first | (with_reducible first | exact HB.out | apply ba | apply bn | apply bd | refine bs ?_ (by assumption)) | exact HB.out)))); have n2_ := bk BK164 hb; have n3_ := Aside0.mk (below_step (by repeat (first | (with_reducible first | exact HB.out | apply ba | apply bn | apply bd | refine bs ?_ (by assumption)) | exact HB.out)) hb); clear HO169 BK164 HB; have HO169 := n0_; have HO173 := n1_; have BK164 := n2_; have HB := n3_; clear n0_ n1_ n2_ n3_; (try clear hb); (try clear hb2); (try clear hk); (try clear hi); (try clear ho0)) | ((with_reducible refine gate_dst (N := 4) rfl ?_); refine box_event ?hg (N := 4) ?hd (cs := #[.int .i64 0, .slice none 0 0]) (t := 27) ?hr ?_; (case hd => rfl); (case hg => rfl); (case hr => first | (go_simp; done) | (go_simp; rfl)); intro gb175 hg w40 hbox hb; have n0_ := Aside0.mk (Kd.R_below (rz HO169.out) hb); have n1_ := Aside0.mk (Kd.R_below (rz HO173.out) hb); have n2_ := bk BK164 hb; have n3_ := Aside0.mk (below_step (by repeat (first | (with_reducible first | exact HB.out | apply ba | apply bn | apply bd | refine bs ?_ (by assumption)) | exact HB.out)) hb); have n4_ := Aside0.mk (hbox); have n5_ := Aside0.mk ((by rw [hg]; exact (below_size (by repeat (first | (with_reducible first | exact HB.out | apply ba | apply bn | apply bd | refine bs ?_ (by assumption)) | exact HB.out))) : w.heap.size ≤ gb175)); have n6_ := Aside0.mk ((by rw [hg]; exact (below_size (by repeat (first | (with_reducible first | exact HB.out | apply ba | apply bn | apply bd | refine bs ?_ (by assumption)) | exact HB.out))) : w.heap.size ≤ gb175)); have n7_ := Aside0.mk ((by rw [hg]; exact Nat.ne_of_lt (blk_lt (kz BK164.out)) : gb164 ≠ gb175)); have n8_ := Aside0.mk ((by rw [hg]; exact Nat.ne_of_gt (blk_lt (kz BK164.out)) : gb175 ≠ gb164)); clear HO169 HO173 BK164 HB; have HO169 := n0_; have HO173 := n1_; have BK164 := n2_; have HB := n3_; have BK175 := n4_; have GW175 := n5_; have GE175 := n6_; have NB164_175 := n7_; have NB175_164 := n8_; clear n0_ n1_ n2_ n3_ n4_ n5_ n6_ n7_ n8_ hb hbox hg; have hnb41 := NB175_164.out; have hnc41 := NB164_175.out; have hcz42_0 := cz20 BK175.out; have hcz42_1 := cz21 BK175.out; have hfz42_0 := blk_frozen BK175.out 0; have hfz42_1 := blk_frozen BK175.out 1; obtain ⟨Ao43, co43, eo43⟩ := Kd.R_slice HO173.out; subst eo43; have hcz44_0 := cz20 BK164.out; have hcz44_1 := cz21 BK164.out; have hfz44_0 := blk_frozen BK164.out 0; have hfz44_1 := blk_frozen BK164.out 1) | ((with_reducible refine gate_callee (f := 16) rfl ?_); refine goesL_ (some 26) rfl rfl Try.func16 (by kernel_rfl) rfl #[.agg #[.int .i64 a0_0, .slice A0_1 l0_1.length c0_1]] rfl (by (try simp only [List.map_toArray, List.map_cons, List.map_nil]); first | done | rfl | (simp only [List.length_drop, List.length_take]; rfl)) ?_; (with_reducible refine (laws_toMatrix.calls k a0_0 _ _ l0_1 t176 t177 _ ?side1 ?side2 A9.out).mono ?_); (case side1 => exact Kd.C_below HR0_1.out (by repeat (first | (with_reducible first | exact HB.out | apply ba | apply bn | apply bd | refine bs ?_ (by assumption)) | exact HB.out))); (case side2 => exact HC0_1.out); rintro e w45 ⟨v178, rfl, ho0, hb⟩; refine ⟨_, rfl, ?_⟩; have n0_ := Aside0.mk (Kd.R_elder' (by (with_reducible repeat (first | apply ra | apply rn | apply rw_)); exact (Kd.R_mono (Kd.R_far (p := ⟨gb175, 1, none⟩) (Kd.R_far (p := ⟨gb175, 0, none⟩) (Kd.R_types HO169.out BK175.out (by decide)) (fun _ hk => hk.2) (.int .i64 t170)) (fun _ hk => hk.2) (.slice Ao43 t171.length co43)) (fun _ h_ => h_.1))) (Kd.R_base ho0) hb); have n1_ := Aside0.mk (Kd.R_elder' (by (with_reducible repeat (first | apply ra | apply rn | apply rw_)); exact (Kd.R_mono (Kd.R_far (p := ⟨gb175, 1, none⟩) (Kd.R_far (p := ⟨gb175, 0, none⟩) (Kd.R_types HO173.out BK175.out (by decide)) (fun _ hk => hk.2) (.int .i64 t170)) (fun _ hk => hk.2) (.slice Ao43 t171.length co43)) (fun _ h_ => h_.1))) (Kd.R_base ho0) hb); have n2_ := Aside0.mk (Kd.R_lower (Kd.R_new' (Kd.R_new' ho0 (Kd.R_lt (by (with_reducible repeat (first | apply ra | apply rn | apply rw_)); exact (Kd.R_mono (Kd.R_far (p := ⟨gb175, 1, none⟩) (Kd.R_far (p := ⟨gb175, 0, none⟩) (Kd.R_types HO169.out BK175.out (by decide)) (fun _ hk => hk.2) (.int .i64 t170)) (fun _ hk => hk.2) (.slice Ao43 t171.length co43)) (fun _ h_ => h_.1))))) (Kd.R_lt (by (with_reducible repeat (first | apply ra | apply rn | apply rw_)); exact (Kd.R_mono (Kd.R_far (p := ⟨gb175, 1, none⟩) (Kd.R_far (p := ⟨gb175, 0, none⟩) (Kd.R_types HO173.out BK175.out (by decide)) (fun _ hk => hk.2) (.int .i64 t170)) (fun _ hk => hk.2) (.slice Ao43 t171.length co43)) (fun _ h_ => h_.1))))) (below_size (by repeat (first | (with_reducible first | exact HB.out | apply ba | apply bn | apply bd | refine bs ?_ (by assumption)) | exact HB.out)))); have n3_ := Aside0.mk (blk_below (g := gb164) (o := .cells #[.int .i64 a0_0, .slice A0_1 l0_1.length c0_1] 24 (0, 0)) (by (with_reducible repeat (first | refine kn ?_ _ | refine kd ?_ | refine ka ?_ _)); refine blk_far ?_ NB164_175.out _; (with_reducible repeat (first | refine kn ?_ _ | refine kd ?_ | refine ka ?_ _)); refine blk_far ?_ NB164_175.out _; (with_reducible repeat (first | refine kn ?_ _ | refine kd ?_ | refine ka ?_ _)); exact BK164.out) hb); have n4_ := Aside0.mk (blk_below (g := gb175) (o := .cells #[.int .i64 t170, .slice Ao43 t171.length co43] 27 (0, 0)) (by (with_reducible repeat (first | refine kn ?_ _ | refine kd ?_ | refine ka ?_ _)); refine blk_put (cs := #[.int .i64 t170, .slice none 0 0]) ?_ 1 _ rfl; (with_reducible repeat (first | refine kn ?_ _ | refine kd ?_ | refine ka ?_ _)); refine blk_put (cs := #[.int .i64 0, .slice none 0 0]) ?_ 0 _ rfl; (with_reducible repeat (first | refine kn ?_ _ | refine kd ?_ | refine ka ?_ _)); exact BK175.out) hb); have n5_ := Aside0.mk (below_step (by repeat (first | (with_reducible first | exact HB.out | apply ba | apply bn | apply bd | refine bs ?_ (by assumption)) | exact HB.out)) hb); clear HO169 HO173 BK164 BK175 HB; have HO169 := n0_; have HO173 := n1_; have HO179 := n2_; have BK164 := n3_; have BK175 := n4_; have HB := n5_; clear n0_ n1_ n2_ n3_ n4_ n5_; (try clear hb); (try clear hb2); (try clear hk); (try clear hi); (try clear ho0)) | ((with_reducible refine gate_dst (N := 6) rfl ?_); refine box_event ?hg (N := 6) ?hd (cs := #[.int .i64 0, .slice none 0 0]) (t := 27) ?hr ?_; (case hd => rfl); (case hg => rfl); (case hr => first | (go_simp; done) | (go_simp; rfl)); intro gb180 hg w46 hbox hb; have n0_ := Aside0.mk (Kd.R_below (rz HO169.out) hb); have n1_ := Aside0.mk (Kd.R_below (rz HO173.out) hb); have n2_ := Aside0.mk (Kd.R_below (rz HO179.out) hb); have n3_ := bk BK164 hb; have n4_ := bk BK175 hb; have n5_ := Aside0.mk (below_step (by repeat (first | (with_reducible first | exact HB.out | apply ba | apply bn | apply bd | refine bs ?_ (by assumption)) | exact HB.out)) hb); have n6_ := Aside0.mk (hbox); have n7_ := Aside0.mk ((by rw [hg]; exact (below_size (by repeat (first | (with_reducible first | exact HB.out | apply ba | apply bn | apply bd | refine bs ?_ (by assumption)) | exact HB.out))) : w.heap.size ≤ gb180)); have n8_ := Aside0.mk ((by rw [hg]; exact (below_size (by repeat (first | (with_reducible first | exact HB.out | apply ba | apply bn | apply bd | refine bs ?_ (by assumption)) | exact HB.out))) : w.heap.size ≤ gb180)); have n9_ := Aside0.mk ((by rw [hg]; exact Nat.ne_of_lt (blk_lt (kz BK164.out)) : gb164 ≠ gb180)); have n10_ := Aside0.mk ((by rw [hg]; exact Nat.ne_of_gt (blk_lt (kz BK164.out)) : gb180 ≠ gb164)); have n11_ := Aside0.mk ((by rw [hg]; exact Nat.ne_of_lt (blk_lt (kz BK175.out)) : gb175 ≠ gb180)); have n12_ := Aside0.mk ((by rw [hg]; exact Nat.ne_of_gt (blk_lt (kz BK175.out)) : gb180 ≠ gb175)); clear HO169 HO173 HO179 BK164 BK175 HB; have HO169 := n0_; have HO173 := n1_; have HO179 := n2_; have BK164 := n3_; have BK175 := n4_; have HB := n5_; have BK180 := n6_; have GW180 := n7_; have GE180 := n8_; have NB164_180 := n9_; have NB180_164 := n10_; have NB175_180 := n11_; have NB180_175 := n12_; clear n0_ n1_ n2_ n3_ n4_ n5_ n6_ n7_ n8_ n9_ n10_ n11_ n12_ hb hbox hg; have hnb47 := NB180_164.out; have hnc47 := NB164_180.out; have hnb48 := NB180_175.out; have hnc48 := NB175_180.out; have hcz49_0 := cz20 BK180.out; have hcz49_1 := cz21 BK180.out; have hfz49_0 := blk_frozen BK180.out 0; have hfz49_1 := blk_frozen BK180.out 1; obtain ⟨Ao50, co50, eo50⟩ := Kd.R_slice HO179.out; subst eo50) | ((with_reducible refine gate_callee (f := 24) rfl ?_); refine goesL_ (some 29) rfl rfl Try.func24 (by kernel_rfl) rfl #[.agg #[.int .i64 t176, .slice Ao50 t177.length co50]] rfl (by (try simp only [List.map_toArray, List.map_cons, List.map_nil]); first | done | rfl | (simp only [List.length_drop, List.length_take]; rfl)) ?_; (with_reducible refine (impl_TurnMatrix.calls k t176 _ _ t177 t181 t182 t185 _ ?side1 ?side2 A10.out).mono ?_); (case side1 => refine (Kd.R_reads' (e := 3) (base := w.heap.size) (ok := fun k_ => ((True ∧ some k_ ≠ (.slice Ao38 t167.length co38 : Value).ownBlock) ∧ some k_ ≠ (.slice Ao43 t171.length co43 : Value).ownBlock)) (n := t177.length) (c := co50) ?_).2.2; exact (by (with_reducible repeat (first | apply ra | apply rn | apply rw_)); exact (Kd.R_mono (Kd.R_far (p := ⟨gb180, 1, none⟩) (Kd.R_far (p := ⟨gb180, 0, none⟩) (Kd.R_types HO179.out BK180.out (by decide)) (fun _ hk => hk.2) (.int .i64 t176)) (fun _ hk => hk.2) (.slice Ao50 t177.length co50)) (fun _ h_ => h_.1)))); (case side2 => exact (Kd.R_reads' HO179.out).2.1); rintro e w51 ⟨v183, rfl, ho0, hb⟩; refine ⟨_, rfl, ?_⟩; have n0_ := Aside0.mk (Kd.R_elder' (by (with_reducible repeat (first | apply ra | apply rn | apply rw_)); exact (Kd.R_mono (Kd.R_far (p := ⟨gb180, 1, none⟩) (Kd.R_far (p := ⟨gb180, 0, none⟩) (Kd.R_types HO169.out BK180.out (by decide)) (fun _ hk => hk.2) (.int .i64 t176)) (fun _ hk => hk.2) (.slice Ao50 t177.length co50)) (fun _ h_ => h_.1))) (Kd.R_base ho0) hb); have n1_ := Aside0.mk (Kd.R_elder' (by (with_reducible repeat (first | apply ra | apply rn | apply rw_)); exact (Kd.R_mono (Kd.R_far (p := ⟨gb180, 1, none⟩) (Kd.R_far (p := ⟨gb180, 0, none⟩) (Kd.R_types HO173.out BK180.out (by decide)) (fun _ hk => hk.2) (.int .i64 t176)) (fun _ hk => hk.2) (.slice Ao50 t177.length co50)) (fun _ h_ => h_.1))) (Kd.R_base ho0) hb); have n2_ := Aside0.mk (Kd.R_elder' (by (with_reducible repeat (first | apply ra | apply rn | apply rw_)); exact (Kd.R_mono (Kd.R_far (p := ⟨gb180, 1, none⟩) (Kd.R_far (p := ⟨gb180, 0, none⟩) (Kd.R_types HO179.out BK180.out (by decide)) (fun _ hk => hk.2) (.int .i64 t176)) (fun _ hk => hk.2) (.slice Ao50 t177.length co50)) (fun _ h_ => h_.1))) (Kd.R_base ho0) hb); have n3_ := Aside0.mk (Kd.R_lower (Kd.R_new' (Kd.R_new' (Kd.R_new' ho0 (Kd.R_lt (by (with_reducible repeat (first | apply ra | apply rn | apply rw_)); exact (Kd.R_mono (Kd.R_far (p := ⟨gb180, 1, none⟩) (Kd.R_far (p := ⟨gb180, 0, none⟩) (Kd.R_types HO169.out BK180.out (by decide)) (fun _ hk => hk.2) (.int .i64 t176)) (fun _ hk => hk.2) (.slice Ao50 t177.length co50)) (fun _ h_ => h_.1))))) (Kd.R_lt (by (with_reducible repeat (first | apply ra | apply rn | apply rw_)); exact (Kd.R_mono (Kd.R_far (p := ⟨gb180, 1, none⟩) (Kd.R_far (p := ⟨gb180, 0, none⟩) (Kd.R_types HO173.out BK180.out (by decide)) (fun _ hk => hk.2) (.int .i64 t176)) (fun _ hk => hk.2) (.slice Ao50 t177.length co50)) (fun _ h_ => h_.1))))) (Kd.R_lt (by (with_reducible repeat (first | apply ra | apply rn | apply rw_)); exact (Kd.R_mono (Kd.R_far (p := ⟨gb180, 1, none⟩) (Kd.R_far (p := ⟨gb180, 0, none⟩) (Kd.R_types HO179.out BK180.out (by decide)) (fun _ hk => hk.2) (.int .i64 t176)) (fun _ hk => hk.2) (.slice Ao50 t177.length co50)) (fun _ h_ => h_.1))))) (below_size (by repeat (first | (with_reducible first | exact HB.out | apply ba | apply bn | apply bd | refine bs ?_ (by assumption)) | exact HB.out)))); have n4_ := Aside0.mk (blk_below (g := gb164) (o := .cells #[.int .i64 a0_0, .slice A0_1 l0_1.length c0_1] 24 (0, 0)) (by (with_reducible repeat (first | refine kn ?_ _ | refine kd ?_ | refine ka ?_ _)); refine blk_far ?_ NB164_180.out _; (with_reducible repeat (first | refine kn ?_ _ | refine kd ?_ | refine ka ?_ _)); refine blk_far ?_ NB164_180.out _; (with_reducible repeat (first | refine kn ?_ _ | refine kd ?_ | refine ka ?_ _)); exact BK164.out) hb); have n5_ := Aside0.mk (blk_below (g := gb175) (o := .cells #[.int .i64 t170, .slice Ao43 t171.length co43] 27 (0, 0)) (by (with_reducible repeat (first | refine kn ?_ _ | refine kd ?_ | refine ka ?_ _)); refine blk_far ?_ NB175_180.out _; (with_reducible repeat (first | refine kn ?_ _ | refine kd ?_ | refine ka ?_ _)); refine blk_far ?_ NB175_180.out _; (with_reducible repeat (first | refine kn ?_ _ | refine kd ?_ | refine ka ?_ _)); exact BK175.out) hb); have n6_ := Aside0.mk (blk_below (g := gb180) (o := .cells #[.int .i64 t176, .slice Ao50 t177.length co50] 27 (0, 0)) (by (with_reducible repeat (first | refine kn ?_ _ | refine kd ?_ | refine ka ?_ _)); refine blk_put (cs := #[.int .i64 t176, .slice none 0 0]) ?_ 1 _ rfl; (with_reducible repeat (first | refine kn ?_ _ | refine kd ?_ | refine ka ?_ _)); refine blk_put (cs := #[.int .i64 0, .slice none 0 0]) ?_ 0 _ rfl; (with_reducible repeat (first | refine kn ?_ _ | refine kd ?_ | refine ka ?_ _)); exact BK180.out) hb); have n7_ := Aside0.mk (below_step (by repeat (first | (with_reducible first | exact HB.out | apply ba | apply bn | apply bd | refine bs ?_ (by assumption)) | exact HB.out)) hb); clear HO169 HO173 HO179 BK164 BK175 BK180 HB; have HO169 := n0_; have HO173 := n1_; have HO179 := n2_; have HO184 := n3_; have BK164 := n4_; have BK175 := n5_; have BK180 := n6_; have HB := n7_; clear n0_ n1_ n2_ n3_ n4_ n5_ n6_ n7_; (try clear hb); (try clear hb2); (try clear hk); (try clear hi); (try clear ho0)) | ((with_reducible refine gate_dst (N := 7) rfl ?_); refine box_event ?hg (N := 7) ?hd (cs := #[.int .i64 0, .slice none 0 0]) (t := 27) ?hr ?_; (case hd => rfl); (case hg => rfl); (case hr => first | (go_simp; done) | (go_simp; rfl)); intro gb186 hg w52 hbox hb; have n0_ := Aside0.mk (Kd.R_below (rz HO169.out) hb); have n1_ := Aside0.mk (Kd.R_below (rz HO173.out) hb); have n2_ := Aside0.mk (Kd.R_below (rz HO179.out) hb); have n3_ := Aside0.mk (Kd.R_below (rz HO184.out) hb); have n4_ := bk BK164 hb; have n5_ := bk BK175 hb; have n6_ := bk BK180 hb; have n7_ := Aside0.mk (below_step (by repeat (first | (with_reducible first | exact HB.out | apply ba | apply bn | apply bd | refine bs ?_ (by assumption)) | exact HB.out)) hb); have n8_ := Aside0.mk (hbox); have n9_ := Aside0.mk ((by rw [hg]; exact (below_size (by repeat (first | (with_reducible first | exact HB.out | apply ba | apply bn | apply bd | refine bs ?_ (by assumption)) | exact HB.out))) : w.heap.size ≤ gb186)); have n10_ := Aside0.mk ((by rw [hg]; exact (below_size (by repeat (first | (with_reducible first | exact HB.out | apply ba | apply bn | apply bd | refine bs ?_ (by assumption)) | exact HB.out))) : w.heap.size ≤ gb186)); have n11_ := Aside0.mk ((by rw [hg]; exact Nat.ne_of_lt (blk_lt (kz BK164.out)) : gb164 ≠ gb186)); have n12_ := Aside0.mk ((by rw [hg]; exact Nat.ne_of_gt (blk_lt (kz BK164.out)) : gb186 ≠ gb164)); have n13_ := Aside0.mk ((by rw [hg]; exact Nat.ne_of_lt (blk_lt (kz BK175.out)) : gb175 ≠ gb186)); have n14_ := Aside0.mk ((by rw [hg]; exact Nat.ne_of_gt (blk_lt (kz BK175.out)) : gb186 ≠ gb175)); have n15_ := Aside0.mk ((by rw [hg]; exact Nat.ne_of_lt (blk_lt (kz BK180.out)) : gb180 ≠ gb186)); have n16_ := Aside0.mk ((by rw [hg]; exact Nat.ne_of_gt (blk_lt (kz BK180.out)) : gb186 ≠ gb180)); clear HO169 HO173 HO179 HO184 BK164 BK175 BK180 HB; have HO169 := n0_; have HO173 := n1_; have HO179 := n2_; have HO184 := n3_; have BK164 := n4_; have BK175 := n5_; have BK180 := n6_; have HB := n7_; have BK186 := n8_; have GW186 := n9_; have GE186 := n10_; have NB164_186 := n11_; have NB186_164 := n12_; have NB175_186 := n13_; have NB186_175 := n14_; have NB180_186 := n15_; have NB186_180 := n16_; clear n0_ n1_ n2_ n3_ n4_ n5_ n6_ n7_ n8_ n9_ n10_ n11_ n12_ n13_ n14_ n15_ n16_ hb hbox hg; have hnb53 := NB186_164.out; have hnc53 := NB164_186.out; have hnb54 := NB186_175.out; have hnc54 := NB175_186.out; have hnb55 := NB186_180.out; have hnc55 := NB180_186.out; have hcz56_0 := cz20 BK186.out; have hcz56_1 := cz21 BK186.out; have hfz56_0 := blk_frozen BK186.out 0; have hfz56_1 := blk_frozen BK186.out 1; obtain ⟨Ao57, co57, eo57⟩ := Kd.R_slice HO184.out; subst eo57; have hcz58_0 := cz20 BK175.out; have hcz58_1 := cz21 BK175.out; have hfz58_0 := blk_frozen BK175.out 0; have hfz58_1 := blk_frozen BK175.out 1) | ((with_reducible refine gate_callee (f := 18) rfl ?_); refine goesL_ (some 34) rfl rfl Try.func18 (by kernel_rfl) rfl #[.agg #[.int .i64 t181, .slice Ao57 t182.length co57], .agg #[.int .i64 t170, .slice Ao43 t171.length co43]] rfl (by (try simp only [List.map_toArray, List.map_cons, List.map_nil]); first | done | rfl | (simp only [List.length_drop, List.length_take]; rfl)) ?_; (with_reducible refine (laws_eqMatrix.calls k t181 _ _ t182 t170 _ _ t171 true _ ?side1 ?side2 ?side3 ?side4 A11.out).mono ?_); (case side1 => refine (Kd.R_reads' (e := 3) (base := w.heap.size) (ok := fun k_ => (((True ∧ some k_ ≠ (.slice Ao38 t167.length co38 : Value).ownBlock) ∧ some k_ ≠ (.slice Ao43 t171.length co43 : Value).ownBlock) ∧ some k_ ≠ (.slice Ao50 t177.length co50 : Value).ownBlock)) (n := t182.length) (c := co57) ?_).2.2; exact (by (with_reducible repeat (first | apply ra | apply rn | apply rw_)); exact (Kd.R_mono (Kd.R_far (p := ⟨gb186, 1, none⟩) (Kd.R_far (p := ⟨gb186, 0, none⟩) (Kd.R_types HO184.out BK186.out (by decide)) (fun _ hk => hk.2) (.int .i64 t181)) (fun _ hk => hk.2) (.slice Ao57 t182.length co57)) (fun _ h_ => h_.1)))); (case side2 => exact (Kd.R_reads' HO184.out).2.1); (case side3 => refine (Kd.R_reads' (e := 3) (base := w.heap.size) (ok := fun k_ => (((True ∧ some k_ ≠ (.slice Ao38 t167.length co38 : Value).ownBlock) ∧ some k_ ≠ (.slice Ao50 t177.length co50 : Value).ownBlock) ∧ some k_ ≠ (.slice Ao57 t182.length co57 : Value).ownBlock)) (n := t171.length) (c := co43) ?_).2.2; exact (by (with_reducible repeat (first | apply ra | apply rn | apply rw_)); exact (Kd.R_mono (Kd.R_far (p := ⟨gb186, 1, none⟩) (Kd.R_far (p := ⟨gb186, 0, none⟩) (Kd.R_types HO173.out BK186.out (by decide)) (fun _ hk => hk.2) (.int .i64 t181)) (fun _ hk => hk.2) (.slice Ao57 t182.length co57)) (fun _ h_ => h_.1)))); (case side4 => exact (Kd.R_reads' HO173.out).2.1); rintro e w59 ⟨rfl, hb⟩; refine ⟨_, rfl, ?_⟩; have n0_ := Aside0.mk (Kd.R_below (by (with_reducible repeat (first | apply ra | apply rn | apply rw_)); exact (Kd.R_mono (Kd.R_far (p := ⟨gb186, 1, none⟩) (Kd.R_far (p := ⟨gb186, 0, none⟩) (Kd.R_types HO169.out BK186.out (by decide)) (fun _ hk => hk.2) (.int .i64 t181)) (fun _ hk => hk.2) (.slice Ao57 t182.length co57)) (fun _ h_ => h_.1))) hb); have n1_ := Aside0.mk (Kd.R_below (by (with_reducible repeat (first | apply ra | apply rn | apply rw_)); exact (Kd.R_mono (Kd.R_far (p := ⟨gb186, 1, none⟩) (Kd.R_far (p := ⟨gb186, 0, none⟩) (Kd.R_types HO173.out BK186.out (by decide)) (fun _ hk => hk.2) (.int .i64 t181)) (fun _ hk => hk.2) (.slice Ao57 t182.length co57)) (fun _ h_ => h_.1))) hb); have n2_ := Aside0.mk (Kd.R_below (by (with_reducible repeat (first | apply ra | apply rn | apply rw_)); exact (Kd.R_mono (Kd.R_far (p := ⟨gb186, 1, none⟩) (Kd.R_far (p := ⟨gb186, 0, none⟩) (Kd.R_types HO179.out BK186.out (by decide)) (fun _ hk => hk.2) (.int .i64 t181)) (fun _ hk => hk.2) (.slice Ao57 t182.length co57)) (fun _ h_ => h_.1))) hb); have n3_ := Aside0.mk (Kd.R_below (by (with_reducible repeat (first | apply ra | apply rn | apply rw_)); exact (Kd.R_mono (Kd.R_far (p := ⟨gb186, 1, none⟩) (Kd.R_far (p := ⟨gb186, 0, none⟩) (Kd.R_types HO184.out BK186.out (by decide)) (fun _ hk => hk.2) (.int .i64 t181)) (fun _ hk => hk.2) (.slice Ao57 t182.length co57)) (fun _ h_ => h_.1))) hb); have n4_ := Aside0.mk (blk_below (g := gb164) (o := .cells #[.int .i64 a0_0, .slice A0_1 l0_1.length c0_1] 24 (0, 0)) (by (with_reducible repeat (first | refine kn ?_ _ | refine kd ?_ | refine ka ?_ _)); refine blk_far ?_ NB164_186.out _; (with_reducible repeat (first | refine kn ?_ _ | refine kd ?_ | refine ka ?_ _)); refine blk_far ?_ NB164_186.out _; (with_reducible repeat (first | refine kn ?_ _ | refine kd ?_ | refine ka ?_ _)); exact BK164.out) hb); have n5_ := Aside0.mk (blk_below (g := gb175) (o := .cells #[.int .i64 t170, .slice Ao43 t171.length co43] 27 (0, 0)) (by (with_reducible repeat (first | refine kn ?_ _ | refine kd ?_ | refine ka ?_ _)); refine blk_far ?_ NB175_186.out _; (with_reducible repeat (first | refine kn ?_ _ | refine kd ?_ | refine ka ?_ _)); refine blk_far ?_ NB175_186.out _; (with_reducible repeat (first | refine kn ?_ _ | refine kd ?_ | refine ka ?_ _)); exact BK175.out) hb); have n6_ := Aside0.mk (blk_below (g := gb180) (o := .cells #[.int .i64 t176, .slice Ao50 t177.length co50] 27 (0, 0)) (by (with_reducible repeat (first | refine kn ?_ _ | refine kd ?_ | refine ka ?_ _)); refine blk_far ?_ NB180_186.out _; (with_reducible repeat (first | refine kn ?_ _ | refine kd ?_ | refine ka ?_ _)); refine blk_far ?_ NB180_186.out _; (with_reducible repeat (first | refine kn ?_ _ | refine kd ?_ | refine ka ?_ _)); exact BK180.out) hb); have n7_ := Aside0.mk (blk_below (g := gb186) (o := .cells #[.int .i64 t181, .slice Ao57 t182.length co57] 27 (0, 0)) (by (with_reducible repeat (first | refine kn ?_ _ | refine kd ?_ | refine ka ?_ _)); refine blk_put (cs := #[.int .i64 t181, .slice none 0 0]) ?_ 1 _ rfl; (with_reducible repeat (first | refine kn ?_ _ | refine kd ?_ | refine ka ?_ _)); refine blk_put (cs := #[.int .i64 0, .slice none 0 0]) ?_ 0 _ rfl; (with_reducible repeat (first | refine kn ?_ _ | refine kd ?_ | refine ka ?_ _)); exact BK186.out) hb); have n8_ := Aside0.mk (below_step (by repeat (first | (with_reducible first | exact HB.out | apply ba | apply bn | apply bd | refine bs ?_ (by assumption)) | exact HB.out)) hb); clear HO169 HO173 HO179 HO184 BK164 BK175 BK180 BK186 HB; have HO169 := n0_; have HO173 := n1_; have HO179 := n2_; have HO184 := n3_; have BK164 := n4_; have BK175 := n5_; have BK180 := n6_; have BK186 := n7_; have HB := n8_; clear n0_ n1_ n2_ n3_ n4_ n5_ n6_ n7_ n8_; (try clear hb); (try clear hb2); (try clear hk); (try clear hi)))
             have n0_ := Aside0.mk (Kd.R_drew HO169.out)
             have n1_ := Aside0.mk (Kd.R_drew HO173.out)
             have n2_ := Aside0.mk (Kd.R_drew HO179.out)
             have n3_ := Aside0.mk (Kd.R_drew HO184.out)
             have n4_ := Aside0.mk (blk_drew BK164.out)
             have n5_ := Aside0.mk (blk_drew BK175.out)
             have n6_ := Aside0.mk (blk_drew BK180.out)
             have n7_ := Aside0.mk (blk_drew BK186.out)
             have n8_ := Aside0.mk (below_drew1 HB.out)
             clear HO169 HO173 HO179 HO184 BK164 BK175 BK180 BK186 HB
             have HO169 := n0_
             have HO173 := n1_
             have HO179 := n2_
             have HO184 := n3_
             have BK164 := n4_
             have BK175 := n5_
             have BK180 := n6_
             have BK186 := n7_
             have HB := n8_
             clear n0_ n1_ n2_ n3_ n4_ n5_ n6_ n7_ n8_
             refine start_ (n := 5) (S := fun w' => w'.cell? ⟨gb180, 0, none⟩ = some (.int .i64 t176) ∧ w'.cell? ⟨gb180, 1, none⟩ = some (.slice Ao50 t177.length co50) ∧ w'.cell? ⟨gb164, 0, none⟩ = some (.int .i64 a0_0) ∧ w'.cell? ⟨gb164, 1, none⟩ = some (.slice A0_1 l0_1.length c0_1)) (ds := []) #[false, false, false, false, false] (by kernel_rfl) rfl rfl ⟨(blk_cell BK180.out 0).trans rfl, (blk_cell BK180.out 1).trans rfl, (blk_cell BK164.out 0).trans rfl, (blk_cell BK164.out 1).trans rfl⟩ (fun hHeld => ?_)
             generalize w59.drew = w60 at HO169 HO173 HO179 HO184 BK164 BK175 BK180 BK186 HB hHeld ⊢
             refine take_ (i := 0) (N := some 41) (v := ?_) (a' := ?_) #[true, false, false, false, false] rfl rfl (by kernel_rfl) (fun _ _ _ h => h) (Or.inl ⟨by rfl, ?_⟩) hHeld ?_ ?_
             rotate_left
             ·rintro w' ⟨s0, s1, s2, s3⟩
              go_simp
              with_reducible rfl
             rotate_left
             ·simp only [Act.put, List.setIfInBounds_toArray, List.set_cons_zero, List.set_cons_succ, i64_w, i32_w]
              rfl
             refine take_ (i := 1) (N := some 42) (v := ?_) (a' := ?_) #[true, true, false, false, false] rfl rfl (by kernel_rfl) (fun _ _ _ h => h) (Or.inl ⟨by rfl, ?_⟩) hHeld ?_ ?_
             rotate_left
             ·rintro w' ⟨s0, s1, s2, s3⟩
              go_simp
              with_reducible rfl
             rotate_left
             ·simp only [Act.put, List.setIfInBounds_toArray, List.set_cons_zero, List.set_cons_succ, i64_w, i32_w]
              rfl
             refine one_ (i := 2) (N := some 43) #[true, true, true, false, false] rfl rfl (by kernel_rfl) (by decide) (fun K hK => ?_)
             refine goes_ Try.func16 (by kernel_rfl) rfl #[.agg #[.int .i64 a0_0, .slice A0_1 l0_1.length c0_1]] (by rfl) rfl rfl (by (try simp only [List.map_toArray, List.map_cons, List.map_nil]); first | done | rfl | (simp only [List.length_drop, List.length_take]; rfl)) ?_
             with_reducible refine (laws_toMatrix.calls k a0_0 _ _ l0_1 t188 t189 _ ?side1 ?side2 A14.out).mono ?_
             (case side1 => repeat (first | exact (Kd.C_below HR0_1.out HB.out) | (with_reducible refine Kd.C_alloc ?_ _) | (with_reducible refine Kd.C_drewN ?_ _) | (with_reducible refine Kd.C_drew ?_)))
             (case side2 => exact HC0_1.out)
             rintro e w61 ⟨v190, rfl, ho0, hb⟩
             refine ⟨_, rfl, ?_⟩
             have n0_ := el HO169 (Kd.R_base ho0) hb
             have n1_ := el HO173 (Kd.R_base ho0) hb
             have n2_ := el HO179 (Kd.R_base ho0) hb
             have n3_ := el HO184 (Kd.R_base ho0) hb
             have n4_ := Aside0.mk (Kd.R_lower (Kd.R_new' (Kd.R_new' (Kd.R_new' (Kd.R_new' ho0 (Kd.R_lt (rz HO169.out))) (Kd.R_lt (rz HO173.out))) (Kd.R_lt (rz HO179.out))) (Kd.R_lt (rz HO184.out))) (below_size (by repeat (first | (with_reducible first | exact HB.out | apply ba | apply bn | apply bd | refine bs ?_ (by assumption)) | exact HB.out))))
             have n5_ := bk BK164 hb
             have n6_ := bk BK175 hb
             have n7_ := bk BK180 hb
             have n8_ := bk BK186 hb
             have n9_ := Aside0.mk (below_step (by repeat (first | (with_reducible first | exact HB.out | apply ba | apply bn | apply bd | refine bs ?_ (by assumption)) | exact HB.out)) hb)
             clear HO169 HO173 HO179 HO184 BK164 BK175 BK180 BK186 HB
             have HO169 := n0_
             have HO173 := n1_
             have HO179 := n2_
             have HO184 := n3_
             have HO191 := n4_
             have BK164 := n5_
             have BK175 := n6_
             have BK180 := n7_
             have BK186 := n8_
             have HB := n9_
             clear n0_ n1_ n2_ n3_ n4_ n5_ n6_ n7_ n8_ n9_
             (try clear hb)
             (try clear hb2)
             (try clear hk)
             (try clear hi)
             (try clear ho0)
             obtain ⟨Ao62, co62, eo62⟩ := Kd.R_slice HO191.out
             (first | subst eo62 | (injection eo62 with f1_ f2_ f3_; have f4_ := f1_.symm; have f5_ := f3_.symm; clear f1_ f2_ f3_; subst f4_; subst f5_))
             refine hK.out _ _ ⟨(blk_cell BK180.out 0).trans rfl, (blk_cell BK180.out 1).trans rfl, (blk_cell BK164.out 0).trans rfl, (blk_cell BK164.out 1).trans rfl⟩ (fun hHeld => ?_)
             clear hK K
             refine norm_ (a' := ?_) ?_ ?_
             rotate_left
             ·show Act.put _ (some 43) _ = _
              simp only [Act.put, List.setIfInBounds_toArray, List.set_cons_zero, List.set_cons_succ, i64_w, i32_w]
              rfl
             refine one_ (i := 3) (N := some 44) #[true, true, true, true, false] rfl rfl (by kernel_rfl) (by decide) (fun K hK => ?_)
             refine goes_ Try.func18 (by kernel_rfl) rfl #[.agg #[.int .i64 t176, .slice Ao50 t177.length co50], .agg #[.int .i64 t188, .slice Ao62 t189.length co62]] (by rfl) rfl rfl (by (try simp only [List.map_toArray, List.map_cons, List.map_nil]); first | done | rfl | (simp only [List.length_drop, List.length_take]; rfl)) ?_
             with_reducible refine (laws_eqMatrix.calls k t176 _ _ t177 t188 _ _ t189 true _ ?side1 ?side2 ?side3 ?side4 A15.out).mono ?_
             (case side1 => repeat (first | exact (Kd.R_reads' HO179.out).2.2 | (with_reducible refine Kd.C_alloc ?_ _) | (with_reducible refine Kd.C_drewN ?_ _) | (with_reducible refine Kd.C_drew ?_)))
             (case side2 => exact (Kd.R_reads' HO179.out).2.1)
             (case side3 => repeat (first | exact (Kd.R_reads' HO191.out).2.2 | (with_reducible refine Kd.C_alloc ?_ _) | (with_reducible refine Kd.C_drewN ?_ _) | (with_reducible refine Kd.C_drew ?_)))
             (case side4 => exact (Kd.R_reads' HO191.out).2.1)
             rintro e w63 ⟨rfl, hb⟩
             refine ⟨_, rfl, ?_⟩
             have n0_ := Aside0.mk (Kd.R_below (rz HO169.out) hb)
             have n1_ := Aside0.mk (Kd.R_below (rz HO173.out) hb)
             have n2_ := Aside0.mk (Kd.R_below (rz HO179.out) hb)
             have n3_ := Aside0.mk (Kd.R_below (rz HO184.out) hb)
             have n4_ := Aside0.mk (Kd.R_below (rz HO191.out) hb)
             have n5_ := bk BK164 hb
             have n6_ := bk BK175 hb
             have n7_ := bk BK180 hb
             have n8_ := bk BK186 hb
             have n9_ := Aside0.mk (below_step (by repeat (first | (with_reducible first | exact HB.out | apply ba | apply bn | apply bd | refine bs ?_ (by assumption)) | exact HB.out)) hb)
             clear HO169 HO173 HO179 HO184 HO191 BK164 BK175 BK180 BK186 HB
             have HO169 := n0_
             have HO173 := n1_
             have HO179 := n2_
             have HO184 := n3_
             have HO191 := n4_
             have BK164 := n5_
             have BK175 := n6_
             have BK180 := n7_
             have BK186 := n8_
             have HB := n9_
             clear n0_ n1_ n2_ n3_ n4_ n5_ n6_ n7_ n8_ n9_
             (try clear hb)
             (try clear hb2)
             (try clear hk)
             (try clear hi)
             refine hK.out _ _ ⟨(blk_cell BK180.out 0).trans rfl, (blk_cell BK180.out 1).trans rfl, (blk_cell BK164.out 0).trans rfl, (blk_cell BK164.out 1).trans rfl⟩ (fun hHeld => ?_)
             clear hK K
             refine norm_ (a' := ?_) ?_ ?_
             rotate_left
             ·show Act.put _ (some 44) _ = _
              simp only [Act.put, List.setIfInBounds_toArray, List.set_cons_zero, List.set_cons_succ, i64_w, i32_w]
              rfl
             refine pure_ (i := 4) (N := some 45) (v := ?_) (a' := ?_) #[true, true, true, true, true] rfl rfl (by kernel_rfl) (fun _ _ _ h => h) (Or.inl ⟨by rfl, ?_⟩) ?_ ?_
             rotate_left
             ·intro w'
              go_simp
              with_reducible rfl
             rotate_left
             ·simp only [Act.put, List.setIfInBounds_toArray, List.set_cons_zero, List.set_cons_succ, i64_w, i32_w]
              rfl
             refine done_ (by kernel_rfl) ?_
             have hcz64_0 := cz20 BK180.out
             have hcz64_1 := cz21 BK180.out
             have hfz64_0 := blk_frozen BK180.out 0
             have hfz64_1 := blk_frozen BK180.out 1
             try go_wp2_with (first | ((with_reducible refine gate_callee (f := 21) rfl ?_); refine goesL_ (some 48) rfl rfl Try.func21 (by kernel_rfl) rfl #[.agg #[.int .i64 t176, .slice Ao50 t177.length co50], .int .i64 1] rfl (by (try simp only [List.map_toArray, List.map_cons, List.map_nil]); first | done | rfl | (simp only [List.length_drop, List.length_take]; rfl)) ?_; (with_reducible refine (laws_markMatrix.calls k t176 (fun k_ => some k_ = (.slice Ao50 t177.length co50 : Value).ownBlock) (.slice Ao50 t177.length co50) t177 1 t193 t194 w _ ?side1 ?side2 A17.out).mono ?_); (case side1 => repeat (first | (with_reducible first | exact HB.out | apply below_alloc | apply pw_below_drewN | apply below_drew1 | refine below_set ?_ GE164.out | refine below_set ?_ GE175.out | refine below_set ?_ GE180.out | refine below_set ?_ GE186.out) | exact HB.out)); (case side2 => exact Kd.R_tight rfl HO179.out); rintro e w65 ⟨rfl, hy0, hb, hkp⟩; refine ⟨_, rfl, ?_⟩; have n0_ := Aside0.mk (blk_kept (kz BK164.out) hkp (fun hs_ => (fun e_ => (Kd.R_ne HO179.out BK164.out (by decide)) e_) hs_)); have n1_ := Aside0.mk (Kd.R_mono (ok' := fun k_ => some k_ ≠ (.slice Ao43 t171.length co43 : Value).ownBlock ∧ some k_ ≠ (.slice Ao50 t177.length co50 : Value).ownBlock ∧ some k_ ≠ (.slice Ao57 t182.length co57 : Value).ownBlock ∧ some k_ ≠ (.slice Ao62 t189.length co62 : Value).ownBlock) (Kd.R_keptB (HO169.out) hkp (fun k_ hk_ hs_ => (hk_.1.1.2) hs_)) (fun k_ hk_ => ⟨hk_.1.1.1.1.2, hk_.1.1.1.2, hk_.1.1.2, hk_.1.2⟩)); have n2_ := Aside0.mk (Kd.R_mono (ok' := fun k_ => some k_ ≠ (.slice Ao38 t167.length co38 : Value).ownBlock ∧ some k_ ≠ (.slice Ao50 t177.length co50 : Value).ownBlock ∧ some k_ ≠ (.slice Ao57 t182.length co57 : Value).ownBlock ∧ some k_ ≠ (.slice Ao62 t189.length co62 : Value).ownBlock) (Kd.R_keptB (HO173.out) hkp (fun k_ hk_ hs_ => (hk_.1.1.2) hs_)) (fun k_ hk_ => ⟨hk_.1.1.1.1.2, hk_.1.1.1.2, hk_.1.1.2, hk_.1.2⟩)); have n3_ := Aside0.mk (blk_kept (kz BK175.out) hkp (fun hs_ => (fun e_ => (Kd.R_ne HO179.out BK175.out (by decide)) e_) hs_)); have n4_ := Aside0.mk (Kd.R_reok rfl hy0 (fun k_ e_ => HO179.out.1 k_ e_)); have n5_ := Aside0.mk (blk_kept (kz BK180.out) hkp (fun hs_ => (fun e_ => (Kd.R_ne HO179.out BK180.out (by decide)) e_) hs_)); have n6_ := Aside0.mk (Kd.R_mono (ok' := fun k_ => some k_ ≠ (.slice Ao38 t167.length co38 : Value).ownBlock ∧ some k_ ≠ (.slice Ao43 t171.length co43 : Value).ownBlock ∧ some k_ ≠ (.slice Ao50 t177.length co50 : Value).ownBlock ∧ some k_ ≠ (.slice Ao62 t189.length co62 : Value).ownBlock) (Kd.R_keptB (HO184.out) hkp (fun k_ hk_ hs_ => (hk_.1.2) hs_)) (fun k_ hk_ => ⟨hk_.1.1.1.1.2, hk_.1.1.1.2, hk_.1.1.2, hk_.1.2⟩)); have n7_ := Aside0.mk (blk_kept (kz BK186.out) hkp (fun hs_ => (fun e_ => (Kd.R_ne HO179.out BK186.out (by decide)) e_) hs_)); have n8_ := Aside0.mk (Kd.R_mono (ok' := fun k_ => some k_ ≠ (.slice Ao38 t167.length co38 : Value).ownBlock ∧ some k_ ≠ (.slice Ao43 t171.length co43 : Value).ownBlock ∧ some k_ ≠ (.slice Ao50 t177.length co50 : Value).ownBlock ∧ some k_ ≠ (.slice Ao57 t182.length co57 : Value).ownBlock) (Kd.R_keptB (HO191.out) hkp (fun k_ hk_ hs_ => (hk_.1.2) hs_)) (fun k_ hk_ => ⟨hk_.1.1.1.1.2, hk_.1.1.1.2, hk_.1.1.2, hk_.1.2⟩)); have n9_ := Aside0.mk (hb); clear BK164 HO169 HO173 BK175 HO179 BK180 HO184 BK186 HO191 HB; have BK164 := n0_; have HO169 := n1_; have HO173 := n2_; have BK175 := n3_; have HO179 := n4_; have BK180 := n5_; have HO184 := n6_; have BK186 := n7_; have HO191 := n8_; have HB := n9_; clear n0_ n1_ n2_ n3_ n4_ n5_ n6_ n7_ n8_ n9_; (try clear hb); (try clear hkp); (try clear hy0); have hcz66_0 := cz20 BK186.out; have hcz66_1 := cz21 BK186.out; have hfz66_0 := blk_frozen BK186.out 0; have hfz66_1 := blk_frozen BK186.out 1; have hcz67_0 := cz20 BK175.out; have hcz67_1 := cz21 BK175.out; have hfz67_0 := blk_frozen BK175.out 0; have hfz67_1 := blk_frozen BK175.out 1) | (go_at_call 18; (with_reducible refine (laws_eqMatrix.calls k t181 _ _ t182 t170 _ _ t171 true _ ?side1 ?side2 ?side3 ?side4 A19.out).mono ?_); (case side1 => repeat (first | exact (Kd.R_reads' HO184.out).2.2 | (with_reducible refine Kd.C_alloc ?_ _) | (with_reducible refine Kd.C_drewN ?_ _) | (with_reducible refine Kd.C_drew ?_))); (case side2 => exact (Kd.R_reads' HO184.out).2.1); (case side3 => repeat (first | exact (Kd.R_reads' HO173.out).2.2 | (with_reducible refine Kd.C_alloc ?_ _) | (with_reducible refine Kd.C_drewN ?_ _) | (with_reducible refine Kd.C_drew ?_))); (case side4 => exact (Kd.R_reads' HO173.out).2.1); rintro e w68 ⟨rfl, hb⟩; have n0_ := Aside0.mk (Kd.R_below (rz HO169.out) hb); have n1_ := Aside0.mk (Kd.R_below (rz HO173.out) hb); have n2_ := Aside0.mk (Kd.R_below (rz HO179.out) hb); have n3_ := Aside0.mk (Kd.R_below (rz HO184.out) hb); have n4_ := Aside0.mk (Kd.R_below (rz HO191.out) hb); have n5_ := bk BK164 hb; have n6_ := bk BK175 hb; have n7_ := bk BK180 hb; have n8_ := bk BK186 hb; have n9_ := Aside0.mk (below_step (by repeat (first | (with_reducible first | exact HB.out | apply ba | apply bn | apply bd | refine bs ?_ (by assumption)) | exact HB.out)) hb); clear HO169 HO173 HO179 HO184 HO191 BK164 BK175 BK180 BK186 HB; have HO169 := n0_; have HO173 := n1_; have HO179 := n2_; have HO184 := n3_; have HO191 := n4_; have BK164 := n5_; have BK175 := n6_; have BK180 := n7_; have BK186 := n8_; have HB := n9_; clear n0_ n1_ n2_ n3_ n4_ n5_ n6_ n7_ n8_ n9_; (try clear hb); (try clear hb2); (try clear hk); (try clear hi); have hcz69_0 := cz20 BK186.out; have hcz69_1 := cz21 BK186.out; have hfz69_0 := blk_frozen BK186.out 0; have hfz69_1 := blk_frozen BK186.out 1) | ((with_reducible refine gate_callee (f := 21) rfl ?_); refine goesL_ (some 64) rfl rfl Try.func21 (by kernel_rfl) rfl #[.agg #[.int .i64 t181, .slice Ao57 t182.length co57], .int .i64 1] rfl (by (try simp only [List.map_toArray, List.map_cons, List.map_nil]); first | done | rfl | (simp only [List.length_drop, List.length_take]; rfl)) ?_; (with_reducible refine (laws_markMatrix.calls k t181 (fun k_ => some k_ = (.slice Ao57 t182.length co57 : Value).ownBlock) (.slice Ao57 t182.length co57) t182 1 t196 t197 w _ ?side1 ?side2 A21.out).mono ?_); (case side1 => repeat (first | (with_reducible first | exact HB.out | apply below_alloc | apply pw_below_drewN | apply below_drew1 | refine below_set ?_ GE164.out | refine below_set ?_ GE175.out | refine below_set ?_ GE180.out | refine below_set ?_ GE186.out) | exact HB.out)); (case side2 => exact Kd.R_tight rfl HO184.out); rintro e w70 ⟨rfl, hy0, hb, hkp⟩; refine ⟨_, rfl, ?_⟩; have n0_ := Aside0.mk (blk_kept (kz BK164.out) hkp (fun hs_ => (fun e_ => (Kd.R_ne HO184.out BK164.out (by decide)) e_) hs_)); have n1_ := Aside0.mk (Kd.R_mono (ok' := fun k_ => some k_ ≠ (.slice Ao43 t171.length co43 : Value).ownBlock ∧ some k_ ≠ (.slice Ao50 t177.length co50 : Value).ownBlock ∧ some k_ ≠ (.slice Ao57 t182.length co57 : Value).ownBlock ∧ some k_ ≠ (.slice Ao62 t189.length co62 : Value).ownBlock) (Kd.R_keptB (HO169.out) hkp (fun k_ hk_ hs_ => (hk_.2.2.1) hs_)) (fun k_ hk_ => ⟨hk_.1.1, hk_.1.2.1, hk_.1.2.2.1, hk_.1.2.2.2⟩)); have n2_ := Aside0.mk (Kd.R_mono (ok' := fun k_ => some k_ ≠ (.slice Ao38 t167.length co38 : Value).ownBlock ∧ some k_ ≠ (.slice Ao50 t177.length co50 : Value).ownBlock ∧ some k_ ≠ (.slice Ao57 t182.length co57 : Value).ownBlock ∧ some k_ ≠ (.slice Ao62 t189.length co62 : Value).ownBlock) (Kd.R_keptB (HO173.out) hkp (fun k_ hk_ hs_ => (hk_.2.2.1) hs_)) (fun k_ hk_ => ⟨hk_.1.1, hk_.1.2.1, hk_.1.2.2.1, hk_.1.2.2.2⟩)); have n3_ := Aside0.mk (blk_kept (kz BK175.out) hkp (fun hs_ => (fun e_ => (Kd.R_ne HO184.out BK175.out (by decide)) e_) hs_)); have n4_ := Aside0.mk (Kd.R_mono (ok' := fun k_ => some k_ ≠ (.slice Ao38 t167.length co38 : Value).ownBlock ∧ some k_ ≠ (.slice Ao43 t171.length co43 : Value).ownBlock ∧ some k_ ≠ (.slice Ao57 t182.length co57 : Value).ownBlock ∧ some k_ ≠ (.slice Ao62 t189.length co62 : Value).ownBlock) (Kd.R_keptB (HO179.out) hkp (fun k_ hk_ hs_ => (hk_.1.2) hs_)) (fun k_ hk_ => ⟨hk_.1.1.1.1.2, hk_.1.1.1.2, hk_.1.1.2, hk_.1.2⟩)); have n5_ := Aside0.mk (blk_kept (kz BK180.out) hkp (fun hs_ => (fun e_ => (Kd.R_ne HO184.out BK180.out (by decide)) e_) hs_)); have n6_ := Aside0.mk (Kd.R_reok rfl hy0 (fun k_ e_ => HO184.out.1 k_ e_)); have n7_ := Aside0.mk (blk_kept (kz BK186.out) hkp (fun hs_ => (fun e_ => (Kd.R_ne HO184.out BK186.out (by decide)) e_) hs_)); have n8_ := Aside0.mk (Kd.R_mono (ok' := fun k_ => some k_ ≠ (.slice Ao38 t167.length co38 : Value).ownBlock ∧ some k_ ≠ (.slice Ao43 t171.length co43 : Value).ownBlock ∧ some k_ ≠ (.slice Ao50 t177.length co50 : Value).ownBlock ∧ some k_ ≠ (.slice Ao57 t182.length co57 : Value).ownBlock) (Kd.R_keptB (HO191.out) hkp (fun k_ hk_ hs_ => (hk_.2.2.2) hs_)) (fun k_ hk_ => ⟨hk_.1.1, hk_.1.2.1, hk_.1.2.2.1, hk_.1.2.2.2⟩)); have n9_ := Aside0.mk (hb); clear BK164 HO169 HO173 BK175 HO179 BK180 HO184 BK186 HO191 HB; have BK164 := n0_; have HO169 := n1_; have HO173 := n2_; have BK175 := n3_; have HO179 := n4_; have BK180 := n5_; have HO184 := n6_; have BK186 := n7_; have HO191 := n8_; have HB := n9_; clear n0_ n1_ n2_ n3_ n4_ n5_ n6_ n7_ n8_ n9_; (try clear hb); (try clear hkp); (try clear hy0); have hcz71_0 := cz20 BK186.out; have hcz71_1 := cz21 BK186.out; have hfz71_0 := blk_frozen BK186.out 0; have hfz71_1 := blk_frozen BK186.out 1) | ((with_reducible refine gate_callee (f := 22) rfl ?_); refine goesL_ (some 67) rfl rfl Try.func22 (by kernel_rfl) rfl #[.agg #[.int .i64 t181, .slice Ao57 t197.length co57], .int .i64 1] rfl (by (try simp only [List.map_toArray, List.map_cons, List.map_nil]); first | done | (rw [show t197.length = t182.length from (Kd.R_reads' HO184.out).1.symm] <;> rfl) | rfl | (simp only [List.length_drop, List.length_take]; rfl)) ?_; (with_reducible refine (laws_heldMatrix.calls k t181 _ _ t197 1 t198 _ ?side1 ?side2 A22.out).mono ?_); (case side1 => repeat (first | exact (Kd.R_reads' HO184.out).2.2 | (with_reducible refine Kd.C_alloc ?_ _) | (with_reducible refine Kd.C_drewN ?_ _) | (with_reducible refine Kd.C_drew ?_))); (case side2 => rw [show t197.length = t182.length from (Kd.R_reads' HO184.out).1.symm]; exact (Kd.R_reads' HO184.out).2.1); rintro e w72 ⟨rfl, hb⟩; refine ⟨_, rfl, ?_⟩; have n0_ := Aside0.mk (Kd.R_below (rz HO169.out) hb); have n1_ := Aside0.mk (Kd.R_below (rz HO173.out) hb); have n2_ := Aside0.mk (Kd.R_below (rz HO179.out) hb); have n3_ := Aside0.mk (Kd.R_below (rz HO184.out) hb); have n4_ := Aside0.mk (Kd.R_below (rz HO191.out) hb); have n5_ := bk BK164 hb; have n6_ := bk BK175 hb; have n7_ := bk BK180 hb; have n8_ := bk BK186 hb; have n9_ := Aside0.mk (below_step (by repeat (first | (with_reducible first | exact HB.out | apply ba | apply bn | apply bd | refine bs ?_ (by assumption)) | exact HB.out)) hb); clear HO169 HO173 HO179 HO184 HO191 BK164 BK175 BK180 BK186 HB; have HO169 := n0_; have HO173 := n1_; have HO179 := n2_; have HO184 := n3_; have HO191 := n4_; have BK164 := n5_; have BK175 := n6_; have BK180 := n7_; have BK186 := n8_; have HB := n9_; clear n0_ n1_ n2_ n3_ n4_ n5_ n6_ n7_ n8_ n9_; (try clear hb); (try clear hb2); (try clear hk); (try clear hi); have hcz73_0 := cz20 BK164.out; have hcz73_1 := cz21 BK164.out; have hfz73_0 := blk_frozen BK164.out 0; have hfz73_1 := blk_frozen BK164.out 1) | ((with_reducible refine gate_callee (f := 16) rfl ?_); refine goesL_ (some 75) rfl rfl Try.func16 (by kernel_rfl) rfl #[.agg #[.int .i64 a0_0, .slice A0_1 l0_1.length c0_1]] rfl (by (try simp only [List.map_toArray, List.map_cons, List.map_nil]); first | done | rfl | (simp only [List.length_drop, List.length_take]; rfl)) ?_; (with_reducible refine (laws_toMatrix.calls k a0_0 _ _ l0_1 t199 t200 _ ?side1 ?side2 A25.out).mono ?_); (case side1 => repeat (first | exact (Kd.C_below HR0_1.out HB.out) | (with_reducible refine Kd.C_alloc ?_ _) | (with_reducible refine Kd.C_drewN ?_ _) | (with_reducible refine Kd.C_drew ?_))); (case side2 => exact HC0_1.out); rintro e w74 ⟨v201, rfl, ho0, hb⟩; refine ⟨_, rfl, ?_⟩; have n0_ := el HO169 (Kd.R_base ho0) hb; have n1_ := el HO173 (Kd.R_base ho0) hb; have n2_ := el HO179 (Kd.R_base ho0) hb; have n3_ := el HO184 (Kd.R_base ho0) hb; have n4_ := el HO191 (Kd.R_base ho0) hb; have n5_ := Aside0.mk (Kd.R_lower (Kd.R_new' (Kd.R_new' (Kd.R_new' (Kd.R_new' (Kd.R_new' ho0 (Kd.R_lt (rz HO169.out))) (Kd.R_lt (rz HO173.out))) (Kd.R_lt (rz HO179.out))) (Kd.R_lt (rz HO184.out))) (Kd.R_lt (rz HO191.out))) (below_size (by repeat (first | (with_reducible first | exact HB.out | apply ba | apply bn | apply bd | refine bs ?_ (by assumption)) | exact HB.out)))); have n6_ := bk BK164 hb; have n7_ := bk BK175 hb; have n8_ := bk BK180 hb; have n9_ := bk BK186 hb; have n10_ := Aside0.mk (below_step (by repeat (first | (with_reducible first | exact HB.out | apply ba | apply bn | apply bd | refine bs ?_ (by assumption)) | exact HB.out)) hb); clear HO169 HO173 HO179 HO184 HO191 BK164 BK175 BK180 BK186 HB; have HO169 := n0_; have HO173 := n1_; have HO179 := n2_; have HO184 := n3_; have HO191 := n4_; have HO202 := n5_; have BK164 := n6_; have BK175 := n7_; have BK180 := n8_; have BK186 := n9_; have HB := n10_; clear n0_ n1_ n2_ n3_ n4_ n5_ n6_ n7_ n8_ n9_ n10_; (try clear hb); (try clear hb2); (try clear hk); (try clear hi); (try clear ho0); obtain ⟨Ao75, co75, eo75⟩ := Kd.R_slice HO202.out; subst eo75) | ((with_reducible refine gate_callee (f := 24) rfl ?_); refine goesL_ (some 76) rfl rfl Try.func24 (by kernel_rfl) rfl #[.agg #[.int .i64 t199, .slice Ao75 t200.length co75]] rfl (by (try simp only [List.map_toArray, List.map_cons, List.map_nil]); first | done | rfl | (simp only [List.length_drop, List.length_take]; rfl)) ?_; (with_reducible refine (impl_TurnMatrix.calls k t199 _ _ t200 t203 t204 t207 _ ?side1 ?side2 A26.out).mono ?_); (case side1 => repeat (first | exact (Kd.R_reads' HO202.out).2.2 | (with_reducible refine Kd.C_alloc ?_ _) | (with_reducible refine Kd.C_drewN ?_ _) | (with_reducible refine Kd.C_drew ?_))); (case side2 => exact (Kd.R_reads' HO202.out).2.1); rintro e w76 ⟨v205, rfl, ho0, hb⟩; refine ⟨_, rfl, ?_⟩; have n0_ := el HO169 (Kd.R_base ho0) hb; have n1_ := el HO173 (Kd.R_base ho0) hb; have n2_ := el HO179 (Kd.R_base ho0) hb; have n3_ := el HO184 (Kd.R_base ho0) hb; have n4_ := el HO191 (Kd.R_base ho0) hb; have n5_ := el HO202 (Kd.R_base ho0) hb; have n6_ := Aside0.mk (Kd.R_lower (Kd.R_new' (Kd.R_new' (Kd.R_new' (Kd.R_new' (Kd.R_new' (Kd.R_new' ho0 (Kd.R_lt (rz HO169.out))) (Kd.R_lt (rz HO173.out))) (Kd.R_lt (rz HO179.out))) (Kd.R_lt (rz HO184.out))) (Kd.R_lt (rz HO191.out))) (Kd.R_lt (rz HO202.out))) (below_size (by repeat (first | (with_reducible first | exact HB.out | apply ba | apply bn | apply bd | refine bs ?_ (by assumption)) | exact HB.out)))); have n7_ := bk BK164 hb; have n8_ := bk BK175 hb; have n9_ := bk BK180 hb; have n10_ := bk BK186 hb; have n11_ := Aside0.mk (below_step (by repeat (first | (with_reducible first | exact HB.out | apply ba | apply bn | apply bd | refine bs ?_ (by assumption)) | exact HB.out)) hb); clear HO169 HO173 HO179 HO184 HO191 HO202 BK164 BK175 BK180 BK186 HB; have HO169 := n0_; have HO173 := n1_; have HO179 := n2_; have HO184 := n3_; have HO191 := n4_; have HO202 := n5_; have HO206 := n6_; have BK164 := n7_; have BK175 := n8_; have BK180 := n9_; have BK186 := n10_; have HB := n11_; clear n0_ n1_ n2_ n3_ n4_ n5_ n6_ n7_ n8_ n9_ n10_ n11_; (try clear hb); (try clear hb2); (try clear hk); (try clear hi); (try clear ho0)) | ((with_reducible refine gate_dst (N := 12) rfl ?_); refine box_event ?hg (N := 12) ?hd (cs := #[.int .i64 0, .slice none 0 0]) (t := 27) ?hr ?_; (case hd => rfl); (case hg => rfl); (case hr => first | (go_simp; done) | (go_simp; rfl)); intro gb208 hg w77 hbox hb; have n0_ := Aside0.mk (Kd.R_below (rz HO169.out) hb); have n1_ := Aside0.mk (Kd.R_below (rz HO173.out) hb); have n2_ := Aside0.mk (Kd.R_below (rz HO179.out) hb); have n3_ := Aside0.mk (Kd.R_below (rz HO184.out) hb); have n4_ := Aside0.mk (Kd.R_below (rz HO191.out) hb); have n5_ := Aside0.mk (Kd.R_below (rz HO202.out) hb); have n6_ := Aside0.mk (Kd.R_below (rz HO206.out) hb); have n7_ := bk BK164 hb; have n8_ := bk BK175 hb; have n9_ := bk BK180 hb; have n10_ := bk BK186 hb; have n11_ := Aside0.mk (below_step (by repeat (first | (with_reducible first | exact HB.out | apply ba | apply bn | apply bd | refine bs ?_ (by assumption)) | exact HB.out)) hb); have n12_ := Aside0.mk (hbox); have n13_ := Aside0.mk ((by rw [hg]; exact (below_size (by repeat (first | (with_reducible first | exact HB.out | apply ba | apply bn | apply bd | refine bs ?_ (by assumption)) | exact HB.out))) : w.heap.size ≤ gb208)); have n14_ := Aside0.mk ((by rw [hg]; exact (below_size (by repeat (first | (with_reducible first | exact HB.out | apply ba | apply bn | apply bd | refine bs ?_ (by assumption)) | exact HB.out))) : w.heap.size ≤ gb208)); have n15_ := Aside0.mk ((by rw [hg]; exact Nat.ne_of_lt (blk_lt (kz BK164.out)) : gb164 ≠ gb208)); have n16_ := Aside0.mk ((by rw [hg]; exact Nat.ne_of_gt (blk_lt (kz BK164.out)) : gb208 ≠ gb164)); have n17_ := Aside0.mk ((by rw [hg]; exact Nat.ne_of_lt (blk_lt (kz BK175.out)) : gb175 ≠ gb208)); have n18_ := Aside0.mk ((by rw [hg]; exact Nat.ne_of_gt (blk_lt (kz BK175.out)) : gb208 ≠ gb175)); have n19_ := Aside0.mk ((by rw [hg]; exact Nat.ne_of_lt (blk_lt (kz BK180.out)) : gb180 ≠ gb208)); have n20_ := Aside0.mk ((by rw [hg]; exact Nat.ne_of_gt (blk_lt (kz BK180.out)) : gb208 ≠ gb180)); have n21_ := Aside0.mk ((by rw [hg]; exact Nat.ne_of_lt (blk_lt (kz BK186.out)) : gb186 ≠ gb208)); have n22_ := Aside0.mk ((by rw [hg]; exact Nat.ne_of_gt (blk_lt (kz BK186.out)) : gb208 ≠ gb186)); clear HO169 HO173 HO179 HO184 HO191 HO202 HO206 BK164 BK175 BK180 BK186 HB; have HO169 := n0_; have HO173 := n1_; have HO179 := n2_; have HO184 := n3_; have HO191 := n4_; have HO202 := n5_; have HO206 := n6_; have BK164 := n7_; have BK175 := n8_; have BK180 := n9_; have BK186 := n10_; have HB := n11_; have BK208 := n12_; have GW208 := n13_; have GE208 := n14_; have NB164_208 := n15_; have NB208_164 := n16_; have NB175_208 := n17_; have NB208_175 := n18_; have NB180_208 := n19_; have NB208_180 := n20_; have NB186_208 := n21_; have NB208_186 := n22_; clear n0_ n1_ n2_ n3_ n4_ n5_ n6_ n7_ n8_ n9_ n10_ n11_ n12_ n13_ n14_ n15_ n16_ n17_ n18_ n19_ n20_ n21_ n22_ hb hbox hg; have hnb78 := NB208_164.out; have hnc78 := NB164_208.out; have hnb79 := NB208_175.out; have hnc79 := NB175_208.out; have hnb80 := NB208_180.out; have hnc80 := NB180_208.out; have hnb81 := NB208_186.out; have hnc81 := NB186_208.out; have hcz82_0 := cz20 BK208.out; have hcz82_1 := cz21 BK208.out; have hfz82_0 := blk_frozen BK208.out 0; have hfz82_1 := blk_frozen BK208.out 1; obtain ⟨Ao83, co83, eo83⟩ := Kd.R_slice HO206.out; subst eo83; have hcz84_0 := cz20 BK175.out; have hcz84_1 := cz21 BK175.out; have hfz84_0 := blk_frozen BK175.out 0; have hfz84_1 := blk_frozen BK175.out 1) | ((with_reducible refine gate_callee (f := 18) rfl ?_); refine goesL_ (some 81) rfl rfl Try.func18 (by kernel_rfl) rfl #[.agg #[.int .i64 t203, .slice Ao83 t204.length co83], .agg #[.int .i64 t170, .slice Ao43 t171.length co43]] rfl (by (try simp only [List.map_toArray, List.map_cons, List.map_nil]); first | done | rfl | (simp only [List.length_drop, List.length_take]; rfl)) ?_; (with_reducible refine (laws_eqMatrix.calls k t203 _ _ t204 t170 _ _ t171 true _ ?side1 ?side2 ?side3 ?side4 A27.out).mono ?_); (case side1 => refine (Kd.R_reads' (e := 3) (base := w.heap.size) (ok := fun k_ => ((((((True ∧ some k_ ≠ (.slice Ao38 t167.length co38 : Value).ownBlock) ∧ some k_ ≠ (.slice Ao43 t171.length co43 : Value).ownBlock) ∧ some k_ ≠ (.slice Ao50 t177.length co50 : Value).ownBlock) ∧ some k_ ≠ (.slice Ao57 t182.length co57 : Value).ownBlock) ∧ some k_ ≠ (.slice Ao62 t189.length co62 : Value).ownBlock) ∧ some k_ ≠ (.slice Ao75 t200.length co75 : Value).ownBlock)) (n := t204.length) (c := co83) ?_).2.2; exact (by (with_reducible repeat (first | apply ra | apply rn | apply rw_)); exact (Kd.R_mono (Kd.R_far (p := ⟨gb208, 1, none⟩) (Kd.R_far (p := ⟨gb208, 0, none⟩) (Kd.R_types HO206.out BK208.out (by decide)) (fun _ hk => hk.2) (.int .i64 t203)) (fun _ hk => hk.2) (.slice Ao83 t204.length co83)) (fun _ h_ => h_.1)))); (case side2 => exact (Kd.R_reads' HO206.out).2.1); (case side3 => refine (Kd.R_reads' (e := 3) (base := w.heap.size) (ok := fun k_ => (((some k_ ≠ (.slice Ao38 t167.length co38 : Value).ownBlock ∧ (some k_ ≠ (.slice Ao50 t177.length co50 : Value).ownBlock ∧ (some k_ ≠ (.slice Ao57 t182.length co57 : Value).ownBlock ∧ some k_ ≠ (.slice Ao62 t189.length co62 : Value).ownBlock))) ∧ some k_ ≠ (.slice Ao75 t200.length co75 : Value).ownBlock) ∧ some k_ ≠ (.slice Ao83 t204.length co83 : Value).ownBlock)) (n := t171.length) (c := co43) ?_).2.2; exact (by (with_reducible repeat (first | apply ra | apply rn | apply rw_)); exact (Kd.R_mono (Kd.R_far (p := ⟨gb208, 1, none⟩) (Kd.R_far (p := ⟨gb208, 0, none⟩) (Kd.R_types HO173.out BK208.out (by decide)) (fun _ hk => hk.2) (.int .i64 t203)) (fun _ hk => hk.2) (.slice Ao83 t204.length co83)) (fun _ h_ => h_.1)))); (case side4 => exact (Kd.R_reads' HO173.out).2.1); rintro e w85 ⟨rfl, hb⟩; refine ⟨_, rfl, ?_⟩; have n0_ := Aside0.mk (Kd.R_below (by (with_reducible repeat (first | apply ra | apply rn | apply rw_)); exact (Kd.R_mono (Kd.R_far (p := ⟨gb208, 1, none⟩) (Kd.R_far (p := ⟨gb208, 0, none⟩) (Kd.R_types HO169.out BK208.out (by decide)) (fun _ hk => hk.2) (.int .i64 t203)) (fun _ hk => hk.2) (.slice Ao83 t204.length co83)) (fun _ h_ => h_.1))) hb); have n1_ := Aside0.mk (Kd.R_below (by (with_reducible repeat (first | apply ra | apply rn | apply rw_)); exact (Kd.R_mono (Kd.R_far (p := ⟨gb208, 1, none⟩) (Kd.R_far (p := ⟨gb208, 0, none⟩) (Kd.R_types HO173.out BK208.out (by decide)) (fun _ hk => hk.2) (.int .i64 t203)) (fun _ hk => hk.2) (.slice Ao83 t204.length co83)) (fun _ h_ => h_.1))) hb); have n2_ := Aside0.mk (Kd.R_below (by (with_reducible repeat (first | apply ra | apply rn | apply rw_)); exact (Kd.R_mono (Kd.R_far (p := ⟨gb208, 1, none⟩) (Kd.R_far (p := ⟨gb208, 0, none⟩) (Kd.R_types HO179.out BK208.out (by decide)) (fun _ hk => hk.2) (.int .i64 t203)) (fun _ hk => hk.2) (.slice Ao83 t204.length co83)) (fun _ h_ => h_.1))) hb); have n3_ := Aside0.mk (Kd.R_below (by (with_reducible repeat (first | apply ra | apply rn | apply rw_)); exact (Kd.R_mono (Kd.R_far (p := ⟨gb208, 1, none⟩) (Kd.R_far (p := ⟨gb208, 0, none⟩) (Kd.R_types HO184.out BK208.out (by decide)) (fun _ hk => hk.2) (.int .i64 t203)) (fun _ hk => hk.2) (.slice Ao83 t204.length co83)) (fun _ h_ => h_.1))) hb); have n4_ := Aside0.mk (Kd.R_below (by (with_reducible repeat (first | apply ra | apply rn | apply rw_)); exact (Kd.R_mono (Kd.R_far (p := ⟨gb208, 1, none⟩) (Kd.R_far (p := ⟨gb208, 0, none⟩) (Kd.R_types HO191.out BK208.out (by decide)) (fun _ hk => hk.2) (.int .i64 t203)) (fun _ hk => hk.2) (.slice Ao83 t204.length co83)) (fun _ h_ => h_.1))) hb); have n5_ := Aside0.mk (Kd.R_below (by (with_reducible repeat (first | apply ra | apply rn | apply rw_)); exact (Kd.R_mono (Kd.R_far (p := ⟨gb208, 1, none⟩) (Kd.R_far (p := ⟨gb208, 0, none⟩) (Kd.R_types HO202.out BK208.out (by decide)) (fun _ hk => hk.2) (.int .i64 t203)) (fun _ hk => hk.2) (.slice Ao83 t204.length co83)) (fun _ h_ => h_.1))) hb); have n6_ := Aside0.mk (Kd.R_below (by (with_reducible repeat (first | apply ra | apply rn | apply rw_)); exact (Kd.R_mono (Kd.R_far (p := ⟨gb208, 1, none⟩) (Kd.R_far (p := ⟨gb208, 0, none⟩) (Kd.R_types HO206.out BK208.out (by decide)) (fun _ hk => hk.2) (.int .i64 t203)) (fun _ hk => hk.2) (.slice Ao83 t204.length co83)) (fun _ h_ => h_.1))) hb); have n7_ := Aside0.mk (blk_below (g := gb164) (o := .cells #[.int .i64 a0_0, .slice A0_1 l0_1.length c0_1] 24 (0, 0)) (by (with_reducible repeat (first | refine kn ?_ _ | refine kd ?_ | refine ka ?_ _)); refine blk_far ?_ NB164_208.out _; (with_reducible repeat (first | refine kn ?_ _ | refine kd ?_ | refine ka ?_ _)); refine blk_far ?_ NB164_208.out _; (with_reducible repeat (first | refine kn ?_ _ | refine kd ?_ | refine ka ?_ _)); exact BK164.out) hb); have n8_ := Aside0.mk (blk_below (g := gb175) (o := .cells #[.int .i64 t170, .slice Ao43 t171.length co43] 27 (0, 0)) (by (with_reducible repeat (first | refine kn ?_ _ | refine kd ?_ | refine ka ?_ _)); refine blk_far ?_ NB175_208.out _; (with_reducible repeat (first | refine kn ?_ _ | refine kd ?_ | refine ka ?_ _)); refine blk_far ?_ NB175_208.out _; (with_reducible repeat (first | refine kn ?_ _ | refine kd ?_ | refine ka ?_ _)); exact BK175.out) hb); have n9_ := Aside0.mk (blk_below (g := gb180) (o := .cells #[.int .i64 t176, .slice Ao50 t177.length co50] 27 (0, 0)) (by (with_reducible repeat (first | refine kn ?_ _ | refine kd ?_ | refine ka ?_ _)); refine blk_far ?_ NB180_208.out _; (with_reducible repeat (first | refine kn ?_ _ | refine kd ?_ | refine ka ?_ _)); refine blk_far ?_ NB180_208.out _; (with_reducible repeat (first | refine kn ?_ _ | refine kd ?_ | refine ka ?_ _)); exact BK180.out) hb); have n10_ := Aside0.mk (blk_below (g := gb186) (o := .cells #[.int .i64 t181, .slice Ao57 t182.length co57] 27 (0, 0)) (by (with_reducible repeat (first | refine kn ?_ _ | refine kd ?_ | refine ka ?_ _)); refine blk_far ?_ NB186_208.out _; (with_reducible repeat (first | refine kn ?_ _ | refine kd ?_ | refine ka ?_ _)); refine blk_far ?_ NB186_208.out _; (with_reducible repeat (first | refine kn ?_ _ | refine kd ?_ | refine ka ?_ _)); exact BK186.out) hb); have n11_ := Aside0.mk (blk_below (g := gb208) (o := .cells #[.int .i64 t203, .slice Ao83 t204.length co83] 27 (0, 0)) (by (with_reducible repeat (first | refine kn ?_ _ | refine kd ?_ | refine ka ?_ _)); refine blk_put (cs := #[.int .i64 t203, .slice none 0 0]) ?_ 1 _ rfl; (with_reducible repeat (first | refine kn ?_ _ | refine kd ?_ | refine ka ?_ _)); refine blk_put (cs := #[.int .i64 0, .slice none 0 0]) ?_ 0 _ rfl; (with_reducible repeat (first | refine kn ?_ _ | refine kd ?_ | refine ka ?_ _)); exact BK208.out) hb); have n12_ := Aside0.mk (below_step (by repeat (first | (with_reducible first | exact HB.out | apply ba | apply bn | apply bd | refine bs ?_ (by assumption)) | exact HB.out)) hb); clear HO169 HO173 HO179 HO184 HO191 HO202 HO206 BK164 BK175 BK180 BK186 BK208 HB; have HO169 := n0_; have HO173 := n1_; have HO179 := n2_; have HO184 := n3_; have HO191 := n4_; have HO202 := n5_; have HO206 := n6_; have BK164 := n7_; have BK175 := n8_; have BK180 := n9_; have BK186 := n10_; have BK208 := n11_; have HB := n12_; clear n0_ n1_ n2_ n3_ n4_ n5_ n6_ n7_ n8_ n9_ n10_ n11_ n12_; (try clear hb); (try clear hb2); (try clear hk); (try clear hi); have hcz86_0 := cz20 BK186.out; have hcz86_1 := cz21 BK186.out; have hfz86_0 := blk_frozen BK186.out 0; have hfz86_1 := blk_frozen BK186.out 1) | ((with_reducible refine gate_callee (f := 22) rfl ?_); refine goesL_ (some 90) rfl rfl Try.func22 (by kernel_rfl) rfl #[.agg #[.int .i64 t181, .slice Ao57 t197.length co57], .int .i64 1] rfl (by (try simp only [List.map_toArray, List.map_cons, List.map_nil]); first | done | (rw [show t197.length = t182.length from (Kd.R_reads' HO184.out).1.symm] <;> rfl) | rfl | (simp only [List.length_drop, List.length_take]; rfl)) ?_; (with_reducible refine (laws_heldMatrix.calls k t181 _ _ t197 1 t210 _ ?side1 ?side2 A30.out).mono ?_); (case side1 => repeat (first | exact (Kd.R_reads' HO184.out).2.2 | (with_reducible refine Kd.C_alloc ?_ _) | (with_reducible refine Kd.C_drewN ?_ _) | (with_reducible refine Kd.C_drew ?_))); (case side2 => rw [show t197.length = t182.length from (Kd.R_reads' HO184.out).1.symm]; exact (Kd.R_reads' HO184.out).2.1); rintro e w87 ⟨rfl, hb⟩; refine ⟨_, rfl, ?_⟩; have n0_ := Aside0.mk (Kd.R_below (rz HO169.out) hb); have n1_ := Aside0.mk (Kd.R_below (rz HO173.out) hb); have n2_ := Aside0.mk (Kd.R_below (rz HO179.out) hb); have n3_ := Aside0.mk (Kd.R_below (rz HO184.out) hb); have n4_ := Aside0.mk (Kd.R_below (rz HO191.out) hb); have n5_ := Aside0.mk (Kd.R_below (rz HO202.out) hb); have n6_ := Aside0.mk (Kd.R_below (rz HO206.out) hb); have n7_ := bk BK164 hb; have n8_ := bk BK175 hb; have n9_ := bk BK180 hb; have n10_ := bk BK186 hb; have n11_ := bk BK208 hb; have n12_ := Aside0.mk (below_step (by repeat (first | (with_reducible first | exact HB.out | apply ba | apply bn | apply bd | refine bs ?_ (by assumption)) | exact HB.out)) hb); clear HO169 HO173 HO179 HO184 HO191 HO202 HO206 BK164 BK175 BK180 BK186 BK208 HB; have HO169 := n0_; have HO173 := n1_; have HO179 := n2_; have HO184 := n3_; have HO191 := n4_; have HO202 := n5_; have HO206 := n6_; have BK164 := n7_; have BK175 := n8_; have BK180 := n9_; have BK186 := n10_; have BK208 := n11_; have HB := n12_; clear n0_ n1_ n2_ n3_ n4_ n5_ n6_ n7_ n8_ n9_ n10_ n11_ n12_; (try clear hb); (try clear hb2); (try clear hk); (try clear hi)))
             go_ret
             exact ⟨by first | rfl | (simp [errW_none, errW_some] <;> rfl) | (simp [*, errW_none, errW_some] <;> rfl), by repeat (first | (with_reducible first | exact HB.out | apply ba | apply bn | apply bd | refine bs ?_ (by assumption)) | exact HB.out)⟩
            ·rw [if_neg c32] at H
             exact absurd H (by simp)
         ·replace c28 := Bool.eq_false_iff.mpr c28
          subst c28
          have H1 : (none) = some r := by rw [if_neg (show ¬ (false = true) by decide)] at H; exact H
          clear H
          have H := H1
          clear H1
          exact absurd H (by simp)
        ·rw [if_neg c24] at H
         exact absurd H (by simp)
      ·replace c20 := Bool.eq_false_iff.mpr c20
       subst c20
       have H1 : (none) = some r := by rw [if_neg (show ¬ (false = true) by decide)] at H; exact H
       clear H
       have H := H1
       clear H1
       exact absurd H (by simp)
    ·replace c16 := Bool.eq_false_iff.mpr c16
     subst c16
     have H1 : (none) = some r := by rw [if_neg (show ¬ (false = true) by decide)] at H; exact H
     clear H
     have H := H1
     clear H1
     exact absurd H (by simp)
  ·replace c12 := Bool.eq_false_iff.mpr c12
   subst c12
   have H1 : (none) = some r := by rw [if_neg (show ¬ (false = true) by decide)] at H; exact H
   clear H
   have H := H1
   clear H1
   exact absurd H (by simp)

/-- THE ONE PURE STATEMENT of laws_FnExactTurnMatrix. -/
def laws_FnExactTurnMatrix.Pure : Prop := ∀ (a0_0 : Int) (l0_1 : List Int), (Lit.int .i64 a0_0).wf = true → l0_1.length ≤ maxLen → (∀ x ∈ l0_1, (Lit.int .i64 x).wf = true) → ∃ k, laws_FnExactTurnMatrix.f k a0_0 l0_1 = some true
theorem laws_FnExactTurnMatrix.walk (P : laws_FnExactTurnMatrix.Pure) (a0_0 : Int) (a0_1 : Option Addr) (len0_1 cap0_1 : Nat) (z0_1 : List Int) (w : World) (w0_0 : (Lit.int .i64 a0_0).wf = true) (w0_1 : (a0_1 = none ∧ len0_1 = 0 ∧ cap0_1 = 0 ∧ z0_1 = []) ∨ ∃ x, a0_1 = some x ∧ len0_1 ≤ cap0_1 ∧ cap0_1 ≤ maxLen ∧ z0_1.length = cap0_1 ∧ (∀ i, i < z0_1.length → w.cell? (x.add i) = some (.int .i64 (z0_1.getD i 0))) ∧ ∀ n ∈ z0_1, (Lit.int .i64 n).wf = true) :
  Calls Try.prog 5 #[.agg #[.int .i64 a0_0, .slice a0_1 len0_1 cap0_1]] w fun e w' => e = .returned (.bool true) ∧ Below w.heap.size w w' := by
 obtain ⟨l0_1, rfl, hr0_1, hm0_1, hw0_1, hc0_1⟩ := ReadsInt.ofRowC w0_1
 obtain ⟨k, h⟩ := P a0_0 l0_1 w0_0 hm0_1 hw0_1
 refine (laws_FnExactTurnMatrix.calls k a0_0 _ _ l0_1 true w (Kd.C_of_reads (d := (0 : Int)) (h1 := fun _ => rfl) hr0_1) hc0_1 h).mono ?_
 rintro e w' ⟨rfl, hd⟩
 exact ⟨rfl, hd⟩

end Go.Proofs.Ythojienhgeiknaa.PFnExactTurnMatrix
