-- Written by a program (wip/myprint.py): the machine side of one law: each function that it reaches, as a plain function, and the proof that a call comes to just that.
import Derived.Test.YthojienhgeiknaaPFnStarMatrixx0
import Derived.Test.YthojienhgeiknaaPFnStarMatrixx1
import Derived.Test.YthojienhgeiknaaPFnStarMatrixx2
import Derived.Test.YthojienhgeiknaaPFnStarMatrixx3
namespace Go.Proofs.Ythojienhgeiknaa.PFnStarMatrix
open Go.RowKit Go.Proofs.YthojienhgeiknaaW.PrintWords Go.Proofs.YthojienhgeiknaaW.PrintLast Go.Proofs.YthojienhgeiknaaW.PrintMore
attribute [local go_sem] max2_int min2_int max_two min_two max_three min_three max_four min_four   -- for this text's walks alone
set_option linter.unusedVariables false
set_option linter.unusedSimpArgs false

/-! ### impl_StarMatrix: function 36 -/
def impl_StarMatrix.l0 : Nat → Int → Int → Int → List Int → Option (Int × List Int × Bool)
 | 0, _, _, _, _ => none
 | k + 1, x25, x26, x286000, x286001 => if x26 < x25 then ((impl_MulMatrix.f k x286000 x286001 x286000 x286001).bind fun bt286 => (impl_StarMatrix.l0 k x25 (wrap64 (x26 + 1)) bt286.1 bt286.2.1)) else (some (x286000, x286001, true))
def impl_StarMatrix.f (k : Nat) (a0_0 : Int) (l0_1 : List Int) : Option (Int × List Int × Bool) := (impl_MatrixValid.f k a0_0 l0_1).bind fun t273 => (if t273 = true then ((impl_UnitMatrix.f k a0_0).bind fun bt274 => ((impl_MinMatrix.f k a0_0 l0_1 bt274.1 bt274.2.1).bind fun bt280 => (impl_StarMatrix.l0 k a0_0 0 bt280.1 bt280.2.1))) else (some (0, ([] : List Int), false)))
theorem impl_StarMatrix.mono_l : ∀ k, (∀ y0 y1 y2 y3, LeO (impl_StarMatrix.l0 k y0 y1 y2 y3) (impl_StarMatrix.l0 (k + 1) y0 y1 y2 y3))
 | 0 => fun _ _ _ _ r h => by simp [impl_StarMatrix.l0] at h
 | k + 1 => by
  have ih0 := impl_StarMatrix.mono_l k
  ·intro y0 y1 y2 y3
   unfold impl_StarMatrix.l0
   repeat' first
   | (with_reducible exact ih0 _ _ _ _)
   | (with_reducible exact impl_MatrixValid.mono _ _ _)
   | (with_reducible exact impl_MinMatrix.mono _ _ _ _ _)
   | (with_reducible exact impl_MulMatrix.mono _ _ _ _ _)
   | (with_reducible exact impl_UnitMatrix.mono _ _)
   | (with_reducible exact LeO.refl _)
   | (with_reducible exact LeO.none _)
   | (with_reducible refine LeO.ite ?_ ?_)
   | (with_reducible refine LeO.bind ?_ (fun _ => ?_))
   | exact ih0 _ _ _ _
   | exact impl_MatrixValid.mono _ _ _
   | exact impl_MinMatrix.mono _ _ _ _ _
   | exact impl_MulMatrix.mono _ _ _ _ _
   | exact impl_UnitMatrix.mono _ _
   | exact LeO.none _
   | refine LeO.ite ?_ ?_
   | refine LeO.bind ?_ (fun _ => ?_)
theorem impl_StarMatrix.mono : ∀ a0 a1 k, LeO (impl_StarMatrix.f k a0 a1) (impl_StarMatrix.f (k + 1) a0 a1) := by
 intro a0 a1 k
 have ih0 := impl_StarMatrix.mono_l k
 unfold impl_StarMatrix.f
 repeat' first
   | (with_reducible exact ih0 _ _ _ _)
   | (with_reducible exact impl_MatrixValid.mono _ _ _)
   | (with_reducible exact impl_MinMatrix.mono _ _ _ _ _)
   | (with_reducible exact impl_MulMatrix.mono _ _ _ _ _)
   | (with_reducible exact impl_UnitMatrix.mono _ _)
   | (with_reducible exact LeO.refl _)
   | (with_reducible exact LeO.none _)
   | (with_reducible refine LeO.ite ?_ ?_)
   | (with_reducible refine LeO.bind ?_ (fun _ => ?_))
   | exact ih0 _ _ _ _
   | exact impl_MatrixValid.mono _ _ _
   | exact impl_MinMatrix.mono _ _ _ _ _
   | exact impl_MulMatrix.mono _ _ _ _ _
   | exact impl_UnitMatrix.mono _ _
   | exact LeO.none _
   | refine LeO.ite ?_ ?_
   | refine LeO.bind ?_ (fun _ => ?_)
set_option maxHeartbeats 8000000 in
set_option maxRecDepth 100000 in
theorem impl_StarMatrix.calls (k : Nat) (a0_0 : Int) (A0_1 : Option Addr) (c0_1 : Nat) (l0_1 : List Int) (r1 : Int) (r2 : List Int) (r3 : Bool) (w : World) (hr0_1 : Kd.C (Kd.int .i64) w A0_1 l0_1.length l0_1) (hc0_1 : l0_1.length ≤ c0_1) (h : impl_StarMatrix.f k a0_0 l0_1 = some (r1, r2, r3)) :
  Calls Try.prog 36 #[.agg #[.int .i64 a0_0, .slice A0_1 l0_1.length c0_1]] w fun e w' => ∃ v1_ : Value, e = .returned (.tuple #[.agg #[.int .i64 r1, v1_], .bool r3]) ∧ Kd.R (Kd.int .i64) 3 w' w.heap.size (fun _ => True) v1_ r2 ∧ Below w.heap.size w w' := by
 have hu27 := Try.underlying27
 have HR0_1 := am hr0_1
 have HC0_1 := am hc0_1
 clear hr0_1 hc0_1
 have HB := am (Below.refl w.heap.size w)
 have H : ((impl_MatrixValid.f k a0_0 l0_1).bind fun t273 => (if t273 = true then ((impl_UnitMatrix.f k a0_0).bind fun bt274 => ((impl_MinMatrix.f k a0_0 l0_1 bt274.1 bt274.2.1).bind fun bt280 => (impl_StarMatrix.l0 k a0_0 0 bt280.1 bt280.2.1))) else (some (0, ([] : List Int), false)))) = some (r1, r2, r3) := h
 clear h
 replace H := Option.bind_eq_some_iff.mp H
 obtain ⟨t273, A20, H⟩ := H
 (try dsimp only at H)
 have A2 := am A20
 clear A20
 by_cases c3 : t273 = true
 ·subst c3
  have H1 : ((impl_UnitMatrix.f k a0_0).bind fun bt274 => ((impl_MinMatrix.f k a0_0 l0_1 bt274.1 bt274.2.1).bind fun bt280 => (impl_StarMatrix.l0 k a0_0 0 bt280.1 bt280.2.1))) = some (r1, r2, r3) := by rw [if_pos rfl] at H; exact H
  clear H
  have H := H1
  clear H1
  replace H := Option.bind_eq_some_iff.mp H
  obtain ⟨⟨t274, t275, t278⟩, A40, H⟩ := H
  (try dsimp only at H)
  have A4 := am A40
  clear A40
  replace H := Option.bind_eq_some_iff.mp H
  obtain ⟨⟨t280, t281, t284⟩, A50, H⟩ := H
  (try dsimp only at H)
  have A5 := am A50
  clear A50
  have H' := am H
  clear H
  go_enter Try.func36, Try.ntmps36
  go_wp2_with (first | ((with_reducible refine gate_dst (N := 1) rfl ?_); refine box_event ?hg (N := 1) ?hd (cs := #[.int .i64 a0_0, .slice A0_1 l0_1.length c0_1]) (t := 27) ?hr ?_; (case hd => rfl); (case hg => rfl); (case hr => first | (go_simp; done) | (go_simp; rfl)); intro gb271 hg w6 hbox hb; have n0_ := am (below_step (bz HB.out) hb); have n1_ := am (hbox); have n2_ := am ((by rw [hg]; exact (below_size (bz HB.out)) : w.heap.size ≤ gb271)); have n3_ := am ((by rw [hg]; exact (below_size (bz HB.out)) : w.heap.size ≤ gb271)); clear HB; revert n0_ n1_ n2_ n3_; intro HB BK271 GW271 GE271; clear hb hbox hg) | ((with_reducible refine gate_dst (N := 2) rfl ?_); refine box_event ?hg (N := 2) ?hd (cs := #[.int .i64 0, .slice none 0 0]) (t := 27) ?hr ?_; (case hd => rfl); (case hg => rfl); (case hr => first | (go_simp; done) | (go_simp; rfl)); intro gb272 hg w7 hbox hb; have n0_ := bk BK271 hb; have n1_ := am (below_step (bw HB.out) hb); have n2_ := am (hbox); have n3_ := am ((by rw [hg]; exact (below_size (bw HB.out)) : w.heap.size ≤ gb272)); have n4_ := am ((by rw [hg]; exact (below_size (bw HB.out)) : w.heap.size ≤ gb272)); have n5_ := am ((by rw [hg]; exact Nat.ne_of_lt (blk_lt (kz BK271.out)) : gb271 ≠ gb272)); have n6_ := am ((by rw [hg]; exact Nat.ne_of_gt (blk_lt (kz BK271.out)) : gb272 ≠ gb271)); clear BK271 HB; have BK271 := n0_; have HB := n1_; have BK272 := n2_; have GW272 := n3_; have GE272 := n4_; have NB271_272 := n5_; have NB272_271 := n6_; clear n0_ n1_ n2_ n3_ n4_ n5_ n6_ hb hbox hg; have hnb8 := NB271_272.out; have hnc8 := NB272_271.out; have hcz9_0 := cz20 BK271.out; have hcz9_1 := cz21 BK271.out; have hfz9_0 := blk_frozen BK271.out 0; have hfz9_1 := blk_frozen BK271.out 1) | ((with_reducible refine gate_callee (f := 17) rfl ?_); refine goesL_ (some 9) rfl rfl Try.func17 (by kernel_rfl) rfl #[.agg #[.int .i64 a0_0, .slice A0_1 l0_1.length c0_1]] rfl (by (try simp only [List.map_toArray, List.map_cons, List.map_nil]); first | done | rfl | (simp only [List.length_drop, List.length_take]; rfl)) ?_; (with_reducible refine (impl_MatrixValid.calls k a0_0 _ _ l0_1 true _ ?side1 ?side2 A2.out).mono ?_); (case side1 => repeat (first | exact (Kd.C_below HR0_1.out HB.out) | (with_reducible refine Kd.C_alloc ?_ _) | (with_reducible refine Kd.C_drewN ?_ _) | (with_reducible refine Kd.C_drew ?_))); (case side2 => exact HC0_1.out); rintro e w10 ⟨rfl, hb⟩; refine ⟨_, rfl, ?_⟩; have n0_ := bk BK271 hb; have n1_ := bk BK272 hb; have n2_ := am (below_step (bw HB.out) hb); clear BK271 BK272 HB; revert n0_ n1_ n2_; intro BK271 BK272 HB; (try clear hb); (try clear hb2); (try clear hk); (try clear hi); have hcz11_0 := cz20 BK271.out; have hcz11_1 := cz21 BK271.out; have hfz11_0 := blk_frozen BK271.out 0; have hfz11_1 := blk_frozen BK271.out 1) | ((with_reducible refine gate_callee (f := 20) rfl ?_); refine goesL_ (some 15) rfl rfl Try.func20 (by kernel_rfl) rfl #[.int .i64 a0_0] rfl (by (try simp only [List.map_toArray, List.map_cons, List.map_nil]); first | done | rfl | (simp only [List.length_drop, List.length_take]; rfl)) ?_; (with_reducible refine (impl_UnitMatrix.calls k a0_0 t274 t275 t278 _ A4.out).mono ?_); rintro e w12 ⟨v276, rfl, ho0, hb⟩; refine ⟨_, rfl, ?_⟩; have n0_ := am (Kd.R_lower ho0 (below_size (bw HB.out))); have n1_ := bk BK271 hb; have n2_ := bk BK272 hb; have n3_ := am (below_step (bw HB.out) hb); clear BK271 BK272 HB; revert n0_ n1_ n2_ n3_; intro HO277 BK271 BK272 HB; (try clear hb); (try clear hb2); (try clear hk); (try clear hi); (try clear ho0)) | ((with_reducible refine gate_dst (N := 4) rfl ?_); refine box_event ?hg (N := 4) ?hd (cs := #[.int .i64 0, .slice none 0 0]) (t := 27) ?hr ?_; (case hd => rfl); (case hg => rfl); (case hr => first | (go_simp; done) | (go_simp; rfl)); intro gb279 hg w13 hbox hb; have n0_ := am (Kd.R_below (rz HO277.out) hb); have n1_ := bk BK271 hb; have n2_ := bk BK272 hb; have n3_ := am (below_step (bw HB.out) hb); have n4_ := am (hbox); have n5_ := am ((by rw [hg]; exact (below_size (bw HB.out)) : w.heap.size ≤ gb279)); have n6_ := am ((by rw [hg]; exact (below_size (bw HB.out)) : w.heap.size ≤ gb279)); have n7_ := am ((by rw [hg]; exact Nat.ne_of_lt (blk_lt (kz BK271.out)) : gb271 ≠ gb279)); have n8_ := am ((by rw [hg]; exact Nat.ne_of_gt (blk_lt (kz BK271.out)) : gb279 ≠ gb271)); have n9_ := am ((by rw [hg]; exact Nat.ne_of_lt (blk_lt (kz BK272.out)) : gb272 ≠ gb279)); have n10_ := am ((by rw [hg]; exact Nat.ne_of_gt (blk_lt (kz BK272.out)) : gb279 ≠ gb272)); clear HO277 BK271 BK272 HB; have HO277 := n0_; have BK271 := n1_; have BK272 := n2_; have HB := n3_; have BK279 := n4_; have GW279 := n5_; have GE279 := n6_; have NB271_279 := n7_; have NB279_271 := n8_; have NB272_279 := n9_; have NB279_272 := n10_; clear n0_ n1_ n2_ n3_ n4_ n5_ n6_ n7_ n8_ n9_ n10_ hb hbox hg; have hnb14 := NB279_271.out; have hnc14 := NB271_279.out; have hnb15 := NB279_272.out; have hnc15 := NB272_279.out; have hcz16_0 := cz20 BK279.out; have hcz16_1 := cz21 BK279.out; have hfz16_0 := blk_frozen BK279.out 0; have hfz16_1 := blk_frozen BK279.out 1; obtain ⟨Ao17, co17, eo17⟩ := Kd.R_slice HO277.out; subst eo17; have hcz18_0 := cz20 BK271.out; have hcz18_1 := cz21 BK271.out; have hfz18_0 := blk_frozen BK271.out 0; have hfz18_1 := blk_frozen BK271.out 1) | ((with_reducible refine gate_callee (f := 26) rfl ?_); refine goesL_ (some 21) rfl rfl Try.func26 (by kernel_rfl) rfl #[.agg #[.int .i64 a0_0, .slice A0_1 l0_1.length c0_1], .agg #[.int .i64 t274, .slice Ao17 t275.length co17]] rfl (by (try simp only [List.map_toArray, List.map_cons, List.map_nil]); first | done | rfl | (simp only [List.length_drop, List.length_take]; rfl)) ?_; (with_reducible refine (impl_MinMatrix.calls k a0_0 _ _ l0_1 t274 _ _ t275 t280 t281 t284 _ ?side1 ?side2 ?side3 ?side4 A5.out).mono ?_); (case side1 => exact Kd.C_below HR0_1.out (bw HB.out)); (case side2 => exact HC0_1.out); (case side3 => refine (Kd.R_reads' (e := 3) (base := w.heap.size) (ok := fun k_ => True) (n := t275.length) (c := co17) ?_).2.2; exact (by (with_reducible repeat (first | apply ra | apply rn | apply rw_)); exact (Kd.R_mono (Kd.R_far (p := ⟨gb279, 1, none⟩) (Kd.R_far (p := ⟨gb279, 0, none⟩) (Kd.R_types HO277.out BK279.out (by decide)) (fun _ hk => hk.2) (.int .i64 t274)) (fun _ hk => hk.2) (.slice Ao17 t275.length co17)) (fun _ h_ => h_.1)))); (case side4 => exact (Kd.R_reads' HO277.out).2.1); rintro e w19 ⟨v282, rfl, ho0, hb⟩; refine ⟨_, rfl, ?_⟩; have n0_ := am (Kd.R_elder' (by (with_reducible repeat (first | apply ra | apply rn | apply rw_)); exact (Kd.R_mono (Kd.R_far (p := ⟨gb279, 1, none⟩) (Kd.R_far (p := ⟨gb279, 0, none⟩) (Kd.R_types HO277.out BK279.out (by decide)) (fun _ hk => hk.2) (.int .i64 t274)) (fun _ hk => hk.2) (.slice Ao17 t275.length co17)) (fun _ h_ => h_.1))) (Kd.R_base ho0) hb); have n1_ := am (Kd.R_lower (Kd.R_new' ho0 (Kd.R_lt (by (with_reducible repeat (first | apply ra | apply rn | apply rw_)); exact (Kd.R_mono (Kd.R_far (p := ⟨gb279, 1, none⟩) (Kd.R_far (p := ⟨gb279, 0, none⟩) (Kd.R_types HO277.out BK279.out (by decide)) (fun _ hk => hk.2) (.int .i64 t274)) (fun _ hk => hk.2) (.slice Ao17 t275.length co17)) (fun _ h_ => h_.1))))) (below_size (bw HB.out))); have n2_ := am (blk_below (g := gb271) (o := .cells #[.int .i64 a0_0, .slice A0_1 l0_1.length c0_1] 27 (0, 0)) (by (with_reducible repeat (first | refine kn ?_ _ | refine kd ?_ | refine ka ?_ _)); refine blk_far ?_ NB271_279.out _; (with_reducible repeat (first | refine kn ?_ _ | refine kd ?_ | refine ka ?_ _)); refine blk_far ?_ NB271_279.out _; (with_reducible repeat (first | refine kn ?_ _ | refine kd ?_ | refine ka ?_ _)); exact BK271.out) hb); have n3_ := am (blk_below (g := gb272) (o := .cells #[.int .i64 0, .slice none 0 0] 27 (0, 0)) (by (with_reducible repeat (first | refine kn ?_ _ | refine kd ?_ | refine ka ?_ _)); refine blk_far ?_ NB272_279.out _; (with_reducible repeat (first | refine kn ?_ _ | refine kd ?_ | refine ka ?_ _)); refine blk_far ?_ NB272_279.out _; (with_reducible repeat (first | refine kn ?_ _ | refine kd ?_ | refine ka ?_ _)); exact BK272.out) hb); have n4_ := am (blk_below (g := gb279) (o := .cells #[.int .i64 t274, .slice Ao17 t275.length co17] 27 (0, 0)) (by (with_reducible repeat (first | refine kn ?_ _ | refine kd ?_ | refine ka ?_ _)); refine blk_put (cs := #[.int .i64 t274, .slice none 0 0]) ?_ 1 _ rfl; (with_reducible repeat (first | refine kn ?_ _ | refine kd ?_ | refine ka ?_ _)); refine blk_put (cs := #[.int .i64 0, .slice none 0 0]) ?_ 0 _ rfl; (with_reducible repeat (first | refine kn ?_ _ | refine kd ?_ | refine ka ?_ _)); exact BK279.out) hb); have n5_ := am (below_step (bw HB.out) hb); clear HO277 BK271 BK272 BK279 HB; revert n0_ n1_ n2_ n3_ n4_ n5_; intro HO277 HO283 BK271 BK272 BK279 HB; (try clear hb); (try clear hb2); (try clear hk); (try clear hi); (try clear ho0)) | ((with_reducible refine gate_dst (N := 6) rfl ?_); refine box_event ?hg (N := 6) ?hd (cs := #[.int .i64 0, .slice none 0 0]) (t := 27) ?hr ?_; (case hd => rfl); (case hg => rfl); (case hr => first | (go_simp; done) | (go_simp; rfl)); intro gb285 hg w20 hbox hb; have n0_ := am (Kd.R_below (rz HO277.out) hb); have n1_ := am (Kd.R_below (rz HO283.out) hb); have n2_ := bk BK271 hb; have n3_ := bk BK272 hb; have n4_ := bk BK279 hb; have n5_ := am (below_step (bw HB.out) hb); have n6_ := am (hbox); have n7_ := am ((by rw [hg]; exact (below_size (bw HB.out)) : w.heap.size ≤ gb285)); have n8_ := am ((by rw [hg]; exact (below_size (bw HB.out)) : w.heap.size ≤ gb285)); have n9_ := am ((by rw [hg]; exact Nat.ne_of_lt (blk_lt (kz BK271.out)) : gb271 ≠ gb285)); have n10_ := am ((by rw [hg]; exact Nat.ne_of_gt (blk_lt (kz BK271.out)) : gb285 ≠ gb271)); have n11_ := am ((by rw [hg]; exact Nat.ne_of_lt (blk_lt (kz BK272.out)) : gb272 ≠ gb285)); have n12_ := am ((by rw [hg]; exact Nat.ne_of_gt (blk_lt (kz BK272.out)) : gb285 ≠ gb272)); have n13_ := am ((by rw [hg]; exact Nat.ne_of_lt (blk_lt (kz BK279.out)) : gb279 ≠ gb285)); have n14_ := am ((by rw [hg]; exact Nat.ne_of_gt (blk_lt (kz BK279.out)) : gb285 ≠ gb279)); clear HO277 HO283 BK271 BK272 BK279 HB; have HO277 := n0_; have HO283 := n1_; have BK271 := n2_; have BK272 := n3_; have BK279 := n4_; have HB := n5_; have BK285 := n6_; have GW285 := n7_; have GE285 := n8_; have NB271_285 := n9_; have NB285_271 := n10_; have NB272_285 := n11_; have NB285_272 := n12_; have NB279_285 := n13_; have NB285_279 := n14_; clear n0_ n1_ n2_ n3_ n4_ n5_ n6_ n7_ n8_ n9_ n10_ n11_ n12_ n13_ n14_ hb hbox hg; have hnb21 := NB285_271.out; have hnc21 := NB271_285.out; have hnb22 := NB285_272.out; have hnc22 := NB272_285.out; have hnb23 := NB285_279.out; have hnc23 := NB279_285.out; have hcz24_0 := cz20 BK285.out; have hcz24_1 := cz21 BK285.out; have hfz24_0 := blk_frozen BK285.out 0; have hfz24_1 := blk_frozen BK285.out 1; obtain ⟨Ao25, co25, eo25⟩ := Kd.R_slice HO283.out; subst eo25; have hcz26_0 := cz20 BK271.out; have hcz26_1 := cz21 BK271.out; have hfz26_0 := blk_frozen BK271.out 0; have hfz26_1 := blk_frozen BK271.out 1))
  go_loopg [26] k (fun kq v26 w' => ∃ (x26_1 : Int) (x286000_1 : Int) (x286001_1 : List Int) (u286001 : Value), v26 = .int .i64 x26_1 ∧ Aside0 (impl_StarMatrix.l0 kq a0_0 x26_1 x286000_1 x286001_1 = some (r1, r2, r3)) ∧ Aside0 (kq ≤ k) ∧ Aside0 (Kd.R (Kd.int .i64) 3 w' w.heap.size (fun k_ => some k_ ≠ (u286001 : Value).ownBlock) (.slice Ao17 t275.length co17) t275) ∧ Aside0 (Kd.R (Kd.int .i64) 3 w' w.heap.size (fun k_ => some k_ ≠ ((.slice Ao17 t275.length co17) : Value).ownBlock) u286001 x286001_1) ∧ Aside0 (w'.heap[gb271]? = some (.cells #[.int .i64 a0_0, (.slice A0_1 l0_1.length c0_1)] 27 (0, 0))) ∧ Aside0 (w'.heap[gb272]? = some (.cells #[.int .i64 0, (.slice none 0 0)] 27 (0, 0))) ∧ Aside0 (w'.heap[gb279]? = some (.cells #[.int .i64 t274, (.slice Ao17 t275.length co17)] 27 (0, 0))) ∧ Aside0 (w'.heap[gb285]? = some (.cells #[.int .i64 x286000_1, u286001] 27 (0, 0))) ∧ Aside0 (Below w.heap.size w w'))
  case atStart => exact ⟨(0), (t280), (t281), (.slice Ao25 t281.length co25), (by first | rfl | (simp; done) | (simp [*]; done)), H', ⟨Nat.le_refl _⟩, ⟨by (with_reducible repeat (first | apply ra | apply rn | apply rw_)); exact Kd.R_mono (Kd.R_far (p := ⟨gb285, 1, none⟩) (Kd.R_far (p := ⟨gb285, 0, none⟩) (Kd.R_types HO277.out BK285.out (by decide)) (fun _ hk => hk.2) (.int .i64 t280)) (fun _ hk => hk.2) (.slice Ao25 t281.length co25)) (fun _ hk => hk.1.2)⟩, ⟨by (with_reducible repeat (first | apply ra | apply rn | apply rw_)); exact Kd.R_mono (Kd.R_far (p := ⟨gb285, 1, none⟩) (Kd.R_far (p := ⟨gb285, 0, none⟩) (Kd.R_types HO283.out BK285.out (by decide)) (fun _ hk => hk.2) (.int .i64 t280)) (fun _ hk => hk.2) (.slice Ao25 t281.length co25)) (fun _ hk => hk.1.2)⟩, ⟨by (with_reducible repeat (first | refine kn ?_ _ | refine kd ?_ | refine ka ?_ _)); refine blk_far ?_ NB271_285.out _; (with_reducible repeat (first | refine kn ?_ _ | refine kd ?_ | refine ka ?_ _)); refine blk_far ?_ NB271_285.out _; (with_reducible repeat (first | refine kn ?_ _ | refine kd ?_ | refine ka ?_ _)); exact BK271.out⟩, ⟨by (with_reducible repeat (first | refine kn ?_ _ | refine kd ?_ | refine ka ?_ _)); refine blk_far ?_ NB272_285.out _; (with_reducible repeat (first | refine kn ?_ _ | refine kd ?_ | refine ka ?_ _)); refine blk_far ?_ NB272_285.out _; (with_reducible repeat (first | refine kn ?_ _ | refine kd ?_ | refine ka ?_ _)); exact BK272.out⟩, ⟨by (with_reducible repeat (first | refine kn ?_ _ | refine kd ?_ | refine ka ?_ _)); refine blk_far ?_ NB279_285.out _; (with_reducible repeat (first | refine kn ?_ _ | refine kd ?_ | refine ka ?_ _)); refine blk_far ?_ NB279_285.out _; (with_reducible repeat (first | refine kn ?_ _ | refine kd ?_ | refine ka ?_ _)); exact BK279.out⟩, ⟨by (with_reducible repeat (first | refine kn ?_ _ | refine kd ?_ | refine ka ?_ _)); refine blk_put (cs := #[.int .i64 t280, .slice none 0 0]) ?_ 1 _ rfl; (with_reducible repeat (first | refine kn ?_ _ | refine kd ?_ | refine ka ?_ _)); refine blk_put (cs := #[.int .i64 0, .slice none 0 0]) ?_ 0 _ rfl; (with_reducible repeat (first | refine kn ?_ _ | refine kd ?_ | refine ka ?_ _)); exact BK285.out⟩, ⟨by exact bw HB.out⟩⟩
  case round =>
   clear H'
   try clear c1
   try clear c2
   try clear p2
   try clear c3
   try clear c8
   try clear c14
   try clear c15
   try clear c17
   try clear c20
   try clear c21
   try clear c22
   try clear c23
   try clear c26
   try clear hcz11_0
   try clear hcz11_1
   try clear hcz16_0
   try clear hcz16_1
   try clear hcz18_0
   try clear hcz18_1
   try clear hcz24_0
   try clear hcz24_1
   try clear hcz26_0
   try clear hcz26_1
   try clear hcz9_0
   try clear hcz9_1
   try clear hfz11_0
   try clear hfz11_1
   try clear hfz16_0
   try clear hfz16_1
   try clear hfz18_0
   try clear hfz18_1
   try clear hfz24_0
   try clear hfz24_1
   try clear hfz26_0
   try clear hfz26_1
   try clear hfz9_0
   try clear hfz9_1
   obtain ⟨x26_1, x286000_1, x286001_1, u286001, rfl, HA, HK1, HO_280001, HO_286001, BK271, BK272, BK279, BK285, HB⟩ := hrel
   cases gk with
   | zero => exact absurd HA.out (by simp [impl_StarMatrix.l0])
   | succ k1 =>
    have H := HA.out
    clear HA
    simp only [impl_StarMatrix.l0] at H
    by_cases c27 : x26_1 < a0_0
    ·rw [if_pos c27] at H
     have c27b0 : decide (x26_1 < a0_0) = true := decide_eq_true c27
     clear c27
     replace H := Option.bind_eq_some_iff.mp H
     obtain ⟨⟨t286, t287, t290⟩, A280, H⟩ := H
     (try dsimp only at H)
     have A28 := am A280
     clear A280
     have H' := am H
     clear H
     have hnb29 := NB285_271.out
     have hnc29 := NB271_285.out
     have hnb30 := NB285_272.out
     have hnc30 := NB272_285.out
     have hnb31 := NB285_279.out
     have hnc31 := NB279_285.out
     have hcz32_0 := cz20 BK285.out
     have hcz32_1 := cz21 BK285.out
     have hfz32_0 := blk_frozen BK285.out 0
     have hfz32_1 := blk_frozen BK285.out 1
     obtain ⟨Ao33, co33, eo33⟩ := Kd.R_slice HO_286001.out
     subst eo33
     go_wp2_with (first | ((with_reducible refine gate_callee (f := 28) rfl ?_); refine goesL_ (some 31) rfl rfl Try.func28 (by kernel_rfl) rfl #[.agg #[.int .i64 x286000_1, .slice Ao33 x286001_1.length co33], .agg #[.int .i64 x286000_1, .slice Ao33 x286001_1.length co33]] rfl (by (try simp only [List.map_toArray, List.map_cons, List.map_nil]); first | done | rfl | (simp only [List.length_drop, List.length_take]; rfl)) ?_; (with_reducible refine (impl_MulMatrix.calls k1 x286000_1 _ _ x286001_1 x286000_1 _ _ x286001_1 t286 t287 t290 _ ?side1 ?side2 ?side3 ?side4 A28.out).mono ?_); (case side1 => repeat (first | exact (Kd.R_reads' HO_286001.out).2.2 | (with_reducible refine Kd.C_alloc ?_ _) | (with_reducible refine Kd.C_drewN ?_ _) | (with_reducible refine Kd.C_drew ?_))); (case side2 => exact (Kd.R_reads' HO_286001.out).2.1); (case side3 => repeat (first | exact (Kd.R_reads' HO_286001.out).2.2 | (with_reducible refine Kd.C_alloc ?_ _) | (with_reducible refine Kd.C_drewN ?_ _) | (with_reducible refine Kd.C_drew ?_))); (case side4 => exact (Kd.R_reads' HO_286001.out).2.1); rintro e w34 ⟨v288, rfl, ho0, hb⟩; refine ⟨_, rfl, ?_⟩; have n0_ := el HO_280001 (Kd.R_base ho0) hb; have n1_ := el HO_286001 (Kd.R_base ho0) hb; have n2_ := am (Kd.R_lower (Kd.R_new' (Kd.R_new' ho0 (Kd.R_lt (rz HO_280001.out))) (Kd.R_lt (rz HO_286001.out))) (below_size (bw HB.out))); have n3_ := bk BK271 hb; have n4_ := bk BK272 hb; have n5_ := bk BK279 hb; have n6_ := bk BK285 hb; have n7_ := am (below_step (bw HB.out) hb); clear HO_280001 HO_286001 BK271 BK272 BK279 BK285 HB; revert n0_ n1_ n2_ n3_ n4_ n5_ n6_ n7_; intro HO_280001 HO_286001 HO289 BK271 BK272 BK279 BK285 HB; (try clear hb); (try clear hb2); (try clear hk); (try clear hi); (try clear ho0); have hcz35_0 := cz20 BK285.out; have hcz35_1 := cz21 BK285.out; have hfz35_0 := blk_frozen BK285.out 0; have hfz35_1 := blk_frozen BK285.out 1; obtain ⟨Ao36, co36, eo36⟩ := Kd.R_slice HO289.out; subst eo36))
     go_roundg k1
     case measure => have := HK1.out; omega
     case rel => exact ⟨(wrap64 (x26_1 + 1)), (t286), (t287), (.slice Ao36 t287.length co36), (by first | rfl | (simp; done) | (simp [*]; done)), H', ⟨by have := HK1.out; omega⟩, ⟨by (with_reducible repeat (first | apply ra | apply rn | apply rw_)); exact Kd.R_mono (Kd.R_far (p := ⟨gb285, 1, none⟩) (Kd.R_far (p := ⟨gb285, 0, none⟩) (Kd.R_types HO_280001.out BK285.out (by decide)) (fun _ hk => hk.2) (.int .i64 t286)) (fun _ hk => hk.2) (.slice Ao36 t287.length co36)) (fun _ hk => hk.1.2)⟩, ⟨by (with_reducible repeat (first | apply ra | apply rn | apply rw_)); exact Kd.R_mono (Kd.R_far (p := ⟨gb285, 1, none⟩) (Kd.R_far (p := ⟨gb285, 0, none⟩) (Kd.R_types HO289.out BK285.out (by decide)) (fun _ hk => hk.2) (.int .i64 t286)) (fun _ hk => hk.2) (.slice Ao36 t287.length co36)) (fun _ hk => hk.1.1.2)⟩, ⟨by (with_reducible repeat (first | refine kn ?_ _ | refine kd ?_ | refine ka ?_ _)); refine blk_far ?_ NB271_285.out _; (with_reducible repeat (first | refine kn ?_ _ | refine kd ?_ | refine ka ?_ _)); refine blk_far ?_ NB271_285.out _; (with_reducible repeat (first | refine kn ?_ _ | refine kd ?_ | refine ka ?_ _)); exact BK271.out⟩, ⟨by (with_reducible repeat (first | refine kn ?_ _ | refine kd ?_ | refine ka ?_ _)); refine blk_far ?_ NB272_285.out _; (with_reducible repeat (first | refine kn ?_ _ | refine kd ?_ | refine ka ?_ _)); refine blk_far ?_ NB272_285.out _; (with_reducible repeat (first | refine kn ?_ _ | refine kd ?_ | refine ka ?_ _)); exact BK272.out⟩, ⟨by (with_reducible repeat (first | refine kn ?_ _ | refine kd ?_ | refine ka ?_ _)); refine blk_far ?_ NB279_285.out _; (with_reducible repeat (first | refine kn ?_ _ | refine kd ?_ | refine ka ?_ _)); refine blk_far ?_ NB279_285.out _; (with_reducible repeat (first | refine kn ?_ _ | refine kd ?_ | refine ka ?_ _)); exact BK279.out⟩, ⟨by (with_reducible repeat (first | refine kn ?_ _ | refine kd ?_ | refine ka ?_ _)); refine blk_put (cs := #[.int .i64 t286, .slice Ao33 x286001_1.length co33]) ?_ 1 _ rfl; (with_reducible repeat (first | refine kn ?_ _ | refine kd ?_ | refine ka ?_ _)); refine blk_put (cs := #[.int .i64 x286000_1, .slice Ao33 x286001_1.length co33]) ?_ 0 _ rfl; (with_reducible repeat (first | refine kn ?_ _ | refine kd ?_ | refine ka ?_ _)); exact BK285.out⟩, ⟨by exact bw HB.out⟩⟩
    ·rw [if_neg c27] at H
     have c27b0 : decide (x26_1 < a0_0) = false := decide_eq_false c27
     clear c27
     simp only [Option.some.injEq, Prod.mk.injEq] at H
     obtain ⟨rfl, rfl, rfl⟩ := H
     have hnb37 := NB285_271.out
     have hnc37 := NB271_285.out
     have hnb38 := NB285_272.out
     have hnc38 := NB272_285.out
     have hnb39 := NB285_279.out
     have hnc39 := NB279_285.out
     have hcz40_0 := cz20 BK285.out
     have hcz40_1 := cz21 BK285.out
     have hfz40_0 := blk_frozen BK285.out 0
     have hfz40_1 := blk_frozen BK285.out 1
     have hnb41 := NB272_271.out
     have hnc41 := NB271_272.out
     have hnb42 := NB272_279.out
     have hnc42 := NB279_272.out
     have hcz43_0 := cz20 BK272.out
     have hcz43_1 := cz21 BK272.out
     have hfz43_0 := blk_frozen BK272.out 0
     have hfz43_1 := blk_frozen BK272.out 1
     obtain ⟨Ao44, co44, eo44⟩ := Kd.R_slice HO_286001.out
     subst eo44
     go_wp2
     refine bodyPost_ret (results_ct rfl _ _ gb272 27 #[.int .i64 x286000_1, .slice Ao44 x286001_1.length co44] (0, 0) _ rfl (by (with_reducible repeat (first | refine kn ?_ _ | refine kd ?_ | refine ka ?_ _)); refine blk_put (cs := #[.int .i64 x286000_1, .slice none 0 0]) ?_ 1 _ rfl; (with_reducible repeat (first | refine kn ?_ _ | refine kd ?_ | refine ka ?_ _)); refine blk_put (cs := #[.int .i64 0, .slice none 0 0]) ?_ 0 _ rfl; (with_reducible repeat (first | refine kn ?_ _ | refine kd ?_ | refine ka ?_ _)); exact BK272.out) Try.underlying27 rfl (by kernel_rfl)) rfl ?_
     exact ⟨_, by first | rfl | (simp [errW_none, errW_some] <;> rfl) | (simp [*, errW_none, errW_some] <;> rfl), by (with_reducible repeat (first | apply ra | apply rn | apply rw_)); exact Kd.R_mono (Kd.R_far (p := ⟨gb272, 1, none⟩) (Kd.R_far (p := ⟨gb272, 0, none⟩) (Kd.R_types HO_286001.out BK272.out (by decide)) (fun _ hk => hk.2) (.int .i64 x286000_1)) (fun _ hk => hk.2) (.slice Ao44 x286001_1.length co44)) (fun _ hk => trivial), by exact bw HB.out⟩
 ·replace c3 := Bool.eq_false_iff.mpr c3
  subst c3
  have H1 : (some (0, ([] : List Int), false)) = some (r1, r2, r3) := by rw [if_neg (show ¬ (false = true) by decide)] at H; exact H
  clear H
  have H := H1
  clear H1
  simp only [Option.some.injEq, Prod.mk.injEq] at H
  obtain ⟨rfl, rfl, rfl⟩ := H
  go_enter Try.func36, Try.ntmps36
  go_wp2_with (first | ((with_reducible refine gate_dst (N := 1) rfl ?_); refine box_event ?hg (N := 1) ?hd (cs := #[.int .i64 a0_0, .slice A0_1 l0_1.length c0_1]) (t := 27) ?hr ?_; (case hd => rfl); (case hg => rfl); (case hr => first | (go_simp; done) | (go_simp; rfl)); intro gb271 hg w45 hbox hb; have n0_ := am (below_step (bz HB.out) hb); have n1_ := am (hbox); have n2_ := am ((by rw [hg]; exact (below_size (bz HB.out)) : w.heap.size ≤ gb271)); have n3_ := am ((by rw [hg]; exact (below_size (bz HB.out)) : w.heap.size ≤ gb271)); clear HB; revert n0_ n1_ n2_ n3_; intro HB BK271 GW271 GE271; clear hb hbox hg) | ((with_reducible refine gate_dst (N := 2) rfl ?_); refine box_event ?hg (N := 2) ?hd (cs := #[.int .i64 0, .slice none 0 0]) (t := 27) ?hr ?_; (case hd => rfl); (case hg => rfl); (case hr => first | (go_simp; done) | (go_simp; rfl)); intro gb272 hg w46 hbox hb; have n0_ := bk BK271 hb; have n1_ := am (below_step (bw HB.out) hb); have n2_ := am (hbox); have n3_ := am ((by rw [hg]; exact (below_size (bw HB.out)) : w.heap.size ≤ gb272)); have n4_ := am ((by rw [hg]; exact (below_size (bw HB.out)) : w.heap.size ≤ gb272)); have n5_ := am ((by rw [hg]; exact Nat.ne_of_lt (blk_lt (kz BK271.out)) : gb271 ≠ gb272)); have n6_ := am ((by rw [hg]; exact Nat.ne_of_gt (blk_lt (kz BK271.out)) : gb272 ≠ gb271)); clear BK271 HB; have BK271 := n0_; have HB := n1_; have BK272 := n2_; have GW272 := n3_; have GE272 := n4_; have NB271_272 := n5_; have NB272_271 := n6_; clear n0_ n1_ n2_ n3_ n4_ n5_ n6_ hb hbox hg; have hnb47 := NB271_272.out; have hnc47 := NB272_271.out; have hcz48_0 := cz20 BK271.out; have hcz48_1 := cz21 BK271.out; have hfz48_0 := blk_frozen BK271.out 0; have hfz48_1 := blk_frozen BK271.out 1) | ((with_reducible refine gate_callee (f := 17) rfl ?_); refine goesL_ (some 9) rfl rfl Try.func17 (by kernel_rfl) rfl #[.agg #[.int .i64 a0_0, .slice A0_1 l0_1.length c0_1]] rfl (by (try simp only [List.map_toArray, List.map_cons, List.map_nil]); first | done | rfl | (simp only [List.length_drop, List.length_take]; rfl)) ?_; (with_reducible refine (impl_MatrixValid.calls k a0_0 _ _ l0_1 false _ ?side1 ?side2 A2.out).mono ?_); (case side1 => repeat (first | exact (Kd.C_below HR0_1.out HB.out) | (with_reducible refine Kd.C_alloc ?_ _) | (with_reducible refine Kd.C_drewN ?_ _) | (with_reducible refine Kd.C_drew ?_))); (case side2 => exact HC0_1.out); rintro e w49 ⟨rfl, hb⟩; refine ⟨_, rfl, ?_⟩; have n0_ := bk BK271 hb; have n1_ := bk BK272 hb; have n2_ := am (below_step (bw HB.out) hb); clear BK271 BK272 HB; revert n0_ n1_ n2_; intro BK271 BK272 HB; (try clear hb); (try clear hb2); (try clear hk); (try clear hi); have hcz50_0 := cz20 BK272.out; have hcz50_1 := cz21 BK272.out; have hfz50_0 := blk_frozen BK272.out 0; have hfz50_1 := blk_frozen BK272.out 1))
  refine bodyPost_ret (results_ct rfl _ _ gb272 27 #[.int .i64 0, .slice none 0 0] (0, 0) _ rfl (by (with_reducible repeat (first | refine kn ?_ _ | refine kd ?_ | refine ka ?_ _)); refine blk_put (cs := #[.int .i64 0, .slice none 0 0]) ?_ 1 _ rfl; (with_reducible repeat (first | refine kn ?_ _ | refine kd ?_ | refine ka ?_ _)); refine blk_put (cs := #[.int .i64 0, .slice none 0 0]) ?_ 0 _ rfl; (with_reducible repeat (first | refine kn ?_ _ | refine kd ?_ | refine ka ?_ _)); exact BK272.out) Try.underlying27 rfl (by kernel_rfl)) rfl ?_
  exact ⟨_, by first | rfl | (simp [errW_none, errW_some] <;> rfl) | (simp [*, errW_none, errW_some] <;> rfl), by first | exact Kd.R_nil _ _ _ _ _ | exact Kd.N_nil _ _ _ _ _ | exact Kd.V_nil _ _ _ _ _ | exact Kd.Q_nil _ _ _ _ _ | exact Kd.S_nil _ _ _ _ _, by exact bw HB.out⟩

/-! ### spec_l1In: function 39 -/
def spec_l1In.f (a0 : Int) (a1 : Int) (a2 : Int) : Option (Bool) := if a0 ≥ a1 then (some (decide (a0 ≤ a2))) else (some false)
set_option maxHeartbeats 8000000 in
set_option maxRecDepth 100000 in
theorem spec_l1In.calls (a0 : Int) (a1 : Int) (a2 : Int) (r : Bool) (w : World) (h : spec_l1In.f a0 a1 a2 = some r) :
  Calls Try.prog 39 #[.int .i64 a0, .int .i64 a1, .int .i64 a2] w fun e w' => e = .returned (.bool r) ∧ Drawn0 w w' := by
 have H : (if a0 ≥ a1 then (some (decide (a0 ≤ a2))) else (some false)) = some r := h
 clear h
 by_cases c4 : a0 ≥ a1
 ·rw [if_pos c4] at H
  have c4b0 : decide (a1 ≤ a0) = true := decide_eq_true c4
  clear c4
  obtain rfl := Option.some.inj H
  go_enter Try.func39, Try.ntmps39
  go_wp2
  go_ret
  exact ⟨by first | rfl | (simp; done) | (simp [*]; done), by repeat (first | exact Drawn0.refl _ | apply Drawn0.step)⟩
 ·rw [if_neg c4] at H
  have c4b0 : decide (a1 ≤ a0) = false := decide_eq_false c4
  clear c4
  obtain rfl := Option.some.inj H
  go_enter Try.func39, Try.ntmps39
  go_wp2
  go_ret
  exact ⟨by first | rfl | (simp; done) | (simp [*]; done), by repeat (first | exact Drawn0.refl _ | apply Drawn0.step)⟩

/-! ### spec_CostValid: function 66 -/
def spec_CostValid.f (a0 : Int) : Option (Bool) := (spec_l1In.f a0 0 1000000).bind fun t291 => (some t291)
set_option maxHeartbeats 8000000 in
set_option maxRecDepth 100000 in
theorem spec_CostValid.calls (a0 : Int) (r : Bool) (w : World) (h : spec_CostValid.f a0 = some r) :
  Calls Try.prog 66 #[.int .i64 a0] w fun e w' => e = .returned (.bool r) ∧ Drawn0 w w' := by
 have H : ((spec_l1In.f a0 0 1000000).bind fun t291 => (some t291)) = some r := h
 clear h
 replace H := Option.bind_eq_some_iff.mp H
 obtain ⟨t291, A20, H⟩ := H
 (try dsimp only at H)
 have A2 := am A20
 clear A20
 obtain rfl := Option.some.inj H
 go_enter Try.func66, Try.ntmps66
 go_wp2_with (first | ((with_reducible refine gate_callee (f := 39) rfl ?_); refine goesL_ (some 4) rfl rfl Try.func39 (by kernel_rfl) rfl #[.int .i64 a0, .int .i64 0, .int .i64 1000000] rfl (by (try simp only [List.map_toArray, List.map_cons, List.map_nil]); first | done | rfl | (simp only [List.length_drop, List.length_take]; rfl)) ?_; (with_reducible refine (spec_l1In.calls a0 0 1000000 t291 _ A2.out).mono ?_); rintro e w' ⟨rfl, ⟨nd, rfl⟩⟩; refine ⟨_, rfl, ?_⟩))
 go_ret
 exact ⟨by first | rfl | (simp; done) | (simp [*]; done), by repeat (first | exact Drawn0.refl _ | apply Drawn0.step)⟩

/-! ### spec_l1All: function 40 -/
def spec_l1All.l0 : Nat → List Int → Int → Int → Option (Bool)
 | 0, _, _, _ => none
 | k + 1, x5, x6, x7 => if x7 < x6 then (if 0 ≤ x7 then (if x7 < (x5.length : Int) then ((spec_CostValid.f (rd x5 x7)).bind fun t293 => (if t293 = true then (spec_l1All.l0 k x5 x6 (wrap64 (x7 + 1))) else (some false))) else (none)) else (none)) else (some true)
def spec_l1All.f (k : Nat) (l0 : List Int) : Option (Bool) := spec_l1All.l0 k l0 (l0.length : Int) 0
theorem spec_l1All.mono_l : ∀ k, (∀ y0 y1 y2, LeO (spec_l1All.l0 k y0 y1 y2) (spec_l1All.l0 (k + 1) y0 y1 y2))
 | 0 => fun _ _ _ r h => by simp [spec_l1All.l0] at h
 | k + 1 => by
  have ih0 := spec_l1All.mono_l k
  ·intro y0 y1 y2
   unfold spec_l1All.l0
   repeat' first
   | (with_reducible exact ih0 _ _ _)
   | (with_reducible exact LeO.refl _)
   | (with_reducible exact LeO.none _)
   | (with_reducible refine LeO.ite ?_ ?_)
   | (with_reducible refine LeO.bind ?_ (fun _ => ?_))
   | exact ih0 _ _ _
   | exact LeO.none _
   | refine LeO.ite ?_ ?_
   | refine LeO.bind ?_ (fun _ => ?_)
theorem spec_l1All.mono : ∀ a0 k, LeO (spec_l1All.f k a0) (spec_l1All.f (k + 1) a0) := by
 intro a0 k
 have ih0 := spec_l1All.mono_l k
 unfold spec_l1All.f
 repeat' first
   | (with_reducible exact ih0 _ _ _)
   | (with_reducible exact LeO.refl _)
   | (with_reducible exact LeO.none _)
   | (with_reducible refine LeO.ite ?_ ?_)
   | (with_reducible refine LeO.bind ?_ (fun _ => ?_))
   | exact ih0 _ _ _
   | exact LeO.none _
   | refine LeO.ite ?_ ?_
   | refine LeO.bind ?_ (fun _ => ?_)
set_option maxHeartbeats 8000000 in
set_option maxRecDepth 100000 in
theorem spec_l1All.calls (k : Nat) (A0 : Option Addr) (c0 : Nat) (l0 : List Int) (r : Bool) (w : World) (hr0 : Kd.C (Kd.int .i64) w A0 l0.length l0) (hc0 : l0.length ≤ c0) (h : spec_l1All.f k l0 = some r) :
  Calls Try.prog 40 #[.slice A0 l0.length c0] w fun e w' => e = .returned (.bool r) ∧ Drawn0 w w' := by
 have HR0 := am hr0
 have HC0 := am hc0
 clear hr0 hc0
 have H : (spec_l1All.l0 k l0 (l0.length : Int) 0) = some r := h
 clear h
 have H' := am H
 clear H
 go_enter Try.func40, Try.ntmps40
 go_wp2
 go_loopg [7] k (fun kq v7 w' => ∃ (x7_1 : Int), v7 = .int .i64 x7_1 ∧ Aside0 (spec_l1All.l0 kq l0 (l0.length : Int) x7_1 = some r) ∧ Aside0 (kq ≤ k) ∧ Drawn0 w w')
 case atStart => exact ⟨(0), (by first | rfl | (simp; done) | (simp [*]; done)), H', ⟨Nat.le_refl _⟩, by repeat (first | exact Drawn0.refl _ | apply Drawn0.step)⟩
 case round =>
  clear H'
  obtain ⟨x7_1, rfl, HA, HK1, ⟨m1, rfl⟩⟩ := hrel
  cases gk with
  | zero => exact absurd HA.out (by simp [spec_l1All.l0])
  | succ k1 =>
   have H := HA.out
   clear HA
   simp only [spec_l1All.l0] at H
   by_cases c2 : x7_1 < (l0.length : Int)
   ·rw [if_pos c2] at H
    have c2b0 : decide (x7_1 < (l0.length : Int)) = true := decide_eq_true c2
    clear c2
    by_cases c3 : 0 ≤ x7_1
    ·rw [if_pos c3] at H
     have c3b0 : decide (0 ≤ x7_1) = true := decide_eq_true c3
     clear c3
     by_cases c4 : x7_1 < (l0.length : Int)
     ·rw [if_pos c4] at H
      have c4b0 : decide (x7_1 < (l0.length : Int)) = true := decide_eq_true c4
      clear c4
      replace H := Option.bind_eq_some_iff.mp H
      obtain ⟨t293, A50, H⟩ := H
      (try dsimp only at H)
      have A5 := am A50
      clear A50
      by_cases c6 : t293 = true
      ·subst c6
       have H1 : (spec_l1All.l0 k1 l0 (l0.length : Int) (wrap64 (x7_1 + 1))) = some r := by rw [if_pos rfl] at H; exact H
       clear H
       have H := H1
       clear H1
       have H' := am H
       clear H
       have p292 : 0 ≤ (x7_1 : Int) := of_decide_eq_true (by first | (with_reducible assumption) | assumption)
       have q292 : x7_1 < (l0.length : Int) := of_decide_eq_true (by first | (with_reducible assumption) | assumption)
       obtain ⟨ad292, e292, hx292_0⟩ := Kd.at_int HR0.out x7_1 p292 q292
       cases e292
       replace p292 := eq_true p292
       replace q292 := eq_true q292
       go_wp2_with (first | ((with_reducible refine gate_callee (f := 66) rfl ?_); refine goesL_ (some 12) rfl rfl Try.func66 (by kernel_rfl) rfl #[.int .i64 (rd l0 x7_1)] rfl (by (try simp only [List.map_toArray, List.map_cons, List.map_nil]); first | done | rfl | (simp only [List.length_drop, List.length_take]; rfl)) ?_; (with_reducible refine (spec_CostValid.calls (rd l0 x7_1) true _ A5.out).mono ?_); rintro e w' ⟨rfl, ⟨nd, rfl⟩⟩; refine ⟨_, rfl, ?_⟩))
       go_roundg k1
       case measure => have := HK1.out; omega
       case rel => exact ⟨(wrap64 (x7_1 + 1)), (by first | rfl | (simp; done) | (simp [*]; done)), H', ⟨by have := HK1.out; omega⟩, by repeat (first | exact Drawn0.refl _ | apply Drawn0.step)⟩
      ·replace c6 := Bool.eq_false_iff.mpr c6
       subst c6
       have H1 : (some false) = some r := by rw [if_neg (show ¬ (false = true) by decide)] at H; exact H
       clear H
       have H := H1
       clear H1
       obtain rfl := Option.some.inj H
       have p292 : 0 ≤ (x7_1 : Int) := of_decide_eq_true (by first | (with_reducible assumption) | assumption)
       have q292 : x7_1 < (l0.length : Int) := of_decide_eq_true (by first | (with_reducible assumption) | assumption)
       obtain ⟨ad292, e292, hx292_0⟩ := Kd.at_int HR0.out x7_1 p292 q292
       cases e292
       replace p292 := eq_true p292
       replace q292 := eq_true q292
       go_wp2_with (first | ((with_reducible refine gate_callee (f := 66) rfl ?_); refine goesL_ (some 12) rfl rfl Try.func66 (by kernel_rfl) rfl #[.int .i64 (rd l0 x7_1)] rfl (by (try simp only [List.map_toArray, List.map_cons, List.map_nil]); first | done | rfl | (simp only [List.length_drop, List.length_take]; rfl)) ?_; (with_reducible refine (spec_CostValid.calls (rd l0 x7_1) false _ A5.out).mono ?_); rintro e w' ⟨rfl, ⟨nd, rfl⟩⟩; refine ⟨_, rfl, ?_⟩))
       go_ret
       exact ⟨by first | rfl | (simp; done) | (simp [*]; done), by repeat (first | exact Drawn0.refl _ | apply Drawn0.step)⟩
     ·rw [if_neg c4] at H
      exact absurd H (by simp)
    ·rw [if_neg c3] at H
     exact absurd H (by simp)
   ·rw [if_neg c2] at H
    have c2b0 : decide (x7_1 < (l0.length : Int)) = false := decide_eq_false c2
    clear c2
    obtain rfl := Option.some.inj H
    go_wp2
    go_ret
    exact ⟨by first | rfl | (simp; done) | (simp [*]; done), by repeat (first | exact Drawn0.refl _ | apply Drawn0.step)⟩

/-! ### spec_MatrixValid: function 15 -/
def spec_MatrixValid.f (k : Nat) (a0_0 : Int) (l0_1 : List Int) : Option (Bool) := (spec_l1In.f a0_0 1 4).bind fun t295 => (if t295 = true then (if (l0_1.length : Int) = (wrap64 (a0_0 * a0_0)) then ((spec_l1All.f k l0_1).bind fun t296 => (some t296)) else (some false)) else (some false))
theorem spec_MatrixValid.mono : ∀ a0 a1 k, LeO (spec_MatrixValid.f k a0 a1) (spec_MatrixValid.f (k + 1) a0 a1) := by
 intro a0 a1 k
 unfold spec_MatrixValid.f
 repeat' first
   | (with_reducible exact spec_l1All.mono _ _)
   | (with_reducible exact LeO.refl _)
   | (with_reducible exact LeO.none _)
   | (with_reducible refine LeO.ite ?_ ?_)
   | (with_reducible refine LeO.bind ?_ (fun _ => ?_))
   | exact spec_l1All.mono _ _
   | exact LeO.none _
   | refine LeO.ite ?_ ?_
   | refine LeO.bind ?_ (fun _ => ?_)
set_option maxHeartbeats 8000000 in
set_option maxRecDepth 100000 in
theorem spec_MatrixValid.calls (k : Nat) (a0_0 : Int) (A0_1 : Option Addr) (c0_1 : Nat) (l0_1 : List Int) (r : Bool) (w : World) (hr0_1 : Kd.C (Kd.int .i64) w A0_1 l0_1.length l0_1) (hc0_1 : l0_1.length ≤ c0_1) (h : spec_MatrixValid.f k a0_0 l0_1 = some r) :
  Calls Try.prog 15 #[.agg #[.int .i64 a0_0, .slice A0_1 l0_1.length c0_1]] w fun e w' => e = .returned (.bool r) ∧ Below w.heap.size w w' := by
 have hu27 := Try.underlying27
 have HR0_1 := am hr0_1
 have HC0_1 := am hc0_1
 clear hr0_1 hc0_1
 have HB := am (Below.refl w.heap.size w)
 have H : ((spec_l1In.f a0_0 1 4).bind fun t295 => (if t295 = true then (if (l0_1.length : Int) = (wrap64 (a0_0 * a0_0)) then ((spec_l1All.f k l0_1).bind fun t296 => (some t296)) else (some false)) else (some false))) = some r := h
 clear h
 replace H := Option.bind_eq_some_iff.mp H
 obtain ⟨t295, A20, H⟩ := H
 (try dsimp only at H)
 have A2 := am A20
 clear A20
 by_cases c3 : t295 = true
 ·subst c3
  have H1 : (if (l0_1.length : Int) = (wrap64 (a0_0 * a0_0)) then ((spec_l1All.f k l0_1).bind fun t296 => (some t296)) else (some false)) = some r := by rw [if_pos rfl] at H; exact H
  clear H
  have H := H1
  clear H1
  by_cases c4 : (l0_1.length : Int) = (wrap64 (a0_0 * a0_0))
  ·rw [if_pos c4] at H
   have c4b0 : ((l0_1.length : Int) == (wrap64 (a0_0 * a0_0))) = true := beq_iff_eq.mpr c4
   have c4b1 : ((l0_1.length : Int) != (wrap64 (a0_0 * a0_0))) = false := bne_eq_false_iff_eq.mpr c4
   clear c4
   replace H := Option.bind_eq_some_iff.mp H
   obtain ⟨t296, A50, H⟩ := H
   (try dsimp only at H)
   have A5 := am A50
   clear A50
   obtain rfl := Option.some.inj H
   go_enter Try.func15, Try.ntmps15
   go_wp2_with (first | ((with_reducible refine gate_dst (N := 1) rfl ?_); (try (refine gate_guard (by rfl) ?_; dsimp only)); refine box_event ?hg (N := 1) ?hd (cs := #[.int .i64 a0_0, .slice A0_1 l0_1.length c0_1]) (t := 27) ?hr ?_; (case hd => rfl); (case hg => rfl); (case hr => first | (go_simp; done) | (go_simp; rfl)); intro gb294 hg w6 hbox hb; have n0_ := am (below_step (bz HB.out) hb); have n1_ := am (hbox); have n2_ := am ((by rw [hg]; exact (below_size (bz HB.out)) : w.heap.size ≤ gb294)); have n3_ := am ((by rw [hg]; exact (below_size (bz HB.out)) : w.heap.size ≤ gb294)); clear HB; have HB := n0_; have BK294 := n1_; have GW294 := n2_; have GE294 := n3_; clear n0_ n1_ n2_ n3_ hb hbox hg; have hcz7_0 := cz20 BK294.out; have hcz7_1 := cz21 BK294.out; have hfz7_0 := blk_frozen BK294.out 0; have hfz7_1 := blk_frozen BK294.out 1) | ((with_reducible refine gate_callee (f := 39) rfl ?_); refine goesL_ (some 5) rfl rfl Try.func39 (by kernel_rfl) rfl #[.int .i64 a0_0, .int .i64 1, .int .i64 4] rfl (by (try simp only [List.map_toArray, List.map_cons, List.map_nil]); first | done | rfl | (simp only [List.length_drop, List.length_take]; rfl)) ?_; (with_reducible refine (spec_l1In.calls a0_0 1 4 true _ A2.out).mono ?_); rintro e w' ⟨rfl, ⟨nd, rfl⟩⟩; refine ⟨_, rfl, ?_⟩) | (go_at_call 40; (with_reducible refine (spec_l1All.calls k _ _ l0_1 t296 _ ?side1 ?side2 A5.out).mono ?_); (case side1 => repeat (first | exact (Kd.C_below HR0_1.out (bw HB.out)) | (with_reducible refine Kd.C_alloc ?_ _) | (with_reducible refine Kd.C_drewN ?_ _) | (with_reducible refine Kd.C_drew ?_))); (case side2 => exact HC0_1.out); rintro e w' ⟨rfl, ⟨nd, rfl⟩⟩))
   go_ret
   exact ⟨by first | rfl | (simp [errW_none, errW_some] <;> rfl) | (simp [*, errW_none, errW_some] <;> rfl), by exact bw HB.out⟩
  ·rw [if_neg c4] at H
   have c4b0 : ((l0_1.length : Int) == (wrap64 (a0_0 * a0_0))) = false := beq_eq_false_iff_ne.mpr c4
   have c4b1 : ((l0_1.length : Int) != (wrap64 (a0_0 * a0_0))) = true := bne_iff_ne.mpr c4
   obtain rfl := Option.some.inj H
   go_enter Try.func15, Try.ntmps15
   go_wp2_with (first | ((with_reducible refine gate_dst (N := 1) rfl ?_); (try (refine gate_guard (by rfl) ?_; dsimp only)); refine box_event ?hg (N := 1) ?hd (cs := #[.int .i64 a0_0, .slice A0_1 l0_1.length c0_1]) (t := 27) ?hr ?_; (case hd => rfl); (case hg => rfl); (case hr => first | (go_simp; done) | (go_simp; rfl)); intro gb294 hg w8 hbox hb; have n0_ := am (below_step (bz HB.out) hb); have n1_ := am (hbox); have n2_ := am ((by rw [hg]; exact (below_size (bz HB.out)) : w.heap.size ≤ gb294)); have n3_ := am ((by rw [hg]; exact (below_size (bz HB.out)) : w.heap.size ≤ gb294)); clear HB; have HB := n0_; have BK294 := n1_; have GW294 := n2_; have GE294 := n3_; clear n0_ n1_ n2_ n3_ hb hbox hg; have hcz9_0 := cz20 BK294.out; have hcz9_1 := cz21 BK294.out; have hfz9_0 := blk_frozen BK294.out 0; have hfz9_1 := blk_frozen BK294.out 1) | ((with_reducible refine gate_callee (f := 39) rfl ?_); refine goesL_ (some 5) rfl rfl Try.func39 (by kernel_rfl) rfl #[.int .i64 a0_0, .int .i64 1, .int .i64 4] rfl (by (try simp only [List.map_toArray, List.map_cons, List.map_nil]); first | done | rfl | (simp only [List.length_drop, List.length_take]; rfl)) ?_; (with_reducible refine (spec_l1In.calls a0_0 1 4 true _ A2.out).mono ?_); rintro e w' ⟨rfl, ⟨nd, rfl⟩⟩; refine ⟨_, rfl, ?_⟩))
   go_ret
   exact ⟨by first | rfl | (simp [errW_none, errW_some] <;> rfl) | (simp [*, errW_none, errW_some] <;> rfl), by exact bw HB.out⟩
 ·replace c3 := Bool.eq_false_iff.mpr c3
  subst c3
  have H1 : (some false) = some r := by rw [if_neg (show ¬ (false = true) by decide)] at H; exact H
  clear H
  have H := H1
  clear H1
  obtain rfl := Option.some.inj H
  go_enter Try.func15, Try.ntmps15
  go_wp2_with (first | ((with_reducible refine gate_dst (N := 1) rfl ?_); (try (refine gate_guard (by rfl) ?_; dsimp only)); refine box_event ?hg (N := 1) ?hd (cs := #[.int .i64 a0_0, .slice A0_1 l0_1.length c0_1]) (t := 27) ?hr ?_; (case hd => rfl); (case hg => rfl); (case hr => first | (go_simp; done) | (go_simp; rfl)); intro gb294 hg w10 hbox hb; have n0_ := am (below_step (bz HB.out) hb); have n1_ := am (hbox); have n2_ := am ((by rw [hg]; exact (below_size (bz HB.out)) : w.heap.size ≤ gb294)); have n3_ := am ((by rw [hg]; exact (below_size (bz HB.out)) : w.heap.size ≤ gb294)); clear HB; have HB := n0_; have BK294 := n1_; have GW294 := n2_; have GE294 := n3_; clear n0_ n1_ n2_ n3_ hb hbox hg; have hcz11_0 := cz20 BK294.out; have hcz11_1 := cz21 BK294.out; have hfz11_0 := blk_frozen BK294.out 0; have hfz11_1 := blk_frozen BK294.out 1) | ((with_reducible refine gate_callee (f := 39) rfl ?_); refine goesL_ (some 5) rfl rfl Try.func39 (by kernel_rfl) rfl #[.int .i64 a0_0, .int .i64 1, .int .i64 4] rfl (by (try simp only [List.map_toArray, List.map_cons, List.map_nil]); first | done | rfl | (simp only [List.length_drop, List.length_take]; rfl)) ?_; (with_reducible refine (spec_l1In.calls a0_0 1 4 false _ A2.out).mono ?_); rintro e w' ⟨rfl, ⟨nd, rfl⟩⟩; refine ⟨_, rfl, ?_⟩))
  go_ret
  exact ⟨by first | rfl | (simp [errW_none, errW_some] <;> rfl) | (simp [*, errW_none, errW_some] <;> rfl), by exact bw HB.out⟩

/-! ### spec_l2Unit: function 46 -/
def spec_l2Unit.l0 : Nat → Int → Int → Int → Int → List Int → Option (Int × List Int)
 | 0, _, _, _, _, _ => none
 | k + 1, x0, x9, x10, x299000, x299001 => if x10 < x9 then (if x0 = 0 then (none) else (if (wrap64 (Int.tdiv x10 x0)) = (Int.tmod x10 x0) then (if x299001.length < 17592186044416 then (spec_l2Unit.l0 k x0 x9 (wrap64 (x10 + 1)) x299000 (x299001 ++ [0])) else (none)) else (if x299001.length < 17592186044416 then (spec_l2Unit.l0 k x0 x9 (wrap64 (x10 + 1)) x299000 (x299001 ++ [1000000])) else (none)))) else (some (x299000, x299001))
def spec_l2Unit.f (k : Nat) (a0 : Int) : Option (Int × List Int) := spec_l2Unit.l0 k a0 (wrap64 (a0 * a0)) 0 a0 ([] : List Int)
theorem spec_l2Unit.mono_l : ∀ k, (∀ y0 y1 y2 y3 y4, LeO (spec_l2Unit.l0 k y0 y1 y2 y3 y4) (spec_l2Unit.l0 (k + 1) y0 y1 y2 y3 y4))
 | 0 => fun _ _ _ _ _ r h => by simp [spec_l2Unit.l0] at h
 | k + 1 => by
  have ih0 := spec_l2Unit.mono_l k
  ·intro y0 y1 y2 y3 y4
   unfold spec_l2Unit.l0
   repeat' first
   | (with_reducible exact ih0 _ _ _ _ _)
   | (with_reducible exact LeO.refl _)
   | (with_reducible exact LeO.none _)
   | (with_reducible refine LeO.ite ?_ ?_)
   | (with_reducible refine LeO.bind ?_ (fun _ => ?_))
   | exact ih0 _ _ _ _ _
   | exact LeO.none _
   | refine LeO.ite ?_ ?_
   | refine LeO.bind ?_ (fun _ => ?_)
theorem spec_l2Unit.mono : ∀ a0 k, LeO (spec_l2Unit.f k a0) (spec_l2Unit.f (k + 1) a0) := by
 intro a0 k
 have ih0 := spec_l2Unit.mono_l k
 unfold spec_l2Unit.f
 repeat' first
   | (with_reducible exact ih0 _ _ _ _ _)
   | (with_reducible exact LeO.refl _)
   | (with_reducible exact LeO.none _)
   | (with_reducible refine LeO.ite ?_ ?_)
   | (with_reducible refine LeO.bind ?_ (fun _ => ?_))
   | exact ih0 _ _ _ _ _
   | exact LeO.none _
   | refine LeO.ite ?_ ?_
   | refine LeO.bind ?_ (fun _ => ?_)
set_option maxHeartbeats 8000000 in
set_option maxRecDepth 100000 in
theorem spec_l2Unit.calls (k : Nat) (a0 : Int) (r1 : Int) (r2 : List Int) (w : World) (h : spec_l2Unit.f k a0 = some (r1, r2)) :
  Calls Try.prog 46 #[.int .i64 a0] w fun e w' => ∃ v1_ : Value, e = .returned (.agg #[.int .i64 r1, v1_]) ∧ Kd.R (Kd.int .i64) 3 w' w.heap.size (fun _ => True) v1_ r2 ∧ Below w.heap.size w w' := by
 have hu27 := Try.underlying27
 have HB := am (Below.refl w.heap.size w)
 have H : (spec_l2Unit.l0 k a0 (wrap64 (a0 * a0)) 0 a0 ([] : List Int)) = some (r1, r2) := h
 clear h
 have H' := am H
 clear H
 go_enter Try.func46, Try.ntmps46
 go_wp2_with (first | ((with_reducible refine gate_dst (N := 2) rfl ?_); refine box_event ?hg (N := 2) ?hd (cs := #[.int .i64 0, .slice none 0 0]) (t := 27) ?hr ?_; (case hd => rfl); (case hg => rfl); (case hr => first | (go_simp; done) | (go_simp; rfl)); intro gb297 hg w2 hbox hb; have n0_ := am (below_step (bz HB.out) hb); have n1_ := am (hbox); have n2_ := am ((by rw [hg]; exact (below_size (bz HB.out)) : w.heap.size ≤ gb297)); have n3_ := am ((by rw [hg]; exact (below_size (bz HB.out)) : w.heap.size ≤ gb297)); clear HB; revert n0_ n1_ n2_ n3_; intro HB BK297 GW297 GE297; clear hb hbox hg) | ((with_reducible refine gate_dst (N := 3) rfl ?_); refine box_event ?hg (N := 3) ?hd (cs := #[.int .i64 0, .slice none 0 0]) (t := 27) ?hr ?_; (case hd => rfl); (case hg => rfl); (case hr => first | (go_simp; done) | (go_simp; rfl)); intro gb298 hg w3 hbox hb; have n0_ := bk BK297 hb; have n1_ := am (below_step (bw HB.out) hb); have n2_ := am (hbox); have n3_ := am ((by rw [hg]; exact (below_size (bw HB.out)) : w.heap.size ≤ gb298)); have n4_ := am ((by rw [hg]; exact (below_size (bw HB.out)) : w.heap.size ≤ gb298)); have n5_ := am ((by rw [hg]; exact Nat.ne_of_lt (blk_lt (kz BK297.out)) : gb297 ≠ gb298)); have n6_ := am ((by rw [hg]; exact Nat.ne_of_gt (blk_lt (kz BK297.out)) : gb298 ≠ gb297)); clear BK297 HB; have BK297 := n0_; have HB := n1_; have BK298 := n2_; have GW298 := n3_; have GE298 := n4_; have NB297_298 := n5_; have NB298_297 := n6_; clear n0_ n1_ n2_ n3_ n4_ n5_ n6_ hb hbox hg; have hnb4 := NB298_297.out; have hnc4 := NB297_298.out; have hcz5_0 := cz20 BK298.out; have hcz5_1 := cz21 BK298.out; have hfz5_0 := blk_frozen BK298.out 0; have hfz5_1 := blk_frozen BK298.out 1))
 repeat (go_quiet (first | ((with_reducible refine gate_dst (N := 2) rfl ?_); refine box_event ?hg (N := 2) ?hd (cs := #[.int .i64 0, .slice none 0 0]) (t := 27) ?hr ?_; (case hd => rfl); (case hg => rfl); (case hr => first | (go_simp; done) | (go_simp; rfl)); intro gb297 hg w2 hbox hb; have n0_ := am (below_step (bz HB.out) hb); have n1_ := am (hbox); have n2_ := am ((by rw [hg]; exact (below_size (bz HB.out)) : w.heap.size ≤ gb297)); have n3_ := am ((by rw [hg]; exact (below_size (bz HB.out)) : w.heap.size ≤ gb297)); clear HB; revert n0_ n1_ n2_ n3_; intro HB BK297 GW297 GE297; clear hb hbox hg) | ((with_reducible refine gate_dst (N := 3) rfl ?_); refine box_event ?hg (N := 3) ?hd (cs := #[.int .i64 0, .slice none 0 0]) (t := 27) ?hr ?_; (case hd => rfl); (case hg => rfl); (case hr => first | (go_simp; done) | (go_simp; rfl)); intro gb298 hg w3 hbox hb; have n0_ := bk BK297 hb; have n1_ := am (below_step (bw HB.out) hb); have n2_ := am (hbox); have n3_ := am ((by rw [hg]; exact (below_size (bw HB.out)) : w.heap.size ≤ gb298)); have n4_ := am ((by rw [hg]; exact (below_size (bw HB.out)) : w.heap.size ≤ gb298)); have n5_ := am ((by rw [hg]; exact Nat.ne_of_lt (blk_lt (kz BK297.out)) : gb297 ≠ gb298)); have n6_ := am ((by rw [hg]; exact Nat.ne_of_gt (blk_lt (kz BK297.out)) : gb298 ≠ gb297)); clear BK297 HB; have BK297 := n0_; have HB := n1_; have BK298 := n2_; have GW298 := n3_; have GE298 := n4_; have NB297_298 := n5_; have NB298_297 := n6_; clear n0_ n1_ n2_ n3_ n4_ n5_ n6_ hb hbox hg; have hnb4 := NB298_297.out; have hnc4 := NB297_298.out; have hcz5_0 := cz20 BK298.out; have hcz5_1 := cz21 BK298.out; have hfz5_0 := blk_frozen BK298.out 0; have hfz5_1 := blk_frozen BK298.out 1)); try go_wp2_with (first | ((with_reducible refine gate_dst (N := 2) rfl ?_); refine box_event ?hg (N := 2) ?hd (cs := #[.int .i64 0, .slice none 0 0]) (t := 27) ?hr ?_; (case hd => rfl); (case hg => rfl); (case hr => first | (go_simp; done) | (go_simp; rfl)); intro gb297 hg w2 hbox hb; have n0_ := am (below_step (bz HB.out) hb); have n1_ := am (hbox); have n2_ := am ((by rw [hg]; exact (below_size (bz HB.out)) : w.heap.size ≤ gb297)); have n3_ := am ((by rw [hg]; exact (below_size (bz HB.out)) : w.heap.size ≤ gb297)); clear HB; revert n0_ n1_ n2_ n3_; intro HB BK297 GW297 GE297; clear hb hbox hg) | ((with_reducible refine gate_dst (N := 3) rfl ?_); refine box_event ?hg (N := 3) ?hd (cs := #[.int .i64 0, .slice none 0 0]) (t := 27) ?hr ?_; (case hd => rfl); (case hg => rfl); (case hr => first | (go_simp; done) | (go_simp; rfl)); intro gb298 hg w3 hbox hb; have n0_ := bk BK297 hb; have n1_ := am (below_step (bw HB.out) hb); have n2_ := am (hbox); have n3_ := am ((by rw [hg]; exact (below_size (bw HB.out)) : w.heap.size ≤ gb298)); have n4_ := am ((by rw [hg]; exact (below_size (bw HB.out)) : w.heap.size ≤ gb298)); have n5_ := am ((by rw [hg]; exact Nat.ne_of_lt (blk_lt (kz BK297.out)) : gb297 ≠ gb298)); have n6_ := am ((by rw [hg]; exact Nat.ne_of_gt (blk_lt (kz BK297.out)) : gb298 ≠ gb297)); clear BK297 HB; have BK297 := n0_; have HB := n1_; have BK298 := n2_; have GW298 := n3_; have GE298 := n4_; have NB297_298 := n5_; have NB298_297 := n6_; clear n0_ n1_ n2_ n3_ n4_ n5_ n6_ hb hbox hg; have hnb4 := NB298_297.out; have hnc4 := NB297_298.out; have hcz5_0 := cz20 BK298.out; have hcz5_1 := cz21 BK298.out; have hfz5_0 := blk_frozen BK298.out 0; have hfz5_1 := blk_frozen BK298.out 1)))
 go_loopg [10] k (fun kq v10 w' => ∃ (x10_1 : Int) (x299001_1 : List Int) (u299001 : Value), v10 = .int .i64 x10_1 ∧ Aside0 (spec_l2Unit.l0 kq a0 (wrap64 (a0 * a0)) x10_1 a0 x299001_1 = some (r1, r2)) ∧ Aside0 (kq ≤ k) ∧ Aside0 (Kd.R (Kd.int .i64) 3 w' w.heap.size (fun _ => True) u299001 x299001_1) ∧ Aside0 (w'.heap[gb297]? = some (.cells #[.int .i64 0, (.slice none 0 0)] 27 (0, 0))) ∧ Aside0 (w'.heap[gb298]? = some (.cells #[.int .i64 a0, u299001] 27 (0, 0))) ∧ Aside0 (Below w.heap.size w w'))
 case atStart => exact ⟨(0), (([] : List Int)), (.slice none 0 0), (by first | rfl | (simp; done) | (simp [*]; done)), H', ⟨Nat.le_refl _⟩, ⟨by first | exact Kd.R_nil _ _ _ _ _ | exact Kd.N_nil _ _ _ _ _ | exact Kd.V_nil _ _ _ _ _ | exact Kd.Q_nil _ _ _ _ _ | exact Kd.S_nil _ _ _ _ _⟩, ⟨by (with_reducible repeat (first | refine kn ?_ _ | refine kd ?_ | refine ka ?_ _)); refine blk_far ?_ NB297_298.out _; (with_reducible repeat (first | refine kn ?_ _ | refine kd ?_ | refine ka ?_ _)); refine blk_far ?_ NB297_298.out _; (with_reducible repeat (first | refine kn ?_ _ | refine kd ?_ | refine ka ?_ _)); exact BK297.out⟩, ⟨by (with_reducible repeat (first | refine kn ?_ _ | refine kd ?_ | refine ka ?_ _)); refine blk_put (cs := #[.int .i64 a0, .slice none 0 0]) ?_ 1 _ rfl; (with_reducible repeat (first | refine kn ?_ _ | refine kd ?_ | refine ka ?_ _)); refine blk_put (cs := #[.int .i64 0, .slice none 0 0]) ?_ 0 _ rfl; (with_reducible repeat (first | refine kn ?_ _ | refine kd ?_ | refine ka ?_ _)); exact BK298.out⟩, ⟨by exact bw HB.out⟩⟩
 case round =>
  clear H'
  try clear p2
  try clear c4
  try clear hcz5_0
  try clear hcz5_1
  try clear hfz5_0
  try clear hfz5_1
  obtain ⟨x10_1, x299001_1, u299001, rfl, HA, HK1, HO_299001, BK297, BK298, HB⟩ := hrel
  cases gk with
  | zero => exact absurd HA.out (by simp [spec_l2Unit.l0])
  | succ k1 =>
   have H := HA.out
   clear HA
   simp only [spec_l2Unit.l0] at H
   by_cases c6 : x10_1 < (wrap64 (a0 * a0))
   ·rw [if_pos c6] at H
    have c6b0 : decide (x10_1 < (wrap64 (a0 * a0))) = true := decide_eq_true c6
    clear c6
    by_cases c7 : a0 = 0
    ·rw [if_pos c7] at H
     exact absurd H (by simp)
    ·rw [if_neg c7] at H
     have c7b0 : (a0 == 0) = false := beq_eq_false_iff_ne.mpr c7
     have c7b1 : (a0 != 0) = true := bne_iff_ne.mpr c7
     by_cases c8 : (wrap64 (Int.tdiv x10_1 a0)) = (Int.tmod x10_1 a0)
     ·rw [if_pos c8] at H
      have c8b0 : ((wrap64 (Int.tdiv x10_1 a0)) == (Int.tmod x10_1 a0)) = true := beq_iff_eq.mpr c8
      have c8b1 : ((wrap64 (Int.tdiv x10_1 a0)) != (Int.tmod x10_1 a0)) = false := bne_eq_false_iff_eq.mpr c8
      clear c8
      by_cases c9 : x299001_1.length < 17592186044416
      ·rw [if_pos c9] at H
       have LMc9 := am c9
       clear c9
       obtain ⟨y299, hy299⟩ : ∃ y_ : List Int, y_ = (x299001_1 ++ [0]) := ⟨_, rfl⟩
       replace H : (spec_l2Unit.l0 k1 a0 (wrap64 (a0 * a0)) (wrap64 (x10_1 + 1)) a0 y299) = some (r1, r2) := by first | (rw [hy299]; with_reducible exact H) | (have H2_ := (Option.bind_some _ _).symm.trans H; rw [hy299]; with_reducible exact H2_) | (have H2_ := (Option.bind_some _ _).symm.trans H; with_reducible exact H2_) | with_reducible exact H | (rw [hy299]; exact H) | exact H
       have Ny299 := am hy299
       clear hy299
       have H' := am H
       clear H
       have hnb10 := NB298_297.out
       have hnc10 := NB297_298.out
       have hcz11_0 := cz20 BK298.out
       have hcz11_1 := cz21 BK298.out
       have hfz11_0 := blk_frozen BK298.out 0
       have hfz11_1 := blk_frozen BK298.out 1
       go_wp2_with (first | ((with_reducible refine gate_builtin (b := .append) (xs := #[.tmp 21, .tmp 22]) rfl ?_); at_builtin; refine Kd.R_append (Kd.int .i64) (w0 := w) w.heap.size rfl (.tmp 21) (.tmp 22) 22 3 (.int .i64 0) 8 rfl Try.underlying22 info3 rfl (by decide) (by omega) u299001 x299001_1 0 [.int .i64 0] (fun _ => True) (fun _ => False) rfl rfl ?aP (fun _ hk => hk.elim) ?aF ?aO ?aB ?aS ?aL ?_; (case aP => exact rfl); (case aB => exact (bw HB.out)); (case aF => exact (fun _ _ => trivial)); (case aO => exact (rz HO_299001.out)); (case aS => exact (below_size (bw HB.out))); (case aL => have := LMc9.out; omega); intro v300 w12 ho hb hg hat; rw [← Ny299.out] at ho; have n0_ := am (blk_grown (kz BK297.out) hg (Kd.R_ne HO_299001.out BK297.out (by decide))); have n1_ := am (blk_grown (kz BK298.out) hg (Kd.R_ne HO_299001.out BK298.out (by decide))); have n2_ := am (hb); have n3_ := am (ho); clear BK297 BK298 HB HO_299001; have BK297 := n0_; have BK298 := n1_; have HB := n2_; have HO301 := n3_; clear n0_ n1_ n2_ n3_ ho hb hg hat; obtain ⟨Ao13, co13, eo13⟩ := Kd.R_slice HO301.out; subst eo13; have hcz14_0 := cz20 BK298.out; have hcz14_1 := cz21 BK298.out; have hfz14_0 := blk_frozen BK298.out 0; have hfz14_1 := blk_frozen BK298.out 1))
       repeat (go_quiet (first | ((with_reducible refine gate_builtin (b := .append) (xs := #[.tmp 21, .tmp 22]) rfl ?_); at_builtin; refine Kd.R_append (Kd.int .i64) (w0 := w) w.heap.size rfl (.tmp 21) (.tmp 22) 22 3 (.int .i64 0) 8 rfl Try.underlying22 info3 rfl (by decide) (by omega) u299001 x299001_1 0 [.int .i64 0] (fun _ => True) (fun _ => False) rfl rfl ?aP (fun _ hk => hk.elim) ?aF ?aO ?aB ?aS ?aL ?_; (case aP => exact rfl); (case aB => exact (bw HB.out)); (case aF => exact (fun _ _ => trivial)); (case aO => exact (rz HO_299001.out)); (case aS => exact (below_size (bw HB.out))); (case aL => have := LMc9.out; omega); intro v300 w12 ho hb hg hat; rw [← Ny299.out] at ho; have n0_ := am (blk_grown (kz BK297.out) hg (Kd.R_ne HO_299001.out BK297.out (by decide))); have n1_ := am (blk_grown (kz BK298.out) hg (Kd.R_ne HO_299001.out BK298.out (by decide))); have n2_ := am (hb); have n3_ := am (ho); clear BK297 BK298 HB HO_299001; have BK297 := n0_; have BK298 := n1_; have HB := n2_; have HO301 := n3_; clear n0_ n1_ n2_ n3_ ho hb hg hat; obtain ⟨Ao13, co13, eo13⟩ := Kd.R_slice HO301.out; subst eo13; have hcz14_0 := cz20 BK298.out; have hcz14_1 := cz21 BK298.out; have hfz14_0 := blk_frozen BK298.out 0; have hfz14_1 := blk_frozen BK298.out 1)); try go_wp2_with (first | ((with_reducible refine gate_builtin (b := .append) (xs := #[.tmp 21, .tmp 22]) rfl ?_); at_builtin; refine Kd.R_append (Kd.int .i64) (w0 := w) w.heap.size rfl (.tmp 21) (.tmp 22) 22 3 (.int .i64 0) 8 rfl Try.underlying22 info3 rfl (by decide) (by omega) u299001 x299001_1 0 [.int .i64 0] (fun _ => True) (fun _ => False) rfl rfl ?aP (fun _ hk => hk.elim) ?aF ?aO ?aB ?aS ?aL ?_; (case aP => exact rfl); (case aB => exact (bw HB.out)); (case aF => exact (fun _ _ => trivial)); (case aO => exact (rz HO_299001.out)); (case aS => exact (below_size (bw HB.out))); (case aL => have := LMc9.out; omega); intro v300 w12 ho hb hg hat; rw [← Ny299.out] at ho; have n0_ := am (blk_grown (kz BK297.out) hg (Kd.R_ne HO_299001.out BK297.out (by decide))); have n1_ := am (blk_grown (kz BK298.out) hg (Kd.R_ne HO_299001.out BK298.out (by decide))); have n2_ := am (hb); have n3_ := am (ho); clear BK297 BK298 HB HO_299001; have BK297 := n0_; have BK298 := n1_; have HB := n2_; have HO301 := n3_; clear n0_ n1_ n2_ n3_ ho hb hg hat; obtain ⟨Ao13, co13, eo13⟩ := Kd.R_slice HO301.out; subst eo13; have hcz14_0 := cz20 BK298.out; have hcz14_1 := cz21 BK298.out; have hfz14_0 := blk_frozen BK298.out 0; have hfz14_1 := blk_frozen BK298.out 1)))
       go_roundg k1
       case measure => have := HK1.out; omega
       case rel => exact ⟨(wrap64 (x10_1 + 1)), (y299), (.slice Ao13 y299.length co13), (by first | rfl | (simp; done) | (simp [*]; done)), H', ⟨by have := HK1.out; omega⟩, ⟨by (with_reducible repeat (first | apply ra | apply rn | apply rw_)); exact Kd.R_mono (Kd.R_far (p := ⟨gb298, 1, none⟩) (Kd.R_types HO301.out BK298.out (by decide)) (fun _ hk => hk.2) (.slice Ao13 y299.length co13)) (fun _ hk => trivial)⟩, ⟨by (with_reducible repeat (first | refine kn ?_ _ | refine kd ?_ | refine ka ?_ _)); refine blk_far ?_ NB297_298.out _; (with_reducible repeat (first | refine kn ?_ _ | refine kd ?_ | refine ka ?_ _)); exact BK297.out⟩, ⟨by (with_reducible repeat (first | refine kn ?_ _ | refine kd ?_ | refine ka ?_ _)); refine blk_put (cs := #[.int .i64 a0, u299001]) ?_ 1 _ rfl; (with_reducible repeat (first | refine kn ?_ _ | refine kd ?_ | refine ka ?_ _)); exact BK298.out⟩, ⟨by exact bw HB.out⟩⟩
      ·rw [if_neg c9] at H
       exact absurd H (by simp)
     ·rw [if_neg c8] at H
      have c8b0 : ((wrap64 (Int.tdiv x10_1 a0)) == (Int.tmod x10_1 a0)) = false := beq_eq_false_iff_ne.mpr c8
      have c8b1 : ((wrap64 (Int.tdiv x10_1 a0)) != (Int.tmod x10_1 a0)) = true := bne_iff_ne.mpr c8
      by_cases c15 : x299001_1.length < 17592186044416
      ·rw [if_pos c15] at H
       have LMc15 := am c15
       clear c15
       obtain ⟨y302, hy302⟩ : ∃ y_ : List Int, y_ = (x299001_1 ++ [1000000]) := ⟨_, rfl⟩
       replace H : (spec_l2Unit.l0 k1 a0 (wrap64 (a0 * a0)) (wrap64 (x10_1 + 1)) a0 y302) = some (r1, r2) := by first | (rw [hy302]; with_reducible exact H) | (have H2_ := (Option.bind_some _ _).symm.trans H; rw [hy302]; with_reducible exact H2_) | (have H2_ := (Option.bind_some _ _).symm.trans H; with_reducible exact H2_) | with_reducible exact H | (rw [hy302]; exact H) | exact H
       have Ny302 := am hy302
       clear hy302
       have H' := am H
       clear H
       have hnb16 := NB298_297.out
       have hnc16 := NB297_298.out
       have hcz17_0 := cz20 BK298.out
       have hcz17_1 := cz21 BK298.out
       have hfz17_0 := blk_frozen BK298.out 0
       have hfz17_1 := blk_frozen BK298.out 1
       go_wp2_with (first | ((with_reducible refine gate_builtin (b := .append) (xs := #[.tmp 26, .tmp 27]) rfl ?_); at_builtin; refine Kd.R_append (Kd.int .i64) (w0 := w) w.heap.size rfl (.tmp 26) (.tmp 27) 22 3 (.int .i64 0) 8 rfl Try.underlying22 info3 rfl (by decide) (by omega) u299001 x299001_1 1000000 [.int .i64 1000000] (fun _ => True) (fun _ => False) rfl rfl ?aP (fun _ hk => hk.elim) ?aF ?aO ?aB ?aS ?aL ?_; (case aP => exact rfl); (case aB => exact (bw HB.out)); (case aF => exact (fun _ _ => trivial)); (case aO => exact (rz HO_299001.out)); (case aS => exact (below_size (bw HB.out))); (case aL => have := LMc15.out; omega); intro v303 w18 ho hb hg hat; rw [← Ny302.out] at ho; have n0_ := am (blk_grown (kz BK297.out) hg (Kd.R_ne HO_299001.out BK297.out (by decide))); have n1_ := am (blk_grown (kz BK298.out) hg (Kd.R_ne HO_299001.out BK298.out (by decide))); have n2_ := am (hb); have n3_ := am (ho); clear BK297 BK298 HB HO_299001; have BK297 := n0_; have BK298 := n1_; have HB := n2_; have HO304 := n3_; clear n0_ n1_ n2_ n3_ ho hb hg hat; obtain ⟨Ao19, co19, eo19⟩ := Kd.R_slice HO304.out; subst eo19; have hcz20_0 := cz20 BK298.out; have hcz20_1 := cz21 BK298.out; have hfz20_0 := blk_frozen BK298.out 0; have hfz20_1 := blk_frozen BK298.out 1))
       repeat (go_quiet (first | ((with_reducible refine gate_builtin (b := .append) (xs := #[.tmp 26, .tmp 27]) rfl ?_); at_builtin; refine Kd.R_append (Kd.int .i64) (w0 := w) w.heap.size rfl (.tmp 26) (.tmp 27) 22 3 (.int .i64 0) 8 rfl Try.underlying22 info3 rfl (by decide) (by omega) u299001 x299001_1 1000000 [.int .i64 1000000] (fun _ => True) (fun _ => False) rfl rfl ?aP (fun _ hk => hk.elim) ?aF ?aO ?aB ?aS ?aL ?_; (case aP => exact rfl); (case aB => exact (bw HB.out)); (case aF => exact (fun _ _ => trivial)); (case aO => exact (rz HO_299001.out)); (case aS => exact (below_size (bw HB.out))); (case aL => have := LMc15.out; omega); intro v303 w18 ho hb hg hat; rw [← Ny302.out] at ho; have n0_ := am (blk_grown (kz BK297.out) hg (Kd.R_ne HO_299001.out BK297.out (by decide))); have n1_ := am (blk_grown (kz BK298.out) hg (Kd.R_ne HO_299001.out BK298.out (by decide))); have n2_ := am (hb); have n3_ := am (ho); clear BK297 BK298 HB HO_299001; have BK297 := n0_; have BK298 := n1_; have HB := n2_; have HO304 := n3_; clear n0_ n1_ n2_ n3_ ho hb hg hat; obtain ⟨Ao19, co19, eo19⟩ := Kd.R_slice HO304.out; subst eo19; have hcz20_0 := cz20 BK298.out; have hcz20_1 := cz21 BK298.out; have hfz20_0 := blk_frozen BK298.out 0; have hfz20_1 := blk_frozen BK298.out 1)); try go_wp2_with (first | ((with_reducible refine gate_builtin (b := .append) (xs := #[.tmp 26, .tmp 27]) rfl ?_); at_builtin; refine Kd.R_append (Kd.int .i64) (w0 := w) w.heap.size rfl (.tmp 26) (.tmp 27) 22 3 (.int .i64 0) 8 rfl Try.underlying22 info3 rfl (by decide) (by omega) u299001 x299001_1 1000000 [.int .i64 1000000] (fun _ => True) (fun _ => False) rfl rfl ?aP (fun _ hk => hk.elim) ?aF ?aO ?aB ?aS ?aL ?_; (case aP => exact rfl); (case aB => exact (bw HB.out)); (case aF => exact (fun _ _ => trivial)); (case aO => exact (rz HO_299001.out)); (case aS => exact (below_size (bw HB.out))); (case aL => have := LMc15.out; omega); intro v303 w18 ho hb hg hat; rw [← Ny302.out] at ho; have n0_ := am (blk_grown (kz BK297.out) hg (Kd.R_ne HO_299001.out BK297.out (by decide))); have n1_ := am (blk_grown (kz BK298.out) hg (Kd.R_ne HO_299001.out BK298.out (by decide))); have n2_ := am (hb); have n3_ := am (ho); clear BK297 BK298 HB HO_299001; have BK297 := n0_; have BK298 := n1_; have HB := n2_; have HO304 := n3_; clear n0_ n1_ n2_ n3_ ho hb hg hat; obtain ⟨Ao19, co19, eo19⟩ := Kd.R_slice HO304.out; subst eo19; have hcz20_0 := cz20 BK298.out; have hcz20_1 := cz21 BK298.out; have hfz20_0 := blk_frozen BK298.out 0; have hfz20_1 := blk_frozen BK298.out 1)))
       go_roundg k1
       case measure => have := HK1.out; omega
       case rel => exact ⟨(wrap64 (x10_1 + 1)), (y302), (.slice Ao19 y302.length co19), (by first | rfl | (simp; done) | (simp [*]; done)), H', ⟨by have := HK1.out; omega⟩, ⟨by (with_reducible repeat (first | apply ra | apply rn | apply rw_)); exact Kd.R_mono (Kd.R_far (p := ⟨gb298, 1, none⟩) (Kd.R_types HO304.out BK298.out (by decide)) (fun _ hk => hk.2) (.slice Ao19 y302.length co19)) (fun _ hk => trivial)⟩, ⟨by (with_reducible repeat (first | refine kn ?_ _ | refine kd ?_ | refine ka ?_ _)); refine blk_far ?_ NB297_298.out _; (with_reducible repeat (first | refine kn ?_ _ | refine kd ?_ | refine ka ?_ _)); exact BK297.out⟩, ⟨by (with_reducible repeat (first | refine kn ?_ _ | refine kd ?_ | refine ka ?_ _)); refine blk_put (cs := #[.int .i64 a0, u299001]) ?_ 1 _ rfl; (with_reducible repeat (first | refine kn ?_ _ | refine kd ?_ | refine ka ?_ _)); exact BK298.out⟩, ⟨by exact bw HB.out⟩⟩
      ·rw [if_neg c15] at H
       exact absurd H (by simp)
   ·rw [if_neg c6] at H
    have c6b0 : decide (x10_1 < (wrap64 (a0 * a0))) = false := decide_eq_false c6
    clear c6
    simp only [Option.some.injEq, Prod.mk.injEq] at H
    obtain ⟨rfl, rfl⟩ := H
    have hnb21 := NB298_297.out
    have hnc21 := NB297_298.out
    have hcz22_0 := cz20 BK298.out
    have hcz22_1 := cz21 BK298.out
    have hfz22_0 := blk_frozen BK298.out 0
    have hfz22_1 := blk_frozen BK298.out 1
    have hcz23_0 := cz20 BK297.out
    have hcz23_1 := cz21 BK297.out
    have hfz23_0 := blk_frozen BK297.out 0
    have hfz23_1 := blk_frozen BK297.out 1
    obtain ⟨Ao24, co24, eo24⟩ := Kd.R_slice HO_299001.out
    subst eo24
    go_wp2
    repeat (go_quiet (fail); try go_wp2)
    refine bodyPost_ret (results_cell_row rfl _ _ gb297 27 #[.int .i64 a0, .slice Ao24 x299001_1.length co24] (0, 0) _ rfl (by (with_reducible repeat (first | refine kn ?_ _ | refine kd ?_ | refine ka ?_ _)); refine blk_put (cs := #[.int .i64 a0, .slice none 0 0]) ?_ 1 _ rfl; (with_reducible repeat (first | refine kn ?_ _ | refine kd ?_ | refine ka ?_ _)); refine blk_put (cs := #[.int .i64 0, .slice none 0 0]) ?_ 0 _ rfl; (with_reducible repeat (first | refine kn ?_ _ | refine kd ?_ | refine ka ?_ _)); exact BK297.out) Try.underlying27 rfl (by kernel_rfl)) rfl ?_
    exact ⟨_, by first | rfl | (simp [errW_none, errW_some] <;> rfl) | (simp [*, errW_none, errW_some] <;> rfl), by (with_reducible repeat (first | apply ra | apply rn | apply rw_)); exact Kd.R_mono (Kd.R_far (p := ⟨gb297, 1, none⟩) (Kd.R_far (p := ⟨gb297, 0, none⟩) (Kd.R_types HO_299001.out BK297.out (by decide)) (fun _ hk => hk.2) (.int .i64 a0)) (fun _ hk => hk.2) (.slice Ao24 x299001_1.length co24)) (fun _ hk => trivial), by exact bw HB.out⟩

end Go.Proofs.Ythojienhgeiknaa.PFnStarMatrix
