-- Written by a program (wip/myprint.py): the machine side of one law: each function that it reaches, as a plain function, and the proof that a call comes to just that.
import Derived.Test.YthojienhgeiknaaPFnStarMatrixx0
import Derived.Test.YthojienhgeiknaaPFnStarMatrixx6
import Derived.Test.YthojienhgeiknaaPFnStarMatrixx7
import Derived.Test.YthojienhgeiknaaPFnStarMatrixx8
namespace Go.Proofs.Ythojienhgeiknaa.PFnStarMatrix
open Go.RowKit Go.Proofs.YthojienhgeiknaaW.PrintWords Go.Proofs.YthojienhgeiknaaW.PrintLast Go.Proofs.YthojienhgeiknaaW.PrintMore
attribute [local go_sem] max2_int min2_int max_two min_two max_three min_three max_four min_four   -- for this text's walks alone
set_option linter.unusedVariables false
set_option linter.unusedSimpArgs false

/-! ### spec_StarMatrix: function 37 -/
def spec_StarMatrix.l0 : Nat → Int → Int → Int → List Int → Option (Int × List Int × Bool)
 | 0, _, _, _, _ => none
 | k + 1, x15, x16, x336000, x336001 => if x16 < x15 then ((spec_l2Mul.f k x336000 x336001 x336000 x336001).bind fun bt336 => (spec_StarMatrix.l0 k x15 (wrap64 (x16 + 1)) bt336.1 bt336.2)) else (some (x336000, x336001, true))
def spec_StarMatrix.f (k : Nat) (a0_0 : Int) (l0_1 : List Int) : Option (Int × List Int × Bool) := (spec_MatrixValid.f k a0_0 l0_1).bind fun t326 => (if t326 = true then ((spec_l2Unit.f k a0_0).bind fun bt327 => ((spec_l2Min.f k a0_0 l0_1 bt327.1 bt327.2).bind fun bt331 => (spec_StarMatrix.l0 k a0_0 0 bt331.1 bt331.2))) else (some (0, ([] : List Int), false)))
theorem spec_StarMatrix.mono_l : ∀ k, (∀ y0 y1 y2 y3, LeO (spec_StarMatrix.l0 k y0 y1 y2 y3) (spec_StarMatrix.l0 (k + 1) y0 y1 y2 y3))
 | 0 => fun _ _ _ _ r h => by simp [spec_StarMatrix.l0] at h
 | k + 1 => by
  have ih0 := spec_StarMatrix.mono_l k
  ·intro y0 y1 y2 y3
   unfold spec_StarMatrix.l0
   repeat' first
   | (with_reducible exact ih0 _ _ _ _)
   | (with_reducible exact spec_MatrixValid.mono _ _ _)
   | (with_reducible exact spec_l2Min.mono _ _ _ _ _)
   | (with_reducible exact spec_l2Mul.mono _ _ _ _ _)
   | (with_reducible exact spec_l2Unit.mono _ _)
   | (with_reducible exact LeO.refl _)
   | (with_reducible exact LeO.none _)
   | (with_reducible refine LeO.ite ?_ ?_)
   | (with_reducible refine LeO.bind ?_ (fun _ => ?_))
   | exact ih0 _ _ _ _
   | exact spec_MatrixValid.mono _ _ _
   | exact spec_l2Min.mono _ _ _ _ _
   | exact spec_l2Mul.mono _ _ _ _ _
   | exact spec_l2Unit.mono _ _
   | exact LeO.none _
   | refine LeO.ite ?_ ?_
   | refine LeO.bind ?_ (fun _ => ?_)
theorem spec_StarMatrix.mono : ∀ a0 a1 k, LeO (spec_StarMatrix.f k a0 a1) (spec_StarMatrix.f (k + 1) a0 a1) := by
 intro a0 a1 k
 have ih0 := spec_StarMatrix.mono_l k
 unfold spec_StarMatrix.f
 repeat' first
   | (with_reducible exact ih0 _ _ _ _)
   | (with_reducible exact spec_MatrixValid.mono _ _ _)
   | (with_reducible exact spec_l2Min.mono _ _ _ _ _)
   | (with_reducible exact spec_l2Mul.mono _ _ _ _ _)
   | (with_reducible exact spec_l2Unit.mono _ _)
   | (with_reducible exact LeO.refl _)
   | (with_reducible exact LeO.none _)
   | (with_reducible refine LeO.ite ?_ ?_)
   | (with_reducible refine LeO.bind ?_ (fun _ => ?_))
   | exact ih0 _ _ _ _
   | exact spec_MatrixValid.mono _ _ _
   | exact spec_l2Min.mono _ _ _ _ _
   | exact spec_l2Mul.mono _ _ _ _ _
   | exact spec_l2Unit.mono _ _
   | exact LeO.none _
   | refine LeO.ite ?_ ?_
   | refine LeO.bind ?_ (fun _ => ?_)
set_option maxHeartbeats 8000000 in
set_option maxRecDepth 100000 in
theorem spec_StarMatrix.calls (k : Nat) (a0_0 : Int) (A0_1 : Option Addr) (c0_1 : Nat) (l0_1 : List Int) (r1 : Int) (r2 : List Int) (r3 : Bool) (w : World) (hr0_1 : Kd.C (Kd.int .i64) w A0_1 l0_1.length l0_1) (hc0_1 : l0_1.length ≤ c0_1) (h : spec_StarMatrix.f k a0_0 l0_1 = some (r1, r2, r3)) :
  Calls Try.prog 37 #[.agg #[.int .i64 a0_0, .slice A0_1 l0_1.length c0_1]] w fun e w' => ∃ v1_ : Value, e = .returned (.tuple #[.agg #[.int .i64 r1, v1_], .bool r3]) ∧ Kd.R (Kd.int .i64) 3 w' w.heap.size (fun _ => True) v1_ r2 ∧ Below w.heap.size w w' := by
 have hu27 := Try.underlying27
 have HR0_1 := am hr0_1
 have HC0_1 := am hc0_1
 clear hr0_1 hc0_1
 have HB := am (Below.refl w.heap.size w)
 have H : ((spec_MatrixValid.f k a0_0 l0_1).bind fun t326 => (if t326 = true then ((spec_l2Unit.f k a0_0).bind fun bt327 => ((spec_l2Min.f k a0_0 l0_1 bt327.1 bt327.2).bind fun bt331 => (spec_StarMatrix.l0 k a0_0 0 bt331.1 bt331.2))) else (some (0, ([] : List Int), false)))) = some (r1, r2, r3) := h
 clear h
 replace H := Option.bind_eq_some_iff.mp H
 obtain ⟨t326, A20, H⟩ := H
 (try dsimp only at H)
 have A2 := am A20
 clear A20
 by_cases c3 : t326 = true
 ·subst c3
  have H1 : ((spec_l2Unit.f k a0_0).bind fun bt327 => ((spec_l2Min.f k a0_0 l0_1 bt327.1 bt327.2).bind fun bt331 => (spec_StarMatrix.l0 k a0_0 0 bt331.1 bt331.2))) = some (r1, r2, r3) := by rw [if_pos rfl] at H; exact H
  clear H
  have H := H1
  clear H1
  replace H := Option.bind_eq_some_iff.mp H
  obtain ⟨⟨t327, t328⟩, A40, H⟩ := H
  (try dsimp only at H)
  have A4 := am A40
  clear A40
  replace H := Option.bind_eq_some_iff.mp H
  obtain ⟨⟨t331, t332⟩, A50, H⟩ := H
  (try dsimp only at H)
  have A5 := am A50
  clear A50
  have H' := am H
  clear H
  go_enter Try.func37, Try.ntmps37
  try go_wp2_with (first | ((with_reducible refine gate_dst (N := 1) rfl ?_); refine box_event ?hg (N := 1) ?hd (cs := #[.int .i64 a0_0, .slice A0_1 l0_1.length c0_1]) (t := 27) ?hr ?_; (case hd => rfl); (case hg => rfl); (case hr => first | (go_simp; done) | (go_simp; rfl)); intro gb324 hg w6 hbox hb; have n0_ := am (below_step (bz HB.out) hb); have n1_ := am (hbox); have n2_ := am ((by rw [hg]; exact (below_size (bz HB.out)) : w.heap.size ≤ gb324)); have n3_ := am ((by rw [hg]; exact (below_size (bz HB.out)) : w.heap.size ≤ gb324)); clear HB; revert n0_ n1_ n2_ n3_; intro HB BK324 GW324 GE324; clear hb hbox hg) | ((with_reducible refine gate_dst (N := 2) rfl ?_); refine box_event ?hg (N := 2) ?hd (cs := #[.int .i64 0, .slice none 0 0]) (t := 27) ?hr ?_; (case hd => rfl); (case hg => rfl); (case hr => first | (go_simp; done) | (go_simp; rfl)); intro gb325 hg w7 hbox hb; have n0_ := bk BK324 hb; have n1_ := am (below_step (bw HB.out) hb); have n2_ := am (hbox); have n3_ := am ((by rw [hg]; exact (below_size (bw HB.out)) : w.heap.size ≤ gb325)); have n4_ := am ((by rw [hg]; exact (below_size (bw HB.out)) : w.heap.size ≤ gb325)); have n5_ := am ((by rw [hg]; exact Nat.ne_of_lt (blk_lt (kz BK324.out)) : gb324 ≠ gb325)); have n6_ := am ((by rw [hg]; exact Nat.ne_of_gt (blk_lt (kz BK324.out)) : gb325 ≠ gb324)); clear BK324 HB; have BK324 := n0_; have HB := n1_; have BK325 := n2_; have GW325 := n3_; have GE325 := n4_; have NB324_325 := n5_; have NB325_324 := n6_; clear n0_ n1_ n2_ n3_ n4_ n5_ n6_ hb hbox hg; have hnb8 := NB324_325.out; have hnc8 := NB325_324.out; have hcz9_0 := cz20 BK324.out; have hcz9_1 := cz21 BK324.out; have hfz9_0 := blk_frozen BK324.out 0; have hfz9_1 := blk_frozen BK324.out 1) | ((with_reducible refine gate_callee (f := 15) rfl ?_); refine goesL_ (some 6) rfl rfl Try.func15 (by kernel_rfl) rfl #[.agg #[.int .i64 a0_0, .slice A0_1 l0_1.length c0_1]] rfl (by (try simp only [List.map_toArray, List.map_cons, List.map_nil]); first | done | rfl | (simp only [List.length_drop, List.length_take]; rfl)) ?_; (with_reducible refine (spec_MatrixValid.calls k a0_0 _ _ l0_1 true _ ?side1 ?side2 A2.out).mono ?_); (case side1 => repeat (first | exact (Kd.C_below HR0_1.out HB.out) | (with_reducible refine Kd.C_alloc ?_ _) | (with_reducible refine Kd.C_drewN ?_ _) | (with_reducible refine Kd.C_drew ?_))); (case side2 => exact HC0_1.out); rintro e w10 ⟨rfl, hb⟩; refine ⟨_, rfl, ?_⟩; have n0_ := bk BK324 hb; have n1_ := bk BK325 hb; have n2_ := am (below_step (bw HB.out) hb); clear BK324 BK325 HB; revert n0_ n1_ n2_; intro BK324 BK325 HB; (try clear hb); (try clear hb2); (try clear hk); (try clear hi)))
  have n0_ := am (blk_drew BK324.out)
  have n1_ := am (blk_drew BK325.out)
  have n2_ := am (below_drew1 HB.out)
  clear BK324 BK325 HB
  revert n0_ n1_ n2_; intro BK324 BK325 HB
  refine start_ (n := 7) (S := fun w' => w'.cell? ⟨gb324, 0, none⟩ = some (.int .i64 a0_0) ∧ w'.cell? ⟨gb324, 1, none⟩ = some (.slice A0_1 l0_1.length c0_1)) (ds := []) #[false, false, false, false, false, false, false] (by kernel_rfl) rfl rfl ⟨(blk_cell BK324.out 0).trans rfl, (blk_cell BK324.out 1).trans rfl⟩ (fun hHeld => ?_)
  generalize w10.drew = w11 at BK324 BK325 HB hHeld ⊢
  refine pure_ (i := 1) (N := some 10) (v := ?_) (a' := ?_) #[false, true, false, false, false, false, false] rfl rfl (by kernel_rfl) (fun _ _ _ h => h) (Or.inl ⟨by rfl, ?_⟩) ?_ ?_
  rotate_left
  ·intro w'
   go_simp
   with_reducible rfl
  rotate_left
  ·simp only [Act.put, List.setIfInBounds_toArray, List.set_cons_zero, List.set_cons_succ, i64_w, i32_w]
   rfl
  refine take_ (i := 0) (N := some 9) (v := ?_) (a' := ?_) #[true, true, false, false, false, false, false] rfl rfl (by kernel_rfl) (fun _ _ _ h => h) (Or.inl ⟨by rfl, ?_⟩) hHeld ?_ ?_
  rotate_left
  ·rintro w' ⟨s0, s1⟩
   go_simp
   with_reducible rfl
  rotate_left
  ·simp only [Act.put, List.setIfInBounds_toArray, List.set_cons_zero, List.set_cons_succ, i64_w, i32_w]
   rfl
  refine take_ (i := 2) (N := some 11) (v := ?_) (a' := ?_) #[true, true, true, false, false, false, false] rfl rfl (by kernel_rfl) (fun _ _ _ h => h) (Or.inl ⟨by rfl, ?_⟩) hHeld ?_ ?_
  rotate_left
  ·rintro w' ⟨s0, s1⟩
   go_simp
   with_reducible rfl
  rotate_left
  ·simp only [Act.put, List.setIfInBounds_toArray, List.set_cons_zero, List.set_cons_succ, i64_w, i32_w]
   rfl
  refine join_ (σ := Value × Value × Nat) 1 #[true, true, true, true, true, true, false] (fun s_ => [(12, .agg #[.int .i64 t327, s_.1]), (13, .agg #[.int .i64 t331, s_.2.1]), (4, .pointer (some ⟨s_.2.2, 0, none⟩))]) (fun s_ w' => (w'.cell? ⟨gb324, 0, none⟩ = some (.int .i64 a0_0) ∧ w'.cell? ⟨gb324, 1, none⟩ = some (.slice A0_1 l0_1.length c0_1)) ∧ (Kd.R (Kd.int .i64) 3 w' w.heap.size (fun k_ => some k_ ≠ (s_.2.1 : Value).ownBlock) s_.1 t328) ∧ (Kd.R (Kd.int .i64) 3 w' w.heap.size (fun k_ => some k_ ≠ (s_.1 : Value).ownBlock) s_.2.1 t332) ∧ (w'.heap[gb324]? = some (.cells #[.int .i64 a0_0, .slice A0_1 l0_1.length c0_1] 27 (0, 0))) ∧ (w'.heap[gb325]? = some (.cells #[.int .i64 0, .slice none 0 0] 27 (0, 0))) ∧ (w'.heap[s_.2.2]? = some (.cells #[.int .i64 0, .slice none 0 0] 27 (0, 0))) ∧ (w.heap.size ≤ s_.2.2) ∧ (w.heap.size ≤ s_.2.2) ∧ (gb324 ≠ s_.2.2) ∧ (s_.2.2 ≠ gb324) ∧ (gb325 ≠ s_.2.2) ∧ (s_.2.2 ≠ gb325) ∧ (Below w.heap.size w w')) ?_ ?_
  rotate_left
  ·intro hCont
   refine two_ (i := 3) (j := 5) (Ni := some 12) (Nj := some 4) #[true, true, true, true, false, false, false] #[true, true, true, false, false, true, false] rfl rfl rfl rfl (by kernel_rfl) (by decide) (by decide) (fun K hK => ?_) (fun K hK => ?_)
   ·skip
    refine goes_ Try.func46 (by kernel_rfl) rfl #[.int .i64 a0_0] (by rfl) rfl rfl (by (try simp only [List.map_toArray, List.map_cons, List.map_nil]); first | done | rfl | (simp only [List.length_drop, List.length_take]; rfl)) ?_
    with_reducible refine (spec_l2Unit.calls k a0_0 t327 t328 _ A4.out).mono ?_
    rintro e w12 ⟨v329, rfl, ho0, hb⟩
    refine ⟨_, rfl, ?_⟩
    have n0_ := am (Kd.R_lower ho0 (below_size (bw HB.out)))
    have n1_ := bk BK324 hb
    have n2_ := bk BK325 hb
    have n3_ := am (below_step (bw HB.out) hb)
    clear BK324 BK325 HB
    revert n0_ n1_ n2_ n3_; intro HO330 BK324 BK325 HB
    (try clear hb)
    (try clear hb2)
    (try clear hk)
    (try clear hi)
    (try clear ho0)
    obtain ⟨Ao13, co13, eo13⟩ := Kd.R_slice HO330.out
    (first | subst eo13 | (injection eo13 with f1_ f2_ f3_; have f4_ := f1_.symm; have f5_ := f3_.symm; clear f1_ f2_ f3_; subst f4_; subst f5_))
    refine hK.out _ _ ⟨(blk_cell BK324.out 0).trans rfl, (blk_cell BK324.out 1).trans rfl⟩ (fun hHeld => ?_)
    clear hK K
    refine norm_ (a' := ?_) ?_ ?_
    rotate_left
    ·show Act.put _ (some 12) _ = _
     simp only [Act.put, List.setIfInBounds_toArray, List.set_cons_zero, List.set_cons_succ, i64_w, i32_w]
     rfl
    refine two_ (i := 4) (j := 5) (Ni := some 13) (Nj := some 4) #[true, true, true, true, true, false, false] #[true, true, true, true, false, true, false] rfl rfl rfl rfl (by kernel_rfl) (by decide) (by decide) (fun K hK => ?_) (fun K hK => ?_)
    ·skip
     refine goes_ Try.func54 (by kernel_rfl) rfl #[.agg #[.int .i64 a0_0, .slice A0_1 l0_1.length c0_1], .agg #[.int .i64 t327, .slice Ao13 t328.length co13]] (by rfl) rfl rfl (by (try simp only [List.map_toArray, List.map_cons, List.map_nil]); first | done | rfl | (simp only [List.length_drop, List.length_take]; rfl)) ?_
     with_reducible refine (spec_l2Min.calls k a0_0 _ _ l0_1 t327 _ _ t328 t331 t332 _ ?side1 ?side2 ?side3 ?side4 A5.out).mono ?_
     (case side1 => repeat (first | exact (Kd.C_below HR0_1.out HB.out) | (with_reducible refine Kd.C_alloc ?_ _) | (with_reducible refine Kd.C_drewN ?_ _) | (with_reducible refine Kd.C_drew ?_)))
     (case side2 => exact HC0_1.out)
     (case side3 => repeat (first | exact (Kd.R_reads' HO330.out).2.2 | (with_reducible refine Kd.C_alloc ?_ _) | (with_reducible refine Kd.C_drewN ?_ _) | (with_reducible refine Kd.C_drew ?_)))
     (case side4 => exact (Kd.R_reads' HO330.out).2.1)
     rintro e w14 ⟨v333, rfl, ho0, hb⟩
     refine ⟨_, rfl, ?_⟩
     have n0_ := el HO330 (Kd.R_base ho0) hb
     have n1_ := am (Kd.R_lower (Kd.R_new' ho0 (Kd.R_lt (rz HO330.out))) (below_size (bw HB.out)))
     have n2_ := bk BK324 hb
     have n3_ := bk BK325 hb
     have n4_ := am (below_step (bw HB.out) hb)
     clear HO330 BK324 BK325 HB
     revert n0_ n1_ n2_ n3_ n4_; intro HO330 HO334 BK324 BK325 HB
     (try clear hb)
     (try clear hb2)
     (try clear hk)
     (try clear hi)
     (try clear ho0)
     refine hK.out _ _ ⟨(blk_cell BK324.out 0).trans rfl, (blk_cell BK324.out 1).trans rfl⟩ (fun hHeld => ?_)
     clear hK K
     refine norm_ (a' := ?_) ?_ ?_
     rotate_left
     ·show Act.put _ (some 13) _ = _
      simp only [Act.put, List.setIfInBounds_toArray, List.set_cons_zero, List.set_cons_succ, i64_w, i32_w]
      rfl
     refine one_ (i := 5) (N := some 4) #[true, true, true, true, true, true, false] rfl rfl (by kernel_rfl) (by decide) (fun K hK => ?_)
     refine box_step ?hg (N := 4) ?hd (cs := #[.int .i64 0, .slice none 0 0]) (t := 27) ?hr ?_; (case hd => rfl); (case hg => rfl); (case hr => first | (go_simp; done) | (go_simp; rfl))
     intro gb335 hg w15 hbox hb
     have n0_ := am (Kd.R_below (rz HO330.out) hb)
     have n1_ := am (Kd.R_below (rz HO334.out) hb)
     have n2_ := bk BK324 hb
     have n3_ := bk BK325 hb
     have n4_ := am (below_step (bw HB.out) hb)
     have n5_ := am (hbox)
     have n6_ := am ((by rw [hg]; exact (below_size (bw HB.out)) : w.heap.size ≤ gb335))
     have n7_ := am ((by rw [hg]; exact (below_size (bw HB.out)) : w.heap.size ≤ gb335))
     have n8_ := am ((by rw [hg]; exact Nat.ne_of_lt (blk_lt (kz BK324.out)) : gb324 ≠ gb335))
     have n9_ := am ((by rw [hg]; exact Nat.ne_of_gt (blk_lt (kz BK324.out)) : gb335 ≠ gb324))
     have n10_ := am ((by rw [hg]; exact Nat.ne_of_lt (blk_lt (kz BK325.out)) : gb325 ≠ gb335))
     have n11_ := am ((by rw [hg]; exact Nat.ne_of_gt (blk_lt (kz BK325.out)) : gb335 ≠ gb325))
     clear HO330 HO334 BK324 BK325 HB
     have HO330 := n0_
     have HO334 := n1_
     have BK324 := n2_
     have BK325 := n3_
     have HB := n4_
     have BK335 := n5_
     have GW335 := n6_
     have GE335 := n7_
     have NB324_335 := n8_
     have NB335_324 := n9_
     have NB325_335 := n10_
     have NB335_325 := n11_
     clear n0_ n1_ n2_ n3_ n4_ n5_ n6_ n7_ n8_ n9_ n10_ n11_ hb hbox hg
     refine hK.out _ _ ⟨(blk_cell BK324.out 0).trans rfl, (blk_cell BK324.out 1).trans rfl⟩ (fun hHeld => ?_)
     clear hK K
     refine norm_ (a' := ?_) ?_ ?_
     rotate_left
     ·show Act.put _ (some 4) _ = _
      simp only [Act.put, List.setIfInBounds_toArray, List.set_cons_zero, List.set_cons_succ, i64_w, i32_w]
      rfl
     exact norm_ (by simp only [putAll, Act.put, List.setIfInBounds_toArray, List.set_cons_zero, List.set_cons_succ]) (hCont (.slice Ao13 t328.length co13, v333, gb335) _ ⟨hHeld, (by (with_reducible repeat (first | apply ra | apply rn | apply rw_)); exact Kd.R_mono HO330.out (fun _ hk => hk.2)), (by (with_reducible repeat (first | apply ra | apply rn | apply rw_)); exact Kd.R_mono HO334.out (fun _ hk => hk.2)), (kz BK324.out), (kz BK325.out), (kz BK335.out), GW335.out, GE335.out, NB324_335.out, NB335_324.out, NB325_335.out, NB335_325.out, (bw HB.out)⟩)
    ·skip
     refine box_step ?hg (N := 4) ?hd (cs := #[.int .i64 0, .slice none 0 0]) (t := 27) ?hr ?_; (case hd => rfl); (case hg => rfl); (case hr => first | (go_simp; done) | (go_simp; rfl))
     intro gb335 hg w13 hbox hb
     have n0_ := am (Kd.R_below (rz HO330.out) hb)
     have n1_ := bk BK324 hb
     have n2_ := bk BK325 hb
     have n3_ := am (below_step (bw HB.out) hb)
     have n4_ := am (hbox)
     have n5_ := am ((by rw [hg]; exact (below_size (bw HB.out)) : w.heap.size ≤ gb335))
     have n6_ := am ((by rw [hg]; exact (below_size (bw HB.out)) : w.heap.size ≤ gb335))
     have n7_ := am ((by rw [hg]; exact Nat.ne_of_lt (blk_lt (kz BK324.out)) : gb324 ≠ gb335))
     have n8_ := am ((by rw [hg]; exact Nat.ne_of_gt (blk_lt (kz BK324.out)) : gb335 ≠ gb324))
     have n9_ := am ((by rw [hg]; exact Nat.ne_of_lt (blk_lt (kz BK325.out)) : gb325 ≠ gb335))
     have n10_ := am ((by rw [hg]; exact Nat.ne_of_gt (blk_lt (kz BK325.out)) : gb335 ≠ gb325))
     clear HO330 BK324 BK325 HB
     have HO330 := n0_
     have BK324 := n1_
     have BK325 := n2_
     have HB := n3_
     have BK335 := n4_
     have GW335 := n5_
     have GE335 := n6_
     have NB324_335 := n7_
     have NB335_324 := n8_
     have NB325_335 := n9_
     have NB335_325 := n10_
     clear n0_ n1_ n2_ n3_ n4_ n5_ n6_ n7_ n8_ n9_ n10_ hb hbox hg
     obtain ⟨Ao14, co14, eo14⟩ := Kd.R_slice HO330.out
     (first | subst eo14 | (injection eo14 with f1_ f2_ f3_; have f4_ := f1_.symm; have f5_ := f3_.symm; clear f1_ f2_ f3_; subst f4_; subst f5_))
     refine hK.out _ _ ⟨(blk_cell BK324.out 0).trans rfl, (blk_cell BK324.out 1).trans rfl⟩ (fun hHeld => ?_)
     clear hK K
     refine norm_ (a' := ?_) ?_ ?_
     rotate_left
     ·show Act.put _ (some 4) _ = _
      simp only [Act.put, List.setIfInBounds_toArray, List.set_cons_zero, List.set_cons_succ, i64_w, i32_w]
      rfl
     refine one_ (i := 4) (N := some 13) #[true, true, true, true, true, true, false] rfl rfl (by kernel_rfl) (by decide) (fun K hK => ?_)
     refine goes_ Try.func54 (by kernel_rfl) rfl #[.agg #[.int .i64 a0_0, .slice A0_1 l0_1.length c0_1], .agg #[.int .i64 t327, .slice Ao14 t328.length co14]] (by rfl) rfl rfl (by (try simp only [List.map_toArray, List.map_cons, List.map_nil]); first | done | rfl | (simp only [List.length_drop, List.length_take]; rfl)) ?_
     with_reducible refine (spec_l2Min.calls k a0_0 _ _ l0_1 t327 _ _ t328 t331 t332 _ ?side1 ?side2 ?side3 ?side4 A5.out).mono ?_
     (case side1 => repeat (first | exact (Kd.C_below HR0_1.out HB.out) | (with_reducible refine Kd.C_alloc ?_ _) | (with_reducible refine Kd.C_drewN ?_ _) | (with_reducible refine Kd.C_drew ?_)))
     (case side2 => exact HC0_1.out)
     (case side3 => repeat (first | exact (Kd.R_reads' HO330.out).2.2 | (with_reducible refine Kd.C_alloc ?_ _) | (with_reducible refine Kd.C_drewN ?_ _) | (with_reducible refine Kd.C_drew ?_)))
     (case side4 => exact (Kd.R_reads' HO330.out).2.1)
     rintro e w15 ⟨v333, rfl, ho0, hb⟩
     refine ⟨_, rfl, ?_⟩
     have n0_ := el HO330 (Kd.R_base ho0) hb
     have n1_ := am (Kd.R_lower (Kd.R_new' ho0 (Kd.R_lt (rz HO330.out))) (below_size (bw HB.out)))
     have n2_ := bk BK324 hb
     have n3_ := bk BK325 hb
     have n4_ := bk BK335 hb
     have n5_ := am (below_step (bw HB.out) hb)
     clear HO330 BK324 BK325 BK335 HB
     revert n0_ n1_ n2_ n3_ n4_ n5_; intro HO330 HO334 BK324 BK325 BK335 HB
     (try clear hb)
     (try clear hb2)
     (try clear hk)
     (try clear hi)
     (try clear ho0)
     refine hK.out _ _ ⟨(blk_cell BK324.out 0).trans rfl, (blk_cell BK324.out 1).trans rfl⟩ (fun hHeld => ?_)
     clear hK K
     refine norm_ (a' := ?_) ?_ ?_
     rotate_left
     ·show Act.put _ (some 13) _ = _
      simp only [Act.put, List.setIfInBounds_toArray, List.set_cons_zero, List.set_cons_succ, i64_w, i32_w]
      rfl
     exact norm_ (by simp only [putAll, Act.put, List.setIfInBounds_toArray, List.set_cons_zero, List.set_cons_succ]) (hCont (.slice Ao14 t328.length co14, v333, gb335) _ ⟨hHeld, (by (with_reducible repeat (first | apply ra | apply rn | apply rw_)); exact Kd.R_mono HO330.out (fun _ hk => hk.2)), (by (with_reducible repeat (first | apply ra | apply rn | apply rw_)); exact Kd.R_mono HO334.out (fun _ hk => hk.2)), (kz BK324.out), (kz BK325.out), (kz BK335.out), GW335.out, GE335.out, NB324_335.out, NB335_324.out, NB325_335.out, NB335_325.out, (bw HB.out)⟩)
   ·skip
    refine box_step ?hg (N := 4) ?hd (cs := #[.int .i64 0, .slice none 0 0]) (t := 27) ?hr ?_; (case hd => rfl); (case hg => rfl); (case hr => first | (go_simp; done) | (go_simp; rfl))
    intro gb335 hg w12 hbox hb
    have n0_ := bk BK324 hb
    have n1_ := bk BK325 hb
    have n2_ := am (below_step (bw HB.out) hb)
    have n3_ := am (hbox)
    have n4_ := am ((by rw [hg]; exact (below_size (bw HB.out)) : w.heap.size ≤ gb335))
    have n5_ := am ((by rw [hg]; exact (below_size (bw HB.out)) : w.heap.size ≤ gb335))
    have n6_ := am ((by rw [hg]; exact Nat.ne_of_lt (blk_lt (kz BK324.out)) : gb324 ≠ gb335))
    have n7_ := am ((by rw [hg]; exact Nat.ne_of_gt (blk_lt (kz BK324.out)) : gb335 ≠ gb324))
    have n8_ := am ((by rw [hg]; exact Nat.ne_of_lt (blk_lt (kz BK325.out)) : gb325 ≠ gb335))
    have n9_ := am ((by rw [hg]; exact Nat.ne_of_gt (blk_lt (kz BK325.out)) : gb335 ≠ gb325))
    clear BK324 BK325 HB
    have BK324 := n0_
    have BK325 := n1_
    have HB := n2_
    have BK335 := n3_
    have GW335 := n4_
    have GE335 := n5_
    have NB324_335 := n6_
    have NB335_324 := n7_
    have NB325_335 := n8_
    have NB335_325 := n9_
    clear n0_ n1_ n2_ n3_ n4_ n5_ n6_ n7_ n8_ n9_ hb hbox hg
    refine hK.out _ _ ⟨(blk_cell BK324.out 0).trans rfl, (blk_cell BK324.out 1).trans rfl⟩ (fun hHeld => ?_)
    clear hK K
    refine norm_ (a' := ?_) ?_ ?_
    rotate_left
    ·show Act.put _ (some 4) _ = _
     simp only [Act.put, List.setIfInBounds_toArray, List.set_cons_zero, List.set_cons_succ, i64_w, i32_w]
     rfl
    refine one_ (i := 3) (N := some 12) #[true, true, true, true, false, true, false] rfl rfl (by kernel_rfl) (by decide) (fun K hK => ?_)
    refine goes_ Try.func46 (by kernel_rfl) rfl #[.int .i64 a0_0] (by rfl) rfl rfl (by (try simp only [List.map_toArray, List.map_cons, List.map_nil]); first | done | rfl | (simp only [List.length_drop, List.length_take]; rfl)) ?_
    with_reducible refine (spec_l2Unit.calls k a0_0 t327 t328 _ A4.out).mono ?_
    rintro e w13 ⟨v329, rfl, ho0, hb⟩
    refine ⟨_, rfl, ?_⟩
    have n0_ := am (Kd.R_lower ho0 (below_size (bw HB.out)))
    have n1_ := bk BK324 hb
    have n2_ := bk BK325 hb
    have n3_ := bk BK335 hb
    have n4_ := am (below_step (bw HB.out) hb)
    clear BK324 BK325 BK335 HB
    revert n0_ n1_ n2_ n3_ n4_; intro HO330 BK324 BK325 BK335 HB
    (try clear hb)
    (try clear hb2)
    (try clear hk)
    (try clear hi)
    (try clear ho0)
    obtain ⟨Ao14, co14, eo14⟩ := Kd.R_slice HO330.out
    (first | subst eo14 | (injection eo14 with f1_ f2_ f3_; have f4_ := f1_.symm; have f5_ := f3_.symm; clear f1_ f2_ f3_; subst f4_; subst f5_))
    refine hK.out _ _ ⟨(blk_cell BK324.out 0).trans rfl, (blk_cell BK324.out 1).trans rfl⟩ (fun hHeld => ?_)
    clear hK K
    refine norm_ (a' := ?_) ?_ ?_
    rotate_left
    ·show Act.put _ (some 12) _ = _
     simp only [Act.put, List.setIfInBounds_toArray, List.set_cons_zero, List.set_cons_succ, i64_w, i32_w]
     rfl
    refine one_ (i := 4) (N := some 13) #[true, true, true, true, true, true, false] rfl rfl (by kernel_rfl) (by decide) (fun K hK => ?_)
    refine goes_ Try.func54 (by kernel_rfl) rfl #[.agg #[.int .i64 a0_0, .slice A0_1 l0_1.length c0_1], .agg #[.int .i64 t327, .slice Ao14 t328.length co14]] (by rfl) rfl rfl (by (try simp only [List.map_toArray, List.map_cons, List.map_nil]); first | done | rfl | (simp only [List.length_drop, List.length_take]; rfl)) ?_
    with_reducible refine (spec_l2Min.calls k a0_0 _ _ l0_1 t327 _ _ t328 t331 t332 _ ?side1 ?side2 ?side3 ?side4 A5.out).mono ?_
    (case side1 => repeat (first | exact (Kd.C_below HR0_1.out HB.out) | (with_reducible refine Kd.C_alloc ?_ _) | (with_reducible refine Kd.C_drewN ?_ _) | (with_reducible refine Kd.C_drew ?_)))
    (case side2 => exact HC0_1.out)
    (case side3 => repeat (first | exact (Kd.R_reads' HO330.out).2.2 | (with_reducible refine Kd.C_alloc ?_ _) | (with_reducible refine Kd.C_drewN ?_ _) | (with_reducible refine Kd.C_drew ?_)))
    (case side4 => exact (Kd.R_reads' HO330.out).2.1)
    rintro e w15 ⟨v333, rfl, ho0, hb⟩
    refine ⟨_, rfl, ?_⟩
    have n0_ := el HO330 (Kd.R_base ho0) hb
    have n1_ := am (Kd.R_lower (Kd.R_new' ho0 (Kd.R_lt (rz HO330.out))) (below_size (bw HB.out)))
    have n2_ := bk BK324 hb
    have n3_ := bk BK325 hb
    have n4_ := bk BK335 hb
    have n5_ := am (below_step (bw HB.out) hb)
    clear HO330 BK324 BK325 BK335 HB
    revert n0_ n1_ n2_ n3_ n4_ n5_; intro HO330 HO334 BK324 BK325 BK335 HB
    (try clear hb)
    (try clear hb2)
    (try clear hk)
    (try clear hi)
    (try clear ho0)
    refine hK.out _ _ ⟨(blk_cell BK324.out 0).trans rfl, (blk_cell BK324.out 1).trans rfl⟩ (fun hHeld => ?_)
    clear hK K
    refine norm_ (a' := ?_) ?_ ?_
    rotate_left
    ·show Act.put _ (some 13) _ = _
     simp only [Act.put, List.setIfInBounds_toArray, List.set_cons_zero, List.set_cons_succ, i64_w, i32_w]
     rfl
    exact norm_ (by simp only [putAll, Act.put, List.setIfInBounds_toArray, List.set_cons_zero, List.set_cons_succ]) (hCont (.slice Ao14 t328.length co14, v333, gb335) _ ⟨hHeld, (by (with_reducible repeat (first | apply ra | apply rn | apply rw_)); exact Kd.R_mono HO330.out (fun _ hk => hk.2)), (by (with_reducible repeat (first | apply ra | apply rn | apply rw_)); exact Kd.R_mono HO334.out (fun _ hk => hk.2)), (kz BK324.out), (kz BK325.out), (kz BK335.out), GW335.out, GE335.out, NB324_335.out, NB335_324.out, NB325_335.out, NB335_325.out, (bw HB.out)⟩)
  rintro ⟨v329, v333, gb335⟩ w16 ⟨hS_, h0_, h1_, h2_, h3_, h4_, h5_, h6_, h7_, h8_, h9_, h10_, h11_⟩
  have n0_ : Aside0 (Kd.R (Kd.int .i64) 3 w16 w.heap.size (fun k_ => some k_ ≠ (v333 : Value).ownBlock) v329 t328) := ⟨h0_⟩
  have n1_ : Aside0 (Kd.R (Kd.int .i64) 3 w16 w.heap.size (fun k_ => some k_ ≠ (v329 : Value).ownBlock) v333 t332) := ⟨h1_⟩
  have n2_ : Aside0 (w16.heap[gb324]? = some (.cells #[.int .i64 a0_0, .slice A0_1 l0_1.length c0_1] 27 (0, 0))) := ⟨h2_⟩
  have n3_ : Aside0 (w16.heap[gb325]? = some (.cells #[.int .i64 0, .slice none 0 0] 27 (0, 0))) := ⟨h3_⟩
  have n4_ : Aside0 (w16.heap[gb335]? = some (.cells #[.int .i64 0, .slice none 0 0] 27 (0, 0))) := ⟨h4_⟩
  have n5_ : Aside0 (w.heap.size ≤ gb335) := ⟨h5_⟩
  have n6_ : Aside0 (w.heap.size ≤ gb335) := ⟨h6_⟩
  have n7_ : Aside0 (gb324 ≠ gb335) := ⟨h7_⟩
  have n8_ : Aside0 (gb335 ≠ gb324) := ⟨h8_⟩
  have n9_ : Aside0 (gb325 ≠ gb335) := ⟨h9_⟩
  have n10_ : Aside0 (gb335 ≠ gb325) := ⟨h10_⟩
  have n11_ : Aside0 (Below w.heap.size w w16) := ⟨h11_⟩
  clear BK324 BK325 HB h0_ h1_ h2_ h3_ h4_ h5_ h6_ h7_ h8_ h9_ h10_ h11_
  revert n0_ n1_ n2_ n3_ n4_ n5_ n6_ n7_ n8_ n9_ n10_ n11_; intro HO330 HO334 BK324 BK325 BK335 GW335 GE335 NB324_335 NB335_324 NB325_335 NB335_325 HB
  have hHeld : w16.cell? ⟨gb324, 0, none⟩ = some (.int .i64 a0_0) ∧ w16.cell? ⟨gb324, 1, none⟩ = some (.slice A0_1 l0_1.length c0_1) := hS_
  obtain ⟨Ao18, co18, eo18⟩ := Kd.R_slice HO334.out
  (first | subst eo18 | (injection eo18 with f1_ f2_ f3_; have f4_ := f1_.symm; have f5_ := f3_.symm; clear f1_ f2_ f3_; subst f4_; subst f5_))
  refine norm_ (a' := ?_) ?_ ?_
  rotate_left
  ·simp only [putAll, Act.put, List.setIfInBounds_toArray, List.set_cons_zero, List.set_cons_succ]
   rfl
  refine one_ (i := 6) (N := none) #[true, true, true, true, true, true, true] rfl rfl (by kernel_rfl) (by decide) (fun K hK => ?_)
  have hs17 : w16.cell? ⟨gb335, 0, none⟩ = some (.int .i64 0) := (blk_cell BK335.out 0).trans rfl
  have hfs17 := blk_frozen BK335.out 0
  have hns17_0 := NB324_335.out
  have hns17_1 := NB325_335.out
  have hms17_0 := NB335_324.out
  have hms17_1 := NB335_325.out
  have hs19 : w16.cell? ⟨gb335, 1, none⟩ = some (.slice none 0 0) := (blk_cell BK335.out 1).trans rfl
  have hfs19 := blk_frozen BK335.out 1
  have hns19_0 := NB324_335.out
  have hns19_1 := NB325_335.out
  have hms19_0 := NB335_324.out
  have hms19_1 := NB335_325.out
  refine skip_ (w1 := ?_) (by rfl) rfl ?_ ?_
  rotate_left
  ·go_simp
   rfl
  refine hK.out _ _ ⟨((cell_far (p := ⟨gb335, _, none⟩) NB324_335.out _).trans (((cell_far (p := ⟨gb335, _, none⟩) NB324_335.out _).trans (hHeld.1)))), ((cell_far (p := ⟨gb335, _, none⟩) NB324_335.out _).trans (((cell_far (p := ⟨gb335, _, none⟩) NB324_335.out _).trans (hHeld.2))))⟩ (fun hHeld => ?_)
  clear hK K
  refine done_ (by kernel_rfl) ?_
  have hnb20 := NB324_335.out
  have hnc20 := NB335_324.out
  have hcz21_0 := cz20 BK324.out
  have hcz21_1 := cz21 BK324.out
  have hfz21_0 := blk_frozen BK324.out 0
  have hfz21_1 := blk_frozen BK324.out 1
  try go_wp2
  go_loopg [16] k (fun kq v16 w' => ∃ (x16_1 : Int) (x336000_1 : Int) (x336001_1 : List Int) (u336001 : Value), v16 = .int .i64 x16_1 ∧ Aside0 (spec_StarMatrix.l0 kq a0_0 x16_1 x336000_1 x336001_1 = some (r1, r2, r3)) ∧ Aside0 (kq ≤ k) ∧ Aside0 (Kd.R (Kd.int .i64) 3 w' w.heap.size (fun _ => True) u336001 x336001_1) ∧ Aside0 (w'.heap[gb324]? = some (.cells #[.int .i64 a0_0, (.slice A0_1 l0_1.length c0_1)] 27 (0, 0))) ∧ Aside0 (w'.heap[gb325]? = some (.cells #[.int .i64 0, (.slice none 0 0)] 27 (0, 0))) ∧ Aside0 (w'.heap[gb335]? = some (.cells #[.int .i64 x336000_1, u336001] 27 (0, 0))) ∧ Aside0 (Below w.heap.size w w'))
  case atStart => exact ⟨(0), (t331), (t332), (.slice Ao18 t332.length co18), (by first | rfl | (simp; done) | (simp [*]; done)), H', ⟨Nat.le_refl _⟩, ⟨by (with_reducible repeat (first | apply ra | apply rn | apply rw_)); exact Kd.R_mono (Kd.R_far (p := ⟨gb335, 1, none⟩) (Kd.R_far (p := ⟨gb335, 0, none⟩) (Kd.R_types HO334.out BK335.out (by decide)) (fun _ hk => hk.2) (.int .i64 t331)) (fun _ hk => hk.2) (.slice Ao18 t332.length co18)) (fun _ hk => trivial)⟩, ⟨by (with_reducible repeat (first | refine kn ?_ _ | refine kd ?_ | refine ka ?_ _)); refine blk_far ?_ NB324_335.out _; (with_reducible repeat (first | refine kn ?_ _ | refine kd ?_ | refine ka ?_ _)); refine blk_far ?_ NB324_335.out _; (with_reducible repeat (first | refine kn ?_ _ | refine kd ?_ | refine ka ?_ _)); exact BK324.out⟩, ⟨by (with_reducible repeat (first | refine kn ?_ _ | refine kd ?_ | refine ka ?_ _)); refine blk_far ?_ NB325_335.out _; (with_reducible repeat (first | refine kn ?_ _ | refine kd ?_ | refine ka ?_ _)); refine blk_far ?_ NB325_335.out _; (with_reducible repeat (first | refine kn ?_ _ | refine kd ?_ | refine ka ?_ _)); exact BK325.out⟩, ⟨by (with_reducible repeat (first | refine kn ?_ _ | refine kd ?_ | refine ka ?_ _)); refine blk_put (cs := #[.int .i64 t331, .slice none 0 0]) ?_ 1 _ rfl; (with_reducible repeat (first | refine kn ?_ _ | refine kd ?_ | refine ka ?_ _)); refine blk_put (cs := #[.int .i64 0, .slice none 0 0]) ?_ 0 _ rfl; (with_reducible repeat (first | refine kn ?_ _ | refine kd ?_ | refine ka ?_ _)); exact BK335.out⟩, ⟨by exact bw HB.out⟩⟩
  case round =>
   clear H'
   try clear c1
   try clear c2
   try clear p2
   try clear c3
   try clear c4
   try clear c5
   try clear c8
   try clear c15
   try clear c20
   try clear hcz21_0
   try clear hcz21_1
   try clear hcz9_0
   try clear hcz9_1
   try clear hfz21_0
   try clear hfz21_1
   try clear hfz9_0
   try clear hfz9_1
   obtain ⟨x16_1, x336000_1, x336001_1, u336001, rfl, HA, HK1, HO_336001, BK324, BK325, BK335, HB⟩ := hrel
   cases gk with
   | zero => exact absurd HA.out (by simp [spec_StarMatrix.l0])
   | succ k1 =>
    have H := HA.out
    clear HA
    simp only [spec_StarMatrix.l0] at H
    by_cases c22 : x16_1 < a0_0
    ·rw [if_pos c22] at H
     have c22b0 : decide (x16_1 < a0_0) = true := decide_eq_true c22
     clear c22
     replace H := Option.bind_eq_some_iff.mp H
     obtain ⟨⟨t336, t337⟩, A230, H⟩ := H
     (try dsimp only at H)
     have A23 := am A230
     clear A230
     have H' := am H
     clear H
     have hnb24 := NB335_324.out
     have hnc24 := NB324_335.out
     have hnb25 := NB335_325.out
     have hnc25 := NB325_335.out
     have hcz26_0 : wr.cell? ⟨gb335, 0, none⟩ = some (.int .i64 x336000_1) := (blk_cell BK335.out 0).trans rfl
     have hcz26_1 : wr.cell? ⟨gb335, 1, none⟩ = some (u336001) := (blk_cell BK335.out 1).trans rfl
     have hfz26_0 := blk_frozen BK335.out 0
     have hfz26_1 := blk_frozen BK335.out 1
     obtain ⟨Ao27, co27, eo27⟩ := Kd.R_slice HO_336001.out
     subst eo27
     go_wp2_with (first | ((with_reducible refine gate_callee (f := 57) rfl ?_); refine goesL_ (some 20) rfl rfl Try.func57 (by kernel_rfl) rfl #[.agg #[.int .i64 x336000_1, .slice Ao27 x336001_1.length co27], .agg #[.int .i64 x336000_1, .slice Ao27 x336001_1.length co27]] rfl (by (try simp only [List.map_toArray, List.map_cons, List.map_nil]); first | done | rfl | (simp only [List.length_drop, List.length_take]; rfl)) ?_; (with_reducible refine (spec_l2Mul.calls k1 x336000_1 _ _ x336001_1 x336000_1 _ _ x336001_1 t336 t337 _ ?side1 ?side2 ?side3 ?side4 A23.out).mono ?_); (case side1 => repeat (first | exact (Kd.R_reads' HO_336001.out).2.2 | (with_reducible refine Kd.C_alloc ?_ _) | (with_reducible refine Kd.C_drewN ?_ _) | (with_reducible refine Kd.C_drew ?_))); (case side2 => exact (Kd.R_reads' HO_336001.out).2.1); (case side3 => repeat (first | exact (Kd.R_reads' HO_336001.out).2.2 | (with_reducible refine Kd.C_alloc ?_ _) | (with_reducible refine Kd.C_drewN ?_ _) | (with_reducible refine Kd.C_drew ?_))); (case side4 => exact (Kd.R_reads' HO_336001.out).2.1); rintro e w28 ⟨v338, rfl, ho0, hb⟩; refine ⟨_, rfl, ?_⟩; have n0_ := el HO_336001 (Kd.R_base ho0) hb; have n1_ := am (Kd.R_lower (Kd.R_new' ho0 (Kd.R_lt (rz HO_336001.out))) (below_size (bw HB.out))); have n2_ := bk BK324 hb; have n3_ := bk BK325 hb; have n4_ := bk BK335 hb; have n5_ := am (below_step (bw HB.out) hb); clear HO_336001 BK324 BK325 BK335 HB; revert n0_ n1_ n2_ n3_ n4_ n5_; intro HO_336001 HO339 BK324 BK325 BK335 HB; (try clear hb); (try clear hb2); (try clear hk); (try clear hi); (try clear ho0); have hcz29_0 : w28.cell? ⟨gb335, 0, none⟩ = some (.int .i64 x336000_1) := (blk_cell BK335.out 0).trans rfl; have hcz29_1 : w28.cell? ⟨gb335, 1, none⟩ = some (.slice Ao27 x336001_1.length co27) := (blk_cell BK335.out 1).trans rfl; have hfz29_0 := blk_frozen BK335.out 0; have hfz29_1 := blk_frozen BK335.out 1; obtain ⟨Ao30, co30, eo30⟩ := Kd.R_slice HO339.out; subst eo30))
     go_roundg k1
     case measure => have := HK1.out; omega
     case rel => exact ⟨(wrap64 (x16_1 + 1)), (t336), (t337), (.slice Ao30 t337.length co30), (by first | rfl | (simp; done) | (simp [*]; done)), H', ⟨by have := HK1.out; omega⟩, ⟨by (with_reducible repeat (first | apply ra | apply rn | apply rw_)); exact Kd.R_mono (Kd.R_far (p := ⟨gb335, 1, none⟩) (Kd.R_far (p := ⟨gb335, 0, none⟩) (Kd.R_types HO339.out BK335.out (by decide)) (fun _ hk => hk.2) (.int .i64 t336)) (fun _ hk => hk.2) (.slice Ao30 t337.length co30)) (fun _ hk => trivial)⟩, ⟨by (with_reducible repeat (first | refine kn ?_ _ | refine kd ?_ | refine ka ?_ _)); refine blk_far ?_ NB324_335.out _; (with_reducible repeat (first | refine kn ?_ _ | refine kd ?_ | refine ka ?_ _)); refine blk_far ?_ NB324_335.out _; (with_reducible repeat (first | refine kn ?_ _ | refine kd ?_ | refine ka ?_ _)); exact BK324.out⟩, ⟨by (with_reducible repeat (first | refine kn ?_ _ | refine kd ?_ | refine ka ?_ _)); refine blk_far ?_ NB325_335.out _; (with_reducible repeat (first | refine kn ?_ _ | refine kd ?_ | refine ka ?_ _)); refine blk_far ?_ NB325_335.out _; (with_reducible repeat (first | refine kn ?_ _ | refine kd ?_ | refine ka ?_ _)); exact BK325.out⟩, ⟨by (with_reducible repeat (first | refine kn ?_ _ | refine kd ?_ | refine ka ?_ _)); refine blk_put (cs := #[.int .i64 t336, .slice Ao27 x336001_1.length co27]) ?_ 1 _ rfl; (with_reducible repeat (first | refine kn ?_ _ | refine kd ?_ | refine ka ?_ _)); refine blk_put (cs := #[.int .i64 x336000_1, .slice Ao27 x336001_1.length co27]) ?_ 0 _ rfl; (with_reducible repeat (first | refine kn ?_ _ | refine kd ?_ | refine ka ?_ _)); exact BK335.out⟩, ⟨by exact bw HB.out⟩⟩
    ·rw [if_neg c22] at H
     have c22b0 : decide (x16_1 < a0_0) = false := decide_eq_false c22
     clear c22
     simp only [Option.some.injEq, Prod.mk.injEq] at H
     obtain ⟨rfl, rfl, rfl⟩ := H
     have hnb31 := NB335_324.out
     have hnc31 := NB324_335.out
     have hnb32 := NB335_325.out
     have hnc32 := NB325_335.out
     have hcz33_0 : wr.cell? ⟨gb335, 0, none⟩ = some (.int .i64 x336000_1) := (blk_cell BK335.out 0).trans rfl
     have hcz33_1 : wr.cell? ⟨gb335, 1, none⟩ = some (u336001) := (blk_cell BK335.out 1).trans rfl
     have hfz33_0 := blk_frozen BK335.out 0
     have hfz33_1 := blk_frozen BK335.out 1
     have hnb34 := NB325_324.out
     have hnc34 := NB324_325.out
     have hcz35_0 := cz20 BK325.out
     have hcz35_1 := cz21 BK325.out
     have hfz35_0 := blk_frozen BK325.out 0
     have hfz35_1 := blk_frozen BK325.out 1
     obtain ⟨Ao36, co36, eo36⟩ := Kd.R_slice HO_336001.out
     subst eo36
     go_wp2
     refine bodyPost_ret (results_ct rfl _ _ gb325 27 #[.int .i64 x336000_1, .slice Ao36 x336001_1.length co36] (0, 0) _ rfl (by (with_reducible repeat (first | refine kn ?_ _ | refine kd ?_ | refine ka ?_ _)); refine blk_put (cs := #[.int .i64 x336000_1, .slice none 0 0]) ?_ 1 _ rfl; (with_reducible repeat (first | refine kn ?_ _ | refine kd ?_ | refine ka ?_ _)); refine blk_put (cs := #[.int .i64 0, .slice none 0 0]) ?_ 0 _ rfl; (with_reducible repeat (first | refine kn ?_ _ | refine kd ?_ | refine ka ?_ _)); exact BK325.out) Try.underlying27 rfl (by kernel_rfl)) rfl ?_
     exact ⟨_, by first | rfl | (simp [errW_none, errW_some] <;> rfl) | (simp [*, errW_none, errW_some] <;> rfl), by (with_reducible repeat (first | apply ra | apply rn | apply rw_)); exact Kd.R_mono (Kd.R_far (p := ⟨gb325, 1, none⟩) (Kd.R_far (p := ⟨gb325, 0, none⟩) (Kd.R_types HO_336001.out BK325.out (by decide)) (fun _ hk => hk.2) (.int .i64 x336000_1)) (fun _ hk => hk.2) (.slice Ao36 x336001_1.length co36)) (fun _ hk => trivial), by exact bw HB.out⟩
 ·replace c3 := Bool.eq_false_iff.mpr c3
  subst c3
  have H1 : (some (0, ([] : List Int), false)) = some (r1, r2, r3) := by rw [if_neg (show ¬ (false = true) by decide)] at H; exact H
  clear H
  have H := H1
  clear H1
  simp only [Option.some.injEq, Prod.mk.injEq] at H
  obtain ⟨rfl, rfl, rfl⟩ := H
  go_enter Try.func37, Try.ntmps37
  go_wp2_with (first | ((with_reducible refine gate_dst (N := 1) rfl ?_); refine box_event ?hg (N := 1) ?hd (cs := #[.int .i64 a0_0, .slice A0_1 l0_1.length c0_1]) (t := 27) ?hr ?_; (case hd => rfl); (case hg => rfl); (case hr => first | (go_simp; done) | (go_simp; rfl)); intro gb324 hg w37 hbox hb; have n0_ := am (below_step (bz HB.out) hb); have n1_ := am (hbox); have n2_ := am ((by rw [hg]; exact (below_size (bz HB.out)) : w.heap.size ≤ gb324)); have n3_ := am ((by rw [hg]; exact (below_size (bz HB.out)) : w.heap.size ≤ gb324)); clear HB; revert n0_ n1_ n2_ n3_; intro HB BK324 GW324 GE324; clear hb hbox hg) | ((with_reducible refine gate_dst (N := 2) rfl ?_); refine box_event ?hg (N := 2) ?hd (cs := #[.int .i64 0, .slice none 0 0]) (t := 27) ?hr ?_; (case hd => rfl); (case hg => rfl); (case hr => first | (go_simp; done) | (go_simp; rfl)); intro gb325 hg w38 hbox hb; have n0_ := bk BK324 hb; have n1_ := am (below_step (bw HB.out) hb); have n2_ := am (hbox); have n3_ := am ((by rw [hg]; exact (below_size (bw HB.out)) : w.heap.size ≤ gb325)); have n4_ := am ((by rw [hg]; exact (below_size (bw HB.out)) : w.heap.size ≤ gb325)); have n5_ := am ((by rw [hg]; exact Nat.ne_of_lt (blk_lt (kz BK324.out)) : gb324 ≠ gb325)); have n6_ := am ((by rw [hg]; exact Nat.ne_of_gt (blk_lt (kz BK324.out)) : gb325 ≠ gb324)); clear BK324 HB; have BK324 := n0_; have HB := n1_; have BK325 := n2_; have GW325 := n3_; have GE325 := n4_; have NB324_325 := n5_; have NB325_324 := n6_; clear n0_ n1_ n2_ n3_ n4_ n5_ n6_ hb hbox hg; have hnb39 := NB324_325.out; have hnc39 := NB325_324.out; have hcz40_0 := cz20 BK324.out; have hcz40_1 := cz21 BK324.out; have hfz40_0 := blk_frozen BK324.out 0; have hfz40_1 := blk_frozen BK324.out 1) | ((with_reducible refine gate_callee (f := 15) rfl ?_); refine goesL_ (some 6) rfl rfl Try.func15 (by kernel_rfl) rfl #[.agg #[.int .i64 a0_0, .slice A0_1 l0_1.length c0_1]] rfl (by (try simp only [List.map_toArray, List.map_cons, List.map_nil]); first | done | rfl | (simp only [List.length_drop, List.length_take]; rfl)) ?_; (with_reducible refine (spec_MatrixValid.calls k a0_0 _ _ l0_1 false _ ?side1 ?side2 A2.out).mono ?_); (case side1 => repeat (first | exact (Kd.C_below HR0_1.out HB.out) | (with_reducible refine Kd.C_alloc ?_ _) | (with_reducible refine Kd.C_drewN ?_ _) | (with_reducible refine Kd.C_drew ?_))); (case side2 => exact HC0_1.out); rintro e w41 ⟨rfl, hb⟩; refine ⟨_, rfl, ?_⟩; have n0_ := bk BK324 hb; have n1_ := bk BK325 hb; have n2_ := am (below_step (bw HB.out) hb); clear BK324 BK325 HB; revert n0_ n1_ n2_; intro BK324 BK325 HB; (try clear hb); (try clear hb2); (try clear hk); (try clear hi); have hcz42_0 := cz20 BK325.out; have hcz42_1 := cz21 BK325.out; have hfz42_0 := blk_frozen BK325.out 0; have hfz42_1 := blk_frozen BK325.out 1))
  refine bodyPost_ret (results_ct rfl _ _ gb325 27 #[.int .i64 0, .slice none 0 0] (0, 0) _ rfl (by (with_reducible repeat (first | refine kn ?_ _ | refine kd ?_ | refine ka ?_ _)); refine blk_put (cs := #[.int .i64 0, .slice none 0 0]) ?_ 1 _ rfl; (with_reducible repeat (first | refine kn ?_ _ | refine kd ?_ | refine ka ?_ _)); refine blk_put (cs := #[.int .i64 0, .slice none 0 0]) ?_ 0 _ rfl; (with_reducible repeat (first | refine kn ?_ _ | refine kd ?_ | refine ka ?_ _)); exact BK325.out) Try.underlying27 rfl (by kernel_rfl)) rfl ?_
  exact ⟨_, by first | rfl | (simp [errW_none, errW_some] <;> rfl) | (simp [*, errW_none, errW_some] <;> rfl), by first | exact Kd.R_nil _ _ _ _ _ | exact Kd.N_nil _ _ _ _ _ | exact Kd.V_nil _ _ _ _ _ | exact Kd.Q_nil _ _ _ _ _ | exact Kd.S_nil _ _ _ _ _, by exact bw HB.out⟩

end Go.Proofs.Ythojienhgeiknaa.PFnStarMatrix
