-- Written by a program (wip/myprint.py): the machine side of one law: each function that it reaches, as a plain function, and the proof that a call comes to just that.
import Derived.Test.YthojienhgeiknaaPFnMinMatrixx0
import Derived.Test.YthojienhgeiknaaPFnMinMatrixx2
namespace Go.Proofs.Ythojienhgeiknaa.PFnMinMatrix
open Go.RowKit Go.Proofs.YthojienhgeiknaaW.PrintWords Go.Proofs.YthojienhgeiknaaW.PrintLast Go.Proofs.YthojienhgeiknaaW.PrintMore
attribute [local go_sem] max2_int min2_int max_two min_two max_three min_three max_four min_four   -- for this text's walks alone
set_option linter.unusedVariables false
set_option linter.unusedSimpArgs false

/-! ### impl_MulMatrix_1: function 58 -/
def impl_MulMatrix_1.l0 : Nat → Int → Int → Int → Int → Int → Int → List Int → Int → List Int → Option (Int)
 | 0, _, _, _, _, _, _, _, _, _ => none
 | k + 1, x0, x1, x7, x10, x11, x163000, x163001, x164000, x164001 => if x11 < x10 then ((impl_Matrix_at.f x163000 x163001 x0 x11).bind fun t164 => ((impl_Matrix_at.f x164000 x164001 x11 x1).bind fun t165 => ((impl_AddCost.f t164 t165).bind fun t166 => (impl_MulMatrix_1.l0 k x0 x1 (mn x7 t166) x10 (wrap64 (x11 + 1)) x163000 x163001 x164000 x164001)))) else (some x7)
def impl_MulMatrix_1.f (k : Nat) (a0 : Int) (a1 : Int) (a2_0 : Int) (l2_1 : List Int) (a3_0 : Int) (l3_1 : List Int) : Option (Int) := impl_MulMatrix_1.l0 k a0 a1 1000000 a2_0 0 a2_0 l2_1 a3_0 l3_1
theorem impl_MulMatrix_1.mono_l : ∀ k, (∀ y0 y1 y2 y3 y4 y5 y6 y7 y8, LeO (impl_MulMatrix_1.l0 k y0 y1 y2 y3 y4 y5 y6 y7 y8) (impl_MulMatrix_1.l0 (k + 1) y0 y1 y2 y3 y4 y5 y6 y7 y8))
 | 0 => fun _ _ _ _ _ _ _ _ _ r h => by simp [impl_MulMatrix_1.l0] at h
 | k + 1 => by
  have ih0 := impl_MulMatrix_1.mono_l k
  ·intro y0 y1 y2 y3 y4 y5 y6 y7 y8
   unfold impl_MulMatrix_1.l0
   repeat' first
   | (with_reducible exact ih0 _ _ _ _ _ _ _ _ _)
   | (with_reducible exact LeO.refl _)
   | (with_reducible exact LeO.none _)
   | (with_reducible refine LeO.ite ?_ ?_)
   | (with_reducible refine LeO.bind ?_ (fun _ => ?_))
   | exact ih0 _ _ _ _ _ _ _ _ _
   | exact LeO.none _
   | refine LeO.ite ?_ ?_
   | refine LeO.bind ?_ (fun _ => ?_)
theorem impl_MulMatrix_1.mono : ∀ a0 a1 a2 a3 a4 a5 k, LeO (impl_MulMatrix_1.f k a0 a1 a2 a3 a4 a5) (impl_MulMatrix_1.f (k + 1) a0 a1 a2 a3 a4 a5) := by
 intro a0 a1 a2 a3 a4 a5 k
 have ih0 := impl_MulMatrix_1.mono_l k
 unfold impl_MulMatrix_1.f
 repeat' first
   | (with_reducible exact ih0 _ _ _ _ _ _ _ _ _)
   | (with_reducible exact LeO.refl _)
   | (with_reducible exact LeO.none _)
   | (with_reducible refine LeO.ite ?_ ?_)
   | (with_reducible refine LeO.bind ?_ (fun _ => ?_))
   | exact ih0 _ _ _ _ _ _ _ _ _
   | exact LeO.none _
   | refine LeO.ite ?_ ?_
   | refine LeO.bind ?_ (fun _ => ?_)
def impl_MulMatrix_1.T5 : Bool × List (List Nat × List Nat) := (true, [([], []), ([], []), ([], []), ([], []), ([1, 2, 3], [1, 2, 3]), ([], []), ([], []), ([], []), ([5, 6, 7, 4], [5, 6, 7]), ([4, 8, 8], [4, 8]), ([0, 9], [0, 9]), ([10, 9, 0, 1, 2, 3, 4, 5, 6, 7, 8, 9, 10], [0, 10])])
def impl_MulMatrix_1.B5 : List Nat := [0, 0, 0, 0, 14, 0, 0, 0, 254, 510, 1023, 2047]
theorem impl_MulMatrix_1.tab5 : rtab .any (opsOf Try.f58 5) = impl_MulMatrix_1.T5 := by kernel_rfl
theorem impl_MulMatrix_1.bits5 : waitsOk impl_MulMatrix_1.T5.2 impl_MulMatrix_1.B5 = true := by kernel_rfl
set_option maxHeartbeats 8000000 in
set_option maxRecDepth 100000 in
theorem impl_MulMatrix_1.calls (k : Nat) (a0 : Int) (a1 : Int) (a2_0 : Int) (A2_1 : Option Addr) (c2_1 : Nat) (l2_1 : List Int) (a3_0 : Int) (A3_1 : Option Addr) (c3_1 : Nat) (l3_1 : List Int) (r : Int) (w : World) (hr2_1 : Kd.C (Kd.int .i64) w A2_1 l2_1.length l2_1) (hc2_1 : l2_1.length ≤ c2_1) (hr3_1 : Kd.C (Kd.int .i64) w A3_1 l3_1.length l3_1) (hc3_1 : l3_1.length ≤ c3_1) (h : impl_MulMatrix_1.f k a0 a1 a2_0 l2_1 a3_0 l3_1 = some r) (gb162 : Nat) (hk0_ : w.heap[gb162]? = some (.cells #[.int .i64 a2_0, .slice A2_1 l2_1.length c2_1] 27 (0, 0))) (gb163 : Nat) (hk1_ : w.heap[gb163]? = some (.cells #[.int .i64 a3_0, .slice A3_1 l3_1.length c3_1] 27 (0, 0))) :
  Calls Try.prog 58 #[.int .i64 a0, .int .i64 a1, .pointer (some ⟨gb162, 0, none⟩), .pointer (some ⟨gb163, 0, none⟩)] w fun e w' => e = .returned (.int .i64 r) ∧ Below w.heap.size w w' := by
 have hu27 := Try.underlying27
 have HR2_1 := am hr2_1
 have HC2_1 := am hc2_1
 clear hr2_1 hc2_1
 have HR3_1 := am hr3_1
 have HC3_1 := am hc3_1
 clear hr3_1 hc3_1
 have BK162 := am hk0_
 clear hk0_
 have hcz162_0_ := cz20 BK162.out
 have hfz162_0_ := blk_frozen BK162.out 0
 have hcz162_1_ := cz21 BK162.out
 have hfz162_1_ := blk_frozen BK162.out 1
 have BK163 := am hk1_
 clear hk1_
 have hcz163_0_ := cz20 BK163.out
 have hfz163_0_ := blk_frozen BK163.out 0
 have hcz163_1_ := cz21 BK163.out
 have hfz163_1_ := blk_frozen BK163.out 1
 have HB := am (Below.refl w.heap.size w)
 have H : (impl_MulMatrix_1.l0 k a0 a1 1000000 a2_0 0 a2_0 l2_1 a3_0 l3_1) = some r := h
 clear h
 have H' := am H
 clear H
 go_enter Try.func58, Try.ntmps58
 go_wp2_with (first | ((with_reducible refine gate_dst (N := 2) rfl ?_); refine box_event ?hg (N := 2) ?hd (cs := #[.int .i64 a2_0, .slice A2_1 l2_1.length c2_1]) (t := 27) ?hr ?_; (case hd => rfl); (case hg => rfl); (case hr => first | (go_simp; done) | (go_simp; rfl)); intro gb162 hg w hbox hb; have n0_ := am (below_step (bz HB.out) hb); have n1_ := am (hbox); have n2_ := am ((by rw [hg]; exact (below_size (bz HB.out)) : w.heap.size ≤ gb162)); have n3_ := am ((by rw [hg]; exact (below_size (bz HB.out)) : w.heap.size ≤ gb162)); clear HB; revert n0_ n1_ n2_ n3_; intro HB BK162 GW162 GE162; clear hb hbox hg) | ((with_reducible refine gate_dst (N := 3) rfl ?_); refine box_event ?hg (N := 3) ?hd (cs := #[.int .i64 a3_0, .slice A3_1 l3_1.length c3_1]) (t := 27) ?hr ?_; (case hd => rfl); (case hg => rfl); (case hr => first | (go_simp; done) | (go_simp; rfl)); intro gb163 hg w hbox hb; have n0_ := bk BK162 hb; have n1_ := am (below_step (bw HB.out) hb); have n2_ := am (hbox); have n3_ := am ((by rw [hg]; exact (below_size (bw HB.out)) : w.heap.size ≤ gb163)); have n4_ := am ((by rw [hg]; exact (below_size (bw HB.out)) : w.heap.size ≤ gb163)); have n5_ := am ((by rw [hg]; exact Nat.ne_of_lt (blk_lt (kz BK162.out)) : gb162 ≠ gb163)); have n6_ := am ((by rw [hg]; exact Nat.ne_of_gt (blk_lt (kz BK162.out)) : gb163 ≠ gb162)); clear BK162 HB; revert n0_ n1_ n2_ n3_ n4_ n5_ n6_; intro BK162 HB BK163 GW163 GE163 NB162_163 NB163_162; clear hb hbox hg; have hnb7 := NB162_163.out; have hnc7 := NB163_162.out; have hcz8_0 := cz20 BK162.out; have hcz8_1 := cz21 BK162.out; have hfz8_0 := blk_frozen BK162.out 0; have hfz8_1 := blk_frozen BK162.out 1))
 go_loopg [7, 11] k (fun kq v7 v11 w' => ∃ (x7_1 : Int) (x11_1 : Int), v7 = .int .i64 x7_1 ∧ v11 = .int .i64 x11_1 ∧ Aside0 (impl_MulMatrix_1.l0 kq a0 a1 x7_1 a2_0 x11_1 a2_0 l2_1 a3_0 l3_1 = some r) ∧ Aside0 (kq ≤ k) ∧ Aside0 (w'.heap[gb162]? = some (.cells #[.int .i64 a2_0, (.slice A2_1 l2_1.length c2_1)] 27 (0, 0))) ∧ Aside0 (w'.heap[gb163]? = some (.cells #[.int .i64 a3_0, (.slice A3_1 l3_1.length c3_1)] 27 (0, 0))) ∧ Aside0 (Below w.heap.size w w'))
 case atStart => exact ⟨(1000000), (0), (by first | rfl | (simp; done) | (simp [*]; done)), (by first | rfl | (simp; done) | (simp [*]; done)), H', ⟨Nat.le_refl _⟩, ⟨kz BK162.out⟩, ⟨kz BK163.out⟩, ⟨by exact bw HB.out⟩⟩
 case round =>
  clear H'
  try clear c2
  try clear p2
  try clear c3
  try clear c5
  try clear c7
  try clear hcz8_0
  try clear hcz8_1
  try clear hfz8_0
  try clear hfz8_1
  obtain ⟨x7_1, x11_1, rfl, rfl, HA, HK1, BK162, BK163, HB⟩ := hrel
  cases gk with
  | zero => exact absurd HA.out (by simp [impl_MulMatrix_1.l0])
  | succ k1 =>
   have H := HA.out
   clear HA
   simp only [impl_MulMatrix_1.l0] at H
   by_cases c9 : x11_1 < a2_0
   ·rw [if_pos c9] at H
    have c9b0 : decide (x11_1 < a2_0) = true := decide_eq_true c9
    clear c9
    replace H := Option.bind_eq_some_iff.mp H
    obtain ⟨t164, A100, H⟩ := H
    (try dsimp only at H)
    have A10 := am A100
    clear A100
    replace H := Option.bind_eq_some_iff.mp H
    obtain ⟨t165, A110, H⟩ := H
    (try dsimp only at H)
    have A11 := am A110
    clear A110
    replace H := Option.bind_eq_some_iff.mp H
    obtain ⟨t166, A120, H⟩ := H
    (try dsimp only at H)
    have A12 := am A120
    clear A120
    obtain ⟨ji13, hji13⟩ : ∃ j_ : Int, (mn x7_1 t166) = j_ := ⟨_, rfl⟩
    replace H : (impl_MulMatrix_1.l0 k1 a0 a1 ji13 a2_0 (wrap64 (x11_1 + 1)) a2_0 l2_1 a3_0 l3_1) = some r := by first | (rw [hji13] at H; exact H) | (simp only [hji13] at H ⊢; exact H)
    (try rw [hji13] at A10)
    (try rw [hji13] at A11)
    (try rw [hji13] at A12)
    have hji13_ : (if t166 < x7_1 then t166 else x7_1) = ji13 := hji13
    have H' := am H
    clear H
    try go_wp2
    have n0_ := am (blk_drew BK162.out)
    have n1_ := am (blk_drew BK163.out)
    have n2_ := am (below_drew1 HB.out)
    clear BK162 BK163 HB
    revert n0_ n1_ n2_; intro BK162 BK163 HB
    refine start_ (n := 12) (S := fun w' => w'.cell? ⟨gb162, 0, none⟩ = some (.int .i64 a2_0) ∧ w'.cell? ⟨gb162, 1, none⟩ = some (.slice A2_1 l2_1.length c2_1) ∧ w'.cell? ⟨gb163, 0, none⟩ = some (.int .i64 a3_0) ∧ w'.cell? ⟨gb163, 1, none⟩ = some (.slice A3_1 l3_1.length c3_1)) (ds := []) (mk 12 0) (by kernel_rfl) rfl rfl ⟨(blk_cell BK162.out 0).trans rfl, (blk_cell BK162.out 1).trans rfl, (blk_cell BK163.out 0).trans rfl, (blk_cell BK163.out 1).trans rfl⟩ (fun hHeld => ?_); refine with_tabW impl_MulMatrix_1.tab5 impl_MulMatrix_1.bits5 (fun HT_ HW_ => ?_)
    generalize wr.drew = w14 at BK162 BK163 HB hHeld ⊢
    refine pv 0 14 12 1 HT_ ?_
    refine pv 2 16 12 5 HT_ ?_
    refine pv 3 17 12 13 HT_ ?_
    refine pv 6 20 12 77 HT_ ?_
    refine pv 7 21 12 205 HT_ ?_
    refine take_ (i := 1) (N := some 15) (v := ?_) (a' := ?_) (mk 12 207) rfl rfl (take_ofW HT_.out HW_.out (by kernel_rfl)) (fun _ _ _ h => h) (Or.inl ⟨by rfl, ?_⟩) hHeld ?_ ?_
    rotate_left
    ·rintro w' ⟨s0, s1, s2, s3⟩
     go_simp
     with_reducible rfl
    rotate_left
    ·simp only [Act.put, List.setIfInBounds_toArray, List.set_cons_zero, List.set_cons_succ, i64_w, i32_w]
     rfl
    refine take_ (i := 5) (N := some 19) (v := ?_) (a' := ?_) (mk 12 239) rfl rfl (take_ofW HT_.out HW_.out (by kernel_rfl)) (fun _ _ _ h => h) (Or.inl ⟨by rfl, ?_⟩) hHeld ?_ ?_
    rotate_left
    ·rintro w' ⟨s0, s1, s2, s3⟩
     go_simp
     with_reducible rfl
    rotate_left
    ·simp only [Act.put, List.setIfInBounds_toArray, List.set_cons_zero, List.set_cons_succ, i64_w, i32_w]
     rfl
    refine one_ (i := 4) (N := some 18) (mk 12 255) rfl rfl (one_of HT_.out (by kernel_rfl)) (by decide) (fun K hK => ?_)
    refine goes_ Try.func52 (by kernel_rfl) rfl #[.agg #[.int .i64 a2_0, .slice A2_1 l2_1.length c2_1], .int .i64 a0, .int .i64 x11_1] (by rfl) rfl rfl (by (try simp only [List.map_toArray, List.map_cons, List.map_nil]); first | done | rfl | (simp only [List.length_drop, List.length_take]; rfl)) ?_
    with_reducible refine (impl_Matrix_at.calls a2_0 _ _ l2_1 a0 x11_1 t164 _ ?side1 ?side2 A10.out).mono ?_
    (case side1 => repeat (first | exact (Kd.C_below HR2_1.out HB.out) | (with_reducible refine Kd.C_alloc ?_ _) | (with_reducible refine Kd.C_drewN ?_ _) | (with_reducible refine Kd.C_drew ?_)))
    (case side2 => exact HC2_1.out)
    rintro e w15 ⟨rfl, hb⟩
    refine ⟨_, rfl, ?_⟩
    have n0_ := bk BK162 hb
    have n1_ := bk BK163 hb
    have n2_ := am (below_step (bw HB.out) hb)
    clear BK162 BK163 HB
    revert n0_ n1_ n2_; intro BK162 BK163 HB
    (try clear hb)
    (try clear hb2)
    (try clear hk)
    (try clear hi)
    refine hK.out _ _ ⟨(blk_cell BK162.out 0).trans rfl, (blk_cell BK162.out 1).trans rfl, (blk_cell BK163.out 0).trans rfl, (blk_cell BK163.out 1).trans rfl⟩ (fun hHeld => ?_)
    clear hK K
    refine norm_ (a' := ?_) ?_ ?_
    rotate_left
    ·show Act.put _ (some 18) _ = _
     simp only [Act.put, List.setIfInBounds_toArray, List.set_cons_zero, List.set_cons_succ, i64_w, i32_w]
     rfl
    refine one_ (i := 8) (N := some 22) (mk 12 511) rfl rfl (one_of HT_.out (by kernel_rfl)) (by decide) (fun K hK => ?_)
    refine goes_ Try.func52 (by kernel_rfl) rfl #[.agg #[.int .i64 a3_0, .slice A3_1 l3_1.length c3_1], .int .i64 x11_1, .int .i64 a1] (by rfl) rfl rfl (by (try simp only [List.map_toArray, List.map_cons, List.map_nil]); first | done | rfl | (simp only [List.length_drop, List.length_take]; rfl)) ?_
    with_reducible refine (impl_Matrix_at.calls a3_0 _ _ l3_1 x11_1 a1 t165 _ ?side1 ?side2 A11.out).mono ?_
    (case side1 => repeat (first | exact (Kd.C_below HR3_1.out HB.out) | (with_reducible refine Kd.C_alloc ?_ _) | (with_reducible refine Kd.C_drewN ?_ _) | (with_reducible refine Kd.C_drew ?_)))
    (case side2 => exact HC3_1.out)
    rintro e w16 ⟨rfl, hb⟩
    refine ⟨_, rfl, ?_⟩
    have n0_ := bk BK162 hb
    have n1_ := bk BK163 hb
    have n2_ := am (below_step (bw HB.out) hb)
    clear BK162 BK163 HB
    revert n0_ n1_ n2_; intro BK162 BK163 HB
    (try clear hb)
    (try clear hb2)
    (try clear hk)
    (try clear hi)
    refine hK.out _ _ ⟨(blk_cell BK162.out 0).trans rfl, (blk_cell BK162.out 1).trans rfl, (blk_cell BK163.out 0).trans rfl, (blk_cell BK163.out 1).trans rfl⟩ (fun hHeld => ?_)
    clear hK K
    refine norm_ (a' := ?_) ?_ ?_
    rotate_left
    ·show Act.put _ (some 22) _ = _
     simp only [Act.put, List.setIfInBounds_toArray, List.set_cons_zero, List.set_cons_succ, i64_w, i32_w]
     rfl
    refine one_ (i := 9) (N := some 23) (mk 12 1023) rfl rfl (one_of HT_.out (by kernel_rfl)) (by decide) (fun K hK => ?_)
    refine goes_ Try.func59 (by kernel_rfl) rfl #[.int .i64 t164, .int .i64 t165] (by rfl) rfl rfl (by (try simp only [List.map_toArray, List.map_cons, List.map_nil]); first | done | rfl | (simp only [List.length_drop, List.length_take]; rfl)) ?_
    with_reducible refine (impl_AddCost.calls t164 t165 t166 _ A12.out).mono ?_
    rintro e w17 ⟨rfl, hb⟩
    refine ⟨_, rfl, ?_⟩
    have n0_ := bk BK162 hb
    have n1_ := bk BK163 hb
    have n2_ := am (below_step (bw HB.out) hb)
    clear BK162 BK163 HB
    revert n0_ n1_ n2_; intro BK162 BK163 HB
    (try clear hb)
    (try clear hb2)
    (try clear hk)
    (try clear hi)
    refine hK.out _ _ ⟨(blk_cell BK162.out 0).trans rfl, (blk_cell BK162.out 1).trans rfl, (blk_cell BK163.out 0).trans rfl, (blk_cell BK163.out 1).trans rfl⟩ (fun hHeld => ?_)
    clear hK K
    refine norm_ (a' := ?_) ?_ ?_
    rotate_left
    ·show Act.put _ (some 23) _ = _
     simp only [Act.put, List.setIfInBounds_toArray, List.set_cons_zero, List.set_cons_succ, i64_w, i32_w]
     rfl
    refine pv 10 24 12 2047 HT_ ?_
    refine pv 11 7 12 4095 HT_ ?_
    refine done_ (done_of HT_.out (by kernel_rfl)) ?_
    try go_wp2
    go_roundg k1
    case measure => have := HK1.out; omega
    case rel => exact ⟨(ji13), (wrap64 (x11_1 + 1)), (by first | rfl | (simp; done) | (simp only [← hji13] <;> (first | rfl | simp)) | (simp [*]; done)), (by first | rfl | (simp; done) | (simp [*]; done)), H', ⟨by have := HK1.out; omega⟩, ⟨kz BK162.out⟩, ⟨kz BK163.out⟩, ⟨by exact bw HB.out⟩⟩
   ·rw [if_neg c9] at H
    have c9b0 : decide (x11_1 < a2_0) = false := decide_eq_false c9
    clear c9
    obtain rfl := Option.some.inj H
    go_wp2
    go_ret
    exact ⟨by first | rfl | (simp [errW_none, errW_some] <;> rfl) | (simp [*, errW_none, errW_some] <;> rfl), by exact bw HB.out⟩

/-! ### impl_filled_at_impl_MulMatrix_1: function 200003 -/
mutual
def impl_filled_at_impl_MulMatrix_1.l0 : Nat → Int → Int → Int → Int → List Int → Int → List Int → Int → List Int → Option (Int × List Int)
 | 0, _, _, _, _, _, _, _, _, _ => none
 | k + 1, x0, x10, x11, x168000, x168001, x169000, x169001, x171000, x171001 => if x11 < x10 then (impl_filled_at_impl_MulMatrix_1.l1 k x0 x11 x10 x11 x0 0 x168000 x168001 x169000 x169001 x171000 x171001) else (some (x171000, x171001))
def impl_filled_at_impl_MulMatrix_1.l1 : Nat → Int → Int → Int → Int → Int → Int → Int → List Int → Int → List Int → Int → List Int → Option (Int × List Int)
 | 0, _, _, _, _, _, _, _, _, _, _, _, _ => none
 | k + 1, x0, x6, x10, x11, x14, x15, x168000, x168001, x169000, x169001, x171000, x171001 => if x15 < x14 then ((impl_MulMatrix_1.f k x6 x15 x168000 x168001 x169000 x169001).bind fun t171 => (if x171001.length < 17592186044416 then (impl_filled_at_impl_MulMatrix_1.l1 k x0 x6 x10 x11 x14 (wrap64 (x15 + 1)) x168000 x168001 x169000 x169001 x171000 (x171001 ++ [t171])) else (none))) else (impl_filled_at_impl_MulMatrix_1.l0 k x0 x10 (wrap64 (x11 + 1)) x168000 x168001 x169000 x169001 x171000 x171001)
end
def impl_filled_at_impl_MulMatrix_1.f (k : Nat) (a0 : Int) (a1_0 : Int) (l1_1 : List Int) (a2_0 : Int) (l2_1 : List Int) : Option (Int × List Int) := impl_filled_at_impl_MulMatrix_1.l0 k a0 a0 0 a1_0 l1_1 a2_0 l2_1 a0 ([] : List Int)
theorem impl_filled_at_impl_MulMatrix_1.mono_l : ∀ k, (∀ y0 y1 y2 y3 y4 y5 y6 y7 y8, LeO (impl_filled_at_impl_MulMatrix_1.l0 k y0 y1 y2 y3 y4 y5 y6 y7 y8) (impl_filled_at_impl_MulMatrix_1.l0 (k + 1) y0 y1 y2 y3 y4 y5 y6 y7 y8)) ∧ (∀ y0 y1 y2 y3 y4 y5 y6 y7 y8 y9 y10 y11, LeO (impl_filled_at_impl_MulMatrix_1.l1 k y0 y1 y2 y3 y4 y5 y6 y7 y8 y9 y10 y11) (impl_filled_at_impl_MulMatrix_1.l1 (k + 1) y0 y1 y2 y3 y4 y5 y6 y7 y8 y9 y10 y11))
 | 0 => ⟨fun _ _ _ _ _ _ _ _ _ r h => by simp [impl_filled_at_impl_MulMatrix_1.l0] at h, fun _ _ _ _ _ _ _ _ _ _ _ _ r h => by simp [impl_filled_at_impl_MulMatrix_1.l1] at h⟩
 | k + 1 => by
  obtain ⟨ih0, ih1⟩ := impl_filled_at_impl_MulMatrix_1.mono_l k
  refine ⟨?_, ?_⟩
  ·intro y0 y1 y2 y3 y4 y5 y6 y7 y8
   unfold impl_filled_at_impl_MulMatrix_1.l0
   repeat' first
   | (with_reducible exact ih0 _ _ _ _ _ _ _ _ _)
   | (with_reducible exact ih1 _ _ _ _ _ _ _ _ _ _ _ _)
   | (with_reducible exact impl_MulMatrix_1.mono _ _ _ _ _ _ _)
   | (with_reducible exact LeO.refl _)
   | (with_reducible exact LeO.none _)
   | (with_reducible refine LeO.ite ?_ ?_)
   | (with_reducible refine LeO.bind ?_ (fun _ => ?_))
   | exact ih0 _ _ _ _ _ _ _ _ _
   | exact ih1 _ _ _ _ _ _ _ _ _ _ _ _
   | exact impl_MulMatrix_1.mono _ _ _ _ _ _ _
   | exact LeO.none _
   | refine LeO.ite ?_ ?_
   | refine LeO.bind ?_ (fun _ => ?_)
  ·intro y0 y1 y2 y3 y4 y5 y6 y7 y8 y9 y10 y11
   unfold impl_filled_at_impl_MulMatrix_1.l1
   repeat' first
   | (with_reducible exact ih0 _ _ _ _ _ _ _ _ _)
   | (with_reducible exact ih1 _ _ _ _ _ _ _ _ _ _ _ _)
   | (with_reducible exact impl_MulMatrix_1.mono _ _ _ _ _ _ _)
   | (with_reducible exact LeO.refl _)
   | (with_reducible exact LeO.none _)
   | (with_reducible refine LeO.ite ?_ ?_)
   | (with_reducible refine LeO.bind ?_ (fun _ => ?_))
   | exact ih0 _ _ _ _ _ _ _ _ _
   | exact ih1 _ _ _ _ _ _ _ _ _ _ _ _
   | exact impl_MulMatrix_1.mono _ _ _ _ _ _ _
   | exact LeO.none _
   | refine LeO.ite ?_ ?_
   | refine LeO.bind ?_ (fun _ => ?_)
theorem impl_filled_at_impl_MulMatrix_1.mono : ∀ a0 a1 a2 a3 a4 k, LeO (impl_filled_at_impl_MulMatrix_1.f k a0 a1 a2 a3 a4) (impl_filled_at_impl_MulMatrix_1.f (k + 1) a0 a1 a2 a3 a4) := by
 intro a0 a1 a2 a3 a4 k
 obtain ⟨ih0, ih1⟩ := impl_filled_at_impl_MulMatrix_1.mono_l k
 unfold impl_filled_at_impl_MulMatrix_1.f
 repeat' first
   | (with_reducible exact ih0 _ _ _ _ _ _ _ _ _)
   | (with_reducible exact ih1 _ _ _ _ _ _ _ _ _ _ _ _)
   | (with_reducible exact impl_MulMatrix_1.mono _ _ _ _ _ _ _)
   | (with_reducible exact LeO.refl _)
   | (with_reducible exact LeO.none _)
   | (with_reducible refine LeO.ite ?_ ?_)
   | (with_reducible refine LeO.bind ?_ (fun _ => ?_))
   | exact ih0 _ _ _ _ _ _ _ _ _
   | exact ih1 _ _ _ _ _ _ _ _ _ _ _ _
   | exact impl_MulMatrix_1.mono _ _ _ _ _ _ _
   | exact LeO.none _
   | refine LeO.ite ?_ ?_
   | refine LeO.bind ?_ (fun _ => ?_)
def impl_filled_at_impl_MulMatrix_1.T8 : Bool × List (List Nat × List Nat) := (true, [([], []), ([0], [0]), ([], []), ([], []), ([], []), ([2, 3, 4], [2, 3, 4]), ([5], [5]), ([1, 6, 5], [1, 6]), ([0, 1, 2, 3, 4, 5, 6, 7], []), ([8, 7, 7, 0, 1, 2, 3, 4, 5, 6, 7], [7, 8])])
def impl_filled_at_impl_MulMatrix_1.B8 : List Nat := [0, 1, 0, 0, 0, 28, 60, 127, 255, 511]
theorem impl_filled_at_impl_MulMatrix_1.tab8 : rtab .any (opsOf Try.f47 8) = impl_filled_at_impl_MulMatrix_1.T8 := by kernel_rfl
theorem impl_filled_at_impl_MulMatrix_1.bits8 : waitsOk impl_filled_at_impl_MulMatrix_1.T8.2 impl_filled_at_impl_MulMatrix_1.B8 = true := by kernel_rfl
set_option maxHeartbeats 8000000 in
set_option maxRecDepth 100000 in
theorem impl_filled_at_impl_MulMatrix_1.calls (k : Nat) (a0 : Int) (a1_0 : Int) (A1_1 : Option Addr) (c1_1 : Nat) (l1_1 : List Int) (a2_0 : Int) (A2_1 : Option Addr) (c2_1 : Nat) (l2_1 : List Int) (r1 : Int) (r2 : List Int) (w : World) (hr1_1 : Kd.C (Kd.int .i64) w A1_1 l1_1.length l1_1) (hc1_1 : l1_1.length ≤ c1_1) (hr2_1 : Kd.C (Kd.int .i64) w A2_1 l2_1.length l2_1) (hc2_1 : l2_1.length ≤ c2_1) (h : impl_filled_at_impl_MulMatrix_1.f k a0 a1_0 l1_1 a2_0 l2_1 = some (r1, r2)) (gb167 : Nat) (hk0_ : w.heap[gb167]? = some (.cells #[.int .i64 a1_0, .slice A1_1 l1_1.length c1_1] 27 (0, 0))) (gb168 : Nat) (hk1_ : w.heap[gb168]? = some (.cells #[.int .i64 a2_0, .slice A2_1 l2_1.length c2_1] 27 (0, 0))) :
  Calls Try.prog 47 #[.int .i64 a0, .func (.func 58) #[] #[.pointer (some ⟨gb167, 0, none⟩), .pointer (some ⟨gb168, 0, none⟩)]] w fun e w' => ∃ v1_ : Value, e = .returned (.agg #[.int .i64 r1, v1_]) ∧ Kd.R (Kd.int .i64) 3 w' w.heap.size (fun _ => True) v1_ r2 ∧ Below w.heap.size w w' := by
 have hu27 := Try.underlying27
 have HR1_1 := am hr1_1
 have HC1_1 := am hc1_1
 clear hr1_1 hc1_1
 have HR2_1 := am hr2_1
 have HC2_1 := am hc2_1
 clear hr2_1 hc2_1
 have BK167 := am hk0_
 clear hk0_
 have hcz167_0_ := cz20 BK167.out
 have hfz167_0_ := blk_frozen BK167.out 0
 have hcz167_1_ := cz21 BK167.out
 have hfz167_1_ := blk_frozen BK167.out 1
 have BK168 := am hk1_
 clear hk1_
 have hcz168_0_ := cz20 BK168.out
 have hfz168_0_ := blk_frozen BK168.out 0
 have hcz168_1_ := cz21 BK168.out
 have hfz168_1_ := blk_frozen BK168.out 1
 have HB := am (Below.refl w.heap.size w)
 have H : (impl_filled_at_impl_MulMatrix_1.l0 k a0 a0 0 a1_0 l1_1 a2_0 l2_1 a0 ([] : List Int)) = some (r1, r2) := h
 clear h
 have H' := am H
 clear H
 go_enter Try.func47, Try.ntmps47
 go_wp2_with (first | ((with_reducible refine gate_dst (N := 1) rfl ?_); refine box_event ?hg (N := 1) ?hd (cs := #[.int .i64 a1_0, .slice A1_1 l1_1.length c1_1]) (t := 27) ?hr ?_; (case hd => rfl); (case hg => rfl); (case hr => first | (go_simp; done) | (go_simp; rfl)); intro gb167 hg w hbox hb; have n0_ := am (below_step (bz HB.out) hb); have n1_ := am (hbox); have n2_ := am ((by rw [hg]; exact (below_size (bz HB.out)) : w.heap.size ≤ gb167)); have n3_ := am ((by rw [hg]; exact (below_size (bz HB.out)) : w.heap.size ≤ gb167)); clear HB; revert n0_ n1_ n2_ n3_; intro HB BK167 GW167 GE167; clear hb hbox hg) | ((with_reducible refine gate_dst (N := 2) rfl ?_); refine box_event ?hg (N := 2) ?hd (cs := #[.int .i64 a2_0, .slice A2_1 l2_1.length c2_1]) (t := 27) ?hr ?_; (case hd => rfl); (case hg => rfl); (case hr => first | (go_simp; done) | (go_simp; rfl)); intro gb168 hg w hbox hb; have n0_ := bk BK167 hb; have n1_ := am (below_step (bw HB.out) hb); have n2_ := am (hbox); have n3_ := am ((by rw [hg]; exact (below_size (bw HB.out)) : w.heap.size ≤ gb168)); have n4_ := am ((by rw [hg]; exact (below_size (bw HB.out)) : w.heap.size ≤ gb168)); have n5_ := am ((by rw [hg]; exact Nat.ne_of_lt (blk_lt (kz BK167.out)) : gb167 ≠ gb168)); have n6_ := am ((by rw [hg]; exact Nat.ne_of_gt (blk_lt (kz BK167.out)) : gb168 ≠ gb167)); clear BK167 HB; revert n0_ n1_ n2_ n3_ n4_ n5_ n6_; intro BK167 HB BK168 GW168 GE168 NB167_168 NB168_167; clear hb hbox hg) | ((with_reducible refine gate_dst (N := 4) rfl ?_); refine box_event ?hg (N := 4) ?hd (cs := #[.int .i64 0, .slice none 0 0]) (t := 27) ?hr ?_; (case hd => rfl); (case hg => rfl); (case hr => first | (go_simp; done) | (go_simp; rfl)); intro gb169 hg w6 hbox hb; have n0_ := bk BK167 hb; have n1_ := bk BK168 hb; have n2_ := am (below_step (bw HB.out) hb); have n3_ := am (hbox); have n4_ := am ((by rw [hg]; exact (below_size (bw HB.out)) : w.heap.size ≤ gb169)); have n5_ := am ((by rw [hg]; exact (below_size (bw HB.out)) : w.heap.size ≤ gb169)); have n6_ := am ((by rw [hg]; exact Nat.ne_of_lt (blk_lt (kz BK167.out)) : gb167 ≠ gb169)); have n7_ := am ((by rw [hg]; exact Nat.ne_of_gt (blk_lt (kz BK167.out)) : gb169 ≠ gb167)); have n8_ := am ((by rw [hg]; exact Nat.ne_of_lt (blk_lt (kz BK168.out)) : gb168 ≠ gb169)); have n9_ := am ((by rw [hg]; exact Nat.ne_of_gt (blk_lt (kz BK168.out)) : gb169 ≠ gb168)); clear BK167 BK168 HB; revert n0_ n1_ n2_ n3_ n4_ n5_ n6_ n7_ n8_ n9_; intro BK167 BK168 HB BK169 GW169 GE169 NB167_169 NB169_167 NB168_169 NB169_168; clear hb hbox hg) | ((with_reducible refine gate_dst (N := 5) rfl ?_); refine box_event ?hg (N := 5) ?hd (cs := #[.int .i64 0, .slice none 0 0]) (t := 27) ?hr ?_; (case hd => rfl); (case hg => rfl); (case hr => first | (go_simp; done) | (go_simp; rfl)); intro gb170 hg w7 hbox hb; have n0_ := bk BK167 hb; have n1_ := bk BK168 hb; have n2_ := bk BK169 hb; have n3_ := am (below_step (bw HB.out) hb); have n4_ := am (hbox); have n5_ := am ((by rw [hg]; exact (below_size (bw HB.out)) : w.heap.size ≤ gb170)); have n6_ := am ((by rw [hg]; exact (below_size (bw HB.out)) : w.heap.size ≤ gb170)); have n7_ := am ((by rw [hg]; exact Nat.ne_of_lt (blk_lt (kz BK167.out)) : gb167 ≠ gb170)); have n8_ := am ((by rw [hg]; exact Nat.ne_of_gt (blk_lt (kz BK167.out)) : gb170 ≠ gb167)); have n9_ := am ((by rw [hg]; exact Nat.ne_of_lt (blk_lt (kz BK168.out)) : gb168 ≠ gb170)); have n10_ := am ((by rw [hg]; exact Nat.ne_of_gt (blk_lt (kz BK168.out)) : gb170 ≠ gb168)); have n11_ := am ((by rw [hg]; exact Nat.ne_of_lt (blk_lt (kz BK169.out)) : gb169 ≠ gb170)); have n12_ := am ((by rw [hg]; exact Nat.ne_of_gt (blk_lt (kz BK169.out)) : gb170 ≠ gb169)); clear BK167 BK168 BK169 HB; revert n0_ n1_ n2_ n3_ n4_ n5_ n6_ n7_ n8_ n9_ n10_ n11_ n12_; intro BK167 BK168 BK169 HB BK170 GW170 GE170 NB167_170 NB170_167 NB168_170 NB170_168 NB169_170 NB170_169; clear hb hbox hg; have hnb8 := NB170_167.out; have hnc8 := NB167_170.out; have hnb9 := NB170_168.out; have hnc9 := NB168_170.out; have hnb10 := NB170_169.out; have hnc10 := NB169_170.out; have hcz11_0 := cz20 BK170.out; have hcz11_1 := cz21 BK170.out; have hfz11_0 := blk_frozen BK170.out 0; have hfz11_1 := blk_frozen BK170.out 1))
 go_loopg [11] k (fun kq v11 w' => ∃ (x11_1 : Int) (x171001_1 : List Int) (u171001 : Value), v11 = .int .i64 x11_1 ∧ Aside0 (impl_filled_at_impl_MulMatrix_1.l0 kq a0 a0 x11_1 a1_0 l1_1 a2_0 l2_1 a0 x171001_1 = some (r1, r2)) ∧ Aside0 (kq ≤ k) ∧ Aside0 (Kd.R (Kd.int .i64) 3 w' w.heap.size (fun _ => True) u171001 x171001_1) ∧ Aside0 (w'.heap[gb167]? = some (.cells #[.int .i64 a1_0, (.slice A1_1 l1_1.length c1_1)] 27 (0, 0))) ∧ Aside0 (w'.heap[gb168]? = some (.cells #[.int .i64 a2_0, (.slice A2_1 l2_1.length c2_1)] 27 (0, 0))) ∧ Aside0 (w'.heap[gb169]? = some (.cells #[.int .i64 0, (.slice none 0 0)] 27 (0, 0))) ∧ Aside0 (w'.heap[gb170]? = some (.cells #[.int .i64 a0, u171001] 27 (0, 0))) ∧ Aside0 (Below w.heap.size w w'))
 case atStart => exact ⟨(0), (([] : List Int)), (.slice none 0 0), (by first | rfl | (simp; done) | (simp [*]; done)), H', ⟨Nat.le_refl _⟩, ⟨by first | exact Kd.R_nil _ _ _ _ _ | exact Kd.N_nil _ _ _ _ _ | exact Kd.V_nil _ _ _ _ _ | exact Kd.Q_nil _ _ _ _ _ | exact Kd.S_nil _ _ _ _ _⟩, ⟨by (with_reducible repeat (first | refine kn ?_ _ | refine kd ?_ | refine ka ?_ _)); refine blk_far ?_ NB167_170.out _; (with_reducible repeat (first | refine kn ?_ _ | refine kd ?_ | refine ka ?_ _)); refine blk_far ?_ NB167_170.out _; (with_reducible repeat (first | refine kn ?_ _ | refine kd ?_ | refine ka ?_ _)); exact BK167.out⟩, ⟨by (with_reducible repeat (first | refine kn ?_ _ | refine kd ?_ | refine ka ?_ _)); refine blk_far ?_ NB168_170.out _; (with_reducible repeat (first | refine kn ?_ _ | refine kd ?_ | refine ka ?_ _)); refine blk_far ?_ NB168_170.out _; (with_reducible repeat (first | refine kn ?_ _ | refine kd ?_ | refine ka ?_ _)); exact BK168.out⟩, ⟨by (with_reducible repeat (first | refine kn ?_ _ | refine kd ?_ | refine ka ?_ _)); refine blk_far ?_ NB169_170.out _; (with_reducible repeat (first | refine kn ?_ _ | refine kd ?_ | refine ka ?_ _)); refine blk_far ?_ NB169_170.out _; (with_reducible repeat (first | refine kn ?_ _ | refine kd ?_ | refine ka ?_ _)); exact BK169.out⟩, ⟨by (with_reducible repeat (first | refine kn ?_ _ | refine kd ?_ | refine ka ?_ _)); refine blk_put (cs := #[.int .i64 a0, .slice none 0 0]) ?_ 1 _ rfl; (with_reducible repeat (first | refine kn ?_ _ | refine kd ?_ | refine ka ?_ _)); refine blk_put (cs := #[.int .i64 0, .slice none 0 0]) ?_ 0 _ rfl; (with_reducible repeat (first | refine kn ?_ _ | refine kd ?_ | refine ka ?_ _)); exact BK170.out⟩, ⟨by exact bw HB.out⟩⟩
 case round =>
  clear H'
  try clear c1
  try clear c2
  try clear p2
  try clear c8
  try clear c9
  try clear c10
  try clear hcz11_0
  try clear hcz11_1
  try clear hfz11_0
  try clear hfz11_1
  obtain ⟨x11_1, x171001_1, u171001, rfl, HA, HK1, HO_171001, BK167, BK168, BK169, BK170, HB⟩ := hrel
  cases gk with
  | zero => exact absurd HA.out (by simp [impl_filled_at_impl_MulMatrix_1.l0])
  | succ k1 =>
   have H := HA.out
   clear HA
   simp only [impl_filled_at_impl_MulMatrix_1.l0] at H
   by_cases c12 : x11_1 < a0
   ·rw [if_pos c12] at H
    have c12b0 : decide (x11_1 < a0) = true := decide_eq_true c12
    clear c12
    have H' := am H
    clear H
    go_wp2
    go_loopg [15] k1 (fun kq v15 w' => ∃ (x15_2 : Int) (x171001_2 : List Int) (u171001 : Value), v15 = .int .i64 x15_2 ∧ Aside0 (impl_filled_at_impl_MulMatrix_1.l1 kq a0 x11_1 a0 x11_1 a0 x15_2 a1_0 l1_1 a2_0 l2_1 a0 x171001_2 = some (r1, r2)) ∧ Aside0 (kq ≤ k1) ∧ Aside0 (Kd.R (Kd.int .i64) 3 w' w.heap.size (fun _ => True) u171001 x171001_2) ∧ Aside0 (w'.heap[gb167]? = some (.cells #[.int .i64 a1_0, (.slice A1_1 l1_1.length c1_1)] 27 (0, 0))) ∧ Aside0 (w'.heap[gb168]? = some (.cells #[.int .i64 a2_0, (.slice A2_1 l2_1.length c2_1)] 27 (0, 0))) ∧ Aside0 (w'.heap[gb169]? = some (.cells #[.int .i64 0, (.slice none 0 0)] 27 (0, 0))) ∧ Aside0 (w'.heap[gb170]? = some (.cells #[.int .i64 a0, u171001] 27 (0, 0))) ∧ Aside0 (Below w.heap.size w w'))
    case atStart => exact ⟨(0), (x171001_1), (u171001), (by first | rfl | (simp; done) | (simp [*]; done)), H', ⟨Nat.le_refl _⟩, ⟨rz HO_171001.out⟩, ⟨kz BK167.out⟩, ⟨kz BK168.out⟩, ⟨kz BK169.out⟩, ⟨kz BK170.out⟩, ⟨by exact bw HB.out⟩⟩
    case round =>
     clear H'
     try clear c1
     try clear c2
     try clear p2
     try clear c8
     try clear c9
     try clear c10
     try clear c12
     try clear c12b0
     try clear hcz11_0
     try clear hcz11_1
     try clear hfz11_0
     try clear hfz11_1
     try clear p2
     obtain ⟨x15_2, x171001_2, u171001, rfl, HA, HK2, HO_171001, BK167, BK168, BK169, BK170, HB⟩ := hrel
     cases gk with
     | zero => exact absurd HA.out (by simp [impl_filled_at_impl_MulMatrix_1.l1])
     | succ k2 =>
      have H := HA.out
      clear HA
      simp only [impl_filled_at_impl_MulMatrix_1.l1] at H
      by_cases c13 : x15_2 < a0
      ·rw [if_pos c13] at H
       have c13b0 : decide (x15_2 < a0) = true := decide_eq_true c13
       clear c13
       replace H := Option.bind_eq_some_iff.mp H
       obtain ⟨t171, A140, H⟩ := H
       (try dsimp only at H)
       have A14 := am A140
       clear A140
       by_cases c15 : x171001_2.length < 17592186044416
       ·rw [if_pos c15] at H
        have LMc15 := am c15
        clear c15
        obtain ⟨y172, hy172⟩ : ∃ y_ : List Int, y_ = (x171001_2 ++ [t171]) := ⟨_, rfl⟩
        replace H : (impl_filled_at_impl_MulMatrix_1.l1 k2 a0 x11_1 a0 x11_1 a0 (wrap64 (x15_2 + 1)) a1_0 l1_1 a2_0 l2_1 a0 y172) = some (r1, r2) := by first | (rw [hy172]; with_reducible exact H) | (have H2_ := (Option.bind_some _ _).symm.trans H; rw [hy172]; with_reducible exact H2_) | (have H2_ := (Option.bind_some _ _).symm.trans H; with_reducible exact H2_) | with_reducible exact H | (rw [hy172]; exact H) | exact H
        have Ny172 := am hy172
        clear hy172
        have H' := am H
        clear H
        try go_wp2
        have n0_ := am (Kd.R_drew HO_171001.out)
        have n1_ := am (blk_drew BK167.out)
        have n2_ := am (blk_drew BK168.out)
        have n3_ := am (blk_drew BK169.out)
        have n4_ := am (blk_drew BK170.out)
        have n5_ := am (below_drew1 HB.out)
        clear HO_171001 BK167 BK168 BK169 BK170 HB
        revert n0_ n1_ n2_ n3_ n4_ n5_; intro HO_171001 BK167 BK168 BK169 BK170 HB
        refine start_ (n := 10) (S := fun w' => w'.cell? ⟨gb170, 0, none⟩ = some (.int .i64 a0) ∧ w'.cell? ⟨gb170, 1, none⟩ = some (u171001)) (ds := [9]) (mk 10 0) (by kernel_rfl) rfl rfl ⟨(blk_cell BK170.out 0).trans rfl, (blk_cell BK170.out 1).trans rfl⟩ (fun hHeld => ?_); refine with_tabW impl_filled_at_impl_MulMatrix_1.tab8 impl_filled_at_impl_MulMatrix_1.bits8 (fun HT_ HW_ => ?_)
        generalize wr.drew = w16 at HO_171001 BK167 BK168 BK169 BK170 HB hHeld ⊢
        refine pv 0 18 10 1 HT_ ?_
        refine pv 2 20 10 5 HT_ ?_
        refine pv 3 21 10 13 HT_ ?_
        refine pv 4 22 10 29 HT_ ?_
        refine take_ (i := 1) (N := some 19) (v := ?_) (a' := ?_) (mk 10 31) rfl rfl (take_ofW HT_.out HW_.out (by kernel_rfl)) (fun _ _ _ h => h) (Or.inl ⟨by rfl, ?_⟩) hHeld ?_ ?_
        rotate_left
        ·rintro w' ⟨s0, s1⟩
         go_simp
         with_reducible rfl
        rotate_left
        ·simp only [Act.put, List.setIfInBounds_toArray, List.set_cons_zero, List.set_cons_succ, i64_w, i32_w]
         rfl
        refine one_ (i := 5) (N := some 23) (mk 10 63) rfl rfl (one_of HT_.out (by kernel_rfl)) (by decide) (fun K hK => ?_)
        refine goesV Try.func58 (by kernel_rfl) rfl #[.int .i64 x11_1, .int .i64 x15_2] #[.pointer (some ⟨gb167, 0, none⟩), .pointer (some ⟨gb168, 0, none⟩)] #[.int .i64 x11_1, .int .i64 x15_2, .pointer (some ⟨gb167, 0, none⟩), .pointer (some ⟨gb168, 0, none⟩)] (by rfl) rfl rfl rfl (by (try simp only [List.map_toArray, List.map_cons, List.map_nil]); first | done | rfl | (simp only [List.length_drop, List.length_take]; rfl)) rfl ?_
        with_reducible refine (impl_MulMatrix_1.calls k2 x11_1 x15_2 a1_0 _ _ l1_1 a2_0 _ _ l2_1 t171 _ ?side1 ?side2 ?side3 ?side4 A14.out gb167 (kz BK167.out) gb168 (kz BK168.out)).mono ?_
        (case side1 => repeat (first | exact (Kd.C_below HR1_1.out HB.out) | (with_reducible refine Kd.C_alloc ?_ _) | (with_reducible refine Kd.C_drewN ?_ _) | (with_reducible refine Kd.C_drew ?_)))
        (case side2 => exact HC1_1.out)
        (case side3 => repeat (first | exact (Kd.C_below HR2_1.out HB.out) | (with_reducible refine Kd.C_alloc ?_ _) | (with_reducible refine Kd.C_drewN ?_ _) | (with_reducible refine Kd.C_drew ?_)))
        (case side4 => exact HC2_1.out)
        rintro e w17 ⟨rfl, hb⟩
        refine ⟨_, rfl, ?_⟩
        have n0_ := am (Kd.R_below (rz HO_171001.out) hb)
        have n1_ := bk BK167 hb
        have n2_ := bk BK168 hb
        have n3_ := bk BK169 hb
        have n4_ := bk BK170 hb
        have n5_ := am (below_step (bw HB.out) hb)
        clear HO_171001 BK167 BK168 BK169 BK170 HB
        revert n0_ n1_ n2_ n3_ n4_ n5_; intro HO_171001 BK167 BK168 BK169 BK170 HB
        (try clear hb)
        (try clear hb2)
        (try clear hk)
        (try clear hi)
        refine hK.out _ _ ⟨(blk_cell BK170.out 0).trans rfl, (blk_cell BK170.out 1).trans rfl⟩ (fun hHeld => ?_)
        clear hK K
        refine norm_ (a' := ?_) ?_ ?_
        rotate_left
        ·show Act.put _ (some 23) _ = _
         simp only [Act.put, List.setIfInBounds_toArray, List.set_cons_zero, List.set_cons_succ, i64_w, i32_w]
         rfl
        refine one_ (i := 6) (N := some 24) (mk 10 127) rfl rfl (one_of HT_.out (by kernel_rfl)) (by decide) (fun K hK => ?_)
        refine value_ (w1 := ?_) (v := ?_) (by rfl) rfl ?_ ?_
        rotate_left 2
        ·go_simp
         constructor
         ·rfl
         ·rfl
        refine hK.out _ _ ⟨(blk_cell (blk_alloc BK170.out _) 0).trans rfl, (blk_cell (blk_alloc BK170.out _) 1).trans rfl⟩ (fun hHeld => ?_)
        clear hK K
        refine norm_ (a' := ?_) ?_ ?_
        rotate_left
        ·show Act.put _ (some 24) _ = _
         simp only [Act.put, List.setIfInBounds_toArray, List.set_cons_zero, List.set_cons_succ, i64_w, i32_w]
         rfl
        refine one_ (i := 7) (N := some 25) (mk 10 255) rfl rfl (one_of HT_.out (by kernel_rfl)) (by decide) (fun K hK => ?_)
        refine Kd.R_append_step (Kd.int .i64) (w0 := w) w.heap.size (by rfl) (.tmp 19) (.tmp 24) 22 3 (.int .i64 0) 8 rfl Try.underlying22 info3 rfl (by decide) (by omega) u171001 x171001_2 t171 [.int .i64 t171] (fun _ => True) (fun _ => False) rfl rfl ?aP (fun _ hk => hk.elim) ?aF ?aO ?aB ?aS ?aL ?_
        (case aP => exact rfl)
        (case aB => exact (bw HB.out))
        (case aF => exact (fun _ _ => trivial))
        (case aO => exact (rz HO_171001.out))
        (case aS => exact (below_size (bw HB.out)))
        (case aL => have := LMc15.out; omega)
        intro v173 w18 ho hb hg hat
        rw [← Ny172.out] at ho
        have n0_ := am (blk_grown (kz BK167.out) hg (Kd.R_ne HO_171001.out BK167.out (by decide)))
        have n1_ := am (blk_grown (kz BK168.out) hg (Kd.R_ne HO_171001.out BK168.out (by decide)))
        have n2_ := am (blk_grown (kz BK169.out) hg (Kd.R_ne HO_171001.out BK169.out (by decide)))
        have n3_ := am (blk_grown (kz BK170.out) hg (Kd.R_ne HO_171001.out BK170.out (by decide)))
        have n4_ := am (hb)
        have n5_ := am (ho)
        clear BK167 BK168 BK169 BK170 HB HO_171001
        revert n0_ n1_ n2_ n3_ n4_ n5_; intro BK167 BK168 BK169 BK170 HB HO174; clear ho hb hg hat
        obtain ⟨Ao19, co19, eo19⟩ := Kd.R_slice HO174.out
        (first | subst eo19 | (injection eo19 with f1_ f2_ f3_; have f4_ := f1_.symm; have f5_ := f3_.symm; clear f1_ f2_ f3_; subst f4_; subst f5_))
        refine hK.out _ _ ⟨(blk_cell BK170.out 0).trans rfl, (blk_cell BK170.out 1).trans rfl⟩ (fun hHeld => ?_)
        clear hK K
        refine norm_ (a' := ?_) ?_ ?_
        rotate_left
        ·show Act.put _ (some 25) _ = _
         simp only [Act.put, List.setIfInBounds_toArray, List.set_cons_zero, List.set_cons_succ, i64_w, i32_w]
         rfl
        refine pv 8 26 10 511 HT_ ?_
        refine last_ (i := 9) (N := none) (mk 10 1023) rfl rfl (one_of HT_.out (by kernel_rfl)) (by decide) (fun K hK => ?_)
        have hs20 : w18.cell? ⟨gb170, 1, none⟩ = some (u171001) := (blk_cell BK170.out 1).trans rfl
        have hfs20 := blk_frozen BK170.out 1
        have hns20_0 := NB167_170.out
        have hns20_1 := NB168_170.out
        have hns20_2 := NB169_170.out
        have hms20_0 := NB170_167.out
        have hms20_1 := NB170_168.out
        have hms20_2 := NB170_169.out
        refine skip_ (w1 := ?_) (by rfl) rfl ?_ ?_
        rotate_left
        ·go_simp
         rfl
        refine hK.out _ _ ?_
        clear hK K
        refine done_ (done_of HT_.out (by kernel_rfl)) ?_
        try go_wp2
        go_roundg k2
        case measure => have := HK1.out; have := HK2.out; omega
        case rel => exact ⟨(wrap64 (x15_2 + 1)), (y172), (.slice Ao19 y172.length co19), (by first | rfl | (simp; done) | (simp [*]; done)), H', ⟨by have := HK1.out; have := HK2.out; omega⟩, ⟨by (with_reducible repeat (first | apply ra | apply rn | apply rw_)); exact Kd.R_mono (Kd.R_far (p := ⟨gb170, 1, none⟩) (Kd.R_types HO174.out BK170.out (by decide)) (fun _ hk => hk.2) (.slice Ao19 y172.length co19)) (fun _ hk => trivial)⟩, ⟨by (with_reducible repeat (first | refine kn ?_ _ | refine kd ?_ | refine ka ?_ _)); refine blk_far ?_ NB167_170.out _; (with_reducible repeat (first | refine kn ?_ _ | refine kd ?_ | refine ka ?_ _)); exact BK167.out⟩, ⟨by (with_reducible repeat (first | refine kn ?_ _ | refine kd ?_ | refine ka ?_ _)); refine blk_far ?_ NB168_170.out _; (with_reducible repeat (first | refine kn ?_ _ | refine kd ?_ | refine ka ?_ _)); exact BK168.out⟩, ⟨by (with_reducible repeat (first | refine kn ?_ _ | refine kd ?_ | refine ka ?_ _)); refine blk_far ?_ NB169_170.out _; (with_reducible repeat (first | refine kn ?_ _ | refine kd ?_ | refine ka ?_ _)); exact BK169.out⟩, ⟨by (with_reducible repeat (first | refine kn ?_ _ | refine kd ?_ | refine ka ?_ _)); refine blk_put (cs := #[.int .i64 a0, u171001]) ?_ 1 _ rfl; (with_reducible repeat (first | refine kn ?_ _ | refine kd ?_ | refine ka ?_ _)); exact BK170.out⟩, ⟨by exact bw HB.out⟩⟩
       ·rw [if_neg c15] at H
        exact absurd H (by simp)
      ·rw [if_neg c13] at H
       have c13b0 : decide (x15_2 < a0) = false := decide_eq_false c13
       clear c13
       have H' := am H
       clear H
       go_wp2
       go_roundg k2
       case measure => have := HK1.out; have := HK2.out; omega
       case rel => exact ⟨(wrap64 (x11_1 + 1)), (x171001_2), (u171001), (by first | rfl | (simp; done) | (simp [*]; done)), H', ⟨by have := HK1.out; have := HK2.out; omega⟩, ⟨rz HO_171001.out⟩, ⟨kz BK167.out⟩, ⟨kz BK168.out⟩, ⟨kz BK169.out⟩, ⟨kz BK170.out⟩, ⟨by exact bw HB.out⟩⟩
   ·rw [if_neg c12] at H
    have c12b0 : decide (x11_1 < a0) = false := decide_eq_false c12
    clear c12
    simp only [Option.some.injEq, Prod.mk.injEq] at H
    obtain ⟨rfl, rfl⟩ := H
    have hnb21 := NB170_167.out
    have hnc21 := NB167_170.out
    have hnb22 := NB170_168.out
    have hnc22 := NB168_170.out
    have hnb23 := NB170_169.out
    have hnc23 := NB169_170.out
    have hcz24_0 := cz20 BK170.out
    have hcz24_1 := cz21 BK170.out
    have hfz24_0 := blk_frozen BK170.out 0
    have hfz24_1 := blk_frozen BK170.out 1
    have hnb25 := NB169_167.out
    have hnc25 := NB167_169.out
    have hnb26 := NB169_168.out
    have hnc26 := NB168_169.out
    have hcz27_0 := cz20 BK169.out
    have hcz27_1 := cz21 BK169.out
    have hfz27_0 := blk_frozen BK169.out 0
    have hfz27_1 := blk_frozen BK169.out 1
    obtain ⟨Ao28, co28, eo28⟩ := Kd.R_slice HO_171001.out
    subst eo28
    go_wp2
    refine bodyPost_ret (results_cell_row rfl _ _ gb169 27 #[.int .i64 a0, .slice Ao28 x171001_1.length co28] (0, 0) _ rfl (by (with_reducible repeat (first | refine kn ?_ _ | refine kd ?_ | refine ka ?_ _)); refine blk_put (cs := #[.int .i64 a0, .slice none 0 0]) ?_ 1 _ rfl; (with_reducible repeat (first | refine kn ?_ _ | refine kd ?_ | refine ka ?_ _)); refine blk_put (cs := #[.int .i64 0, .slice none 0 0]) ?_ 0 _ rfl; (with_reducible repeat (first | refine kn ?_ _ | refine kd ?_ | refine ka ?_ _)); exact BK169.out) Try.underlying27 rfl (by kernel_rfl)) rfl ?_
    exact ⟨_, by first | rfl | (simp [errW_none, errW_some] <;> rfl) | (simp [*, errW_none, errW_some] <;> rfl), by (with_reducible repeat (first | apply ra | apply rn | apply rw_)); exact Kd.R_mono (Kd.R_far (p := ⟨gb169, 1, none⟩) (Kd.R_far (p := ⟨gb169, 0, none⟩) (Kd.R_types HO_171001.out BK169.out (by decide)) (fun _ hk => hk.2) (.int .i64 a0)) (fun _ hk => hk.2) (.slice Ao28 x171001_1.length co28)) (fun _ hk => trivial), by exact bw HB.out⟩

/-! ### impl_MulMatrix: function 28 -/
def impl_MulMatrix.f (k : Nat) (a0_0 : Int) (l0_1 : List Int) (a1_0 : Int) (l1_1 : List Int) : Option (Int × List Int × Bool) := (impl_alike.f k a0_0 l0_1 a1_0 l1_1).bind fun t178 => (if t178 = true then ((impl_filled_at_impl_MulMatrix_1.f k a0_0 a0_0 l0_1 a1_0 l1_1).bind fun bt179 => (some (bt179.1, bt179.2, true))) else (some (0, ([] : List Int), false)))
theorem impl_MulMatrix.mono : ∀ a0 a1 a2 a3 k, LeO (impl_MulMatrix.f k a0 a1 a2 a3) (impl_MulMatrix.f (k + 1) a0 a1 a2 a3) := by
 intro a0 a1 a2 a3 k
 unfold impl_MulMatrix.f
 repeat' first
   | (with_reducible exact impl_alike.mono _ _ _ _ _)
   | (with_reducible exact impl_filled_at_impl_MulMatrix_1.mono _ _ _ _ _ _)
   | (with_reducible exact LeO.refl _)
   | (with_reducible exact LeO.none _)
   | (with_reducible refine LeO.ite ?_ ?_)
   | (with_reducible refine LeO.bind ?_ (fun _ => ?_))
   | exact impl_alike.mono _ _ _ _ _
   | exact impl_filled_at_impl_MulMatrix_1.mono _ _ _ _ _ _
   | exact LeO.none _
   | refine LeO.ite ?_ ?_
   | refine LeO.bind ?_ (fun _ => ?_)
set_option maxHeartbeats 8000000 in
set_option maxRecDepth 100000 in
theorem impl_MulMatrix.calls (k : Nat) (a0_0 : Int) (A0_1 : Option Addr) (c0_1 : Nat) (l0_1 : List Int) (a1_0 : Int) (A1_1 : Option Addr) (c1_1 : Nat) (l1_1 : List Int) (r1 : Int) (r2 : List Int) (r3 : Bool) (w : World) (hr0_1 : Kd.C (Kd.int .i64) w A0_1 l0_1.length l0_1) (hc0_1 : l0_1.length ≤ c0_1) (hr1_1 : Kd.C (Kd.int .i64) w A1_1 l1_1.length l1_1) (hc1_1 : l1_1.length ≤ c1_1) (h : impl_MulMatrix.f k a0_0 l0_1 a1_0 l1_1 = some (r1, r2, r3)) :
  Calls Try.prog 28 #[.agg #[.int .i64 a0_0, .slice A0_1 l0_1.length c0_1], .agg #[.int .i64 a1_0, .slice A1_1 l1_1.length c1_1]] w fun e w' => ∃ v1_ : Value, e = .returned (.tuple #[.agg #[.int .i64 r1, v1_], .bool r3]) ∧ Kd.R (Kd.int .i64) 3 w' w.heap.size (fun _ => True) v1_ r2 ∧ Below w.heap.size w w' := by
 have hu27 := Try.underlying27
 have HR0_1 := am hr0_1
 have HC0_1 := am hc0_1
 clear hr0_1 hc0_1
 have HR1_1 := am hr1_1
 have HC1_1 := am hc1_1
 clear hr1_1 hc1_1
 have HB := am (Below.refl w.heap.size w)
 have H : ((impl_alike.f k a0_0 l0_1 a1_0 l1_1).bind fun t178 => (if t178 = true then ((impl_filled_at_impl_MulMatrix_1.f k a0_0 a0_0 l0_1 a1_0 l1_1).bind fun bt179 => (some (bt179.1, bt179.2, true))) else (some (0, ([] : List Int), false)))) = some (r1, r2, r3) := h
 clear h
 replace H := Option.bind_eq_some_iff.mp H
 obtain ⟨t178, A30, H⟩ := H
 (try dsimp only at H)
 have A3 := am A30
 clear A30
 by_cases c4 : t178 = true
 ·subst c4
  have H1 : ((impl_filled_at_impl_MulMatrix_1.f k a0_0 a0_0 l0_1 a1_0 l1_1).bind fun bt179 => (some (bt179.1, bt179.2, true))) = some (r1, r2, r3) := by rw [if_pos rfl] at H; exact H
  clear H
  have H := H1
  clear H1
  replace H := Option.bind_eq_some_iff.mp H
  obtain ⟨⟨t179, t180⟩, A50, H⟩ := H
  (try dsimp only at H)
  have A5 := am A50
  clear A50
  simp only [Option.some.injEq, Prod.mk.injEq] at H
  obtain ⟨rfl, rfl, rfl⟩ := H
  go_enter Try.func28, Try.ntmps28
  go_wp2_with (first | ((with_reducible refine gate_dst (N := 2) rfl ?_); refine box_event ?hg (N := 2) ?hd (cs := #[.int .i64 a0_0, .slice A0_1 l0_1.length c0_1]) (t := 27) ?hr ?_; (case hd => rfl); (case hg => rfl); (case hr => first | (go_simp; done) | (go_simp; rfl)); intro gb175 hg w6 hbox hb; have n0_ := am (below_step (bz HB.out) hb); have n1_ := am (hbox); have n2_ := am ((by rw [hg]; exact (below_size (bz HB.out)) : w.heap.size ≤ gb175)); have n3_ := am ((by rw [hg]; exact (below_size (bz HB.out)) : w.heap.size ≤ gb175)); clear HB; revert n0_ n1_ n2_ n3_; intro HB BK175 GW175 GE175; clear hb hbox hg) | ((with_reducible refine gate_dst (N := 3) rfl ?_); refine box_event ?hg (N := 3) ?hd (cs := #[.int .i64 a1_0, .slice A1_1 l1_1.length c1_1]) (t := 27) ?hr ?_; (case hd => rfl); (case hg => rfl); (case hr => first | (go_simp; done) | (go_simp; rfl)); intro gb176 hg w7 hbox hb; have n0_ := bk BK175 hb; have n1_ := am (below_step (bw HB.out) hb); have n2_ := am (hbox); have n3_ := am ((by rw [hg]; exact (below_size (bw HB.out)) : w.heap.size ≤ gb176)); have n4_ := am ((by rw [hg]; exact (below_size (bw HB.out)) : w.heap.size ≤ gb176)); have n5_ := am ((by rw [hg]; exact Nat.ne_of_lt (blk_lt (kz BK175.out)) : gb175 ≠ gb176)); have n6_ := am ((by rw [hg]; exact Nat.ne_of_gt (blk_lt (kz BK175.out)) : gb176 ≠ gb175)); clear BK175 HB; revert n0_ n1_ n2_ n3_ n4_ n5_ n6_; intro BK175 HB BK176 GW176 GE176 NB175_176 NB176_175; clear hb hbox hg) | ((with_reducible refine gate_dst (N := 4) rfl ?_); refine box_event ?hg (N := 4) ?hd (cs := #[.int .i64 0, .slice none 0 0]) (t := 27) ?hr ?_; (case hd => rfl); (case hg => rfl); (case hr => first | (go_simp; done) | (go_simp; rfl)); intro gb177 hg w8 hbox hb; have n0_ := bk BK175 hb; have n1_ := bk BK176 hb; have n2_ := am (below_step (bw HB.out) hb); have n3_ := am (hbox); have n4_ := am ((by rw [hg]; exact (below_size (bw HB.out)) : w.heap.size ≤ gb177)); have n5_ := am ((by rw [hg]; exact (below_size (bw HB.out)) : w.heap.size ≤ gb177)); have n6_ := am ((by rw [hg]; exact Nat.ne_of_lt (blk_lt (kz BK175.out)) : gb175 ≠ gb177)); have n7_ := am ((by rw [hg]; exact Nat.ne_of_gt (blk_lt (kz BK175.out)) : gb177 ≠ gb175)); have n8_ := am ((by rw [hg]; exact Nat.ne_of_lt (blk_lt (kz BK176.out)) : gb176 ≠ gb177)); have n9_ := am ((by rw [hg]; exact Nat.ne_of_gt (blk_lt (kz BK176.out)) : gb177 ≠ gb176)); clear BK175 BK176 HB; revert n0_ n1_ n2_ n3_ n4_ n5_ n6_ n7_ n8_ n9_; intro BK175 BK176 HB BK177 GW177 GE177 NB175_177 NB177_175 NB176_177 NB177_176; clear hb hbox hg; have hnb9 := NB175_176.out; have hnc9 := NB176_175.out; have hnb10 := NB175_177.out; have hnc10 := NB177_175.out; have hcz11_0 := cz20 BK175.out; have hcz11_1 := cz21 BK175.out; have hfz11_0 := blk_frozen BK175.out 0; have hfz11_1 := blk_frozen BK175.out 1; have hnb12 := NB176_177.out; have hnc12 := NB177_176.out; have hcz13_0 := cz20 BK176.out; have hcz13_1 := cz21 BK176.out; have hfz13_0 := blk_frozen BK176.out 0; have hfz13_1 := blk_frozen BK176.out 1) | ((with_reducible refine gate_callee (f := 55) rfl ?_); refine goesL_ (some 8) rfl rfl Try.func55 (by kernel_rfl) rfl #[.agg #[.int .i64 a0_0, .slice A0_1 l0_1.length c0_1], .agg #[.int .i64 a1_0, .slice A1_1 l1_1.length c1_1]] rfl (by (try simp only [List.map_toArray, List.map_cons, List.map_nil]); first | done | rfl | (simp only [List.length_drop, List.length_take]; rfl)) ?_; (with_reducible refine (impl_alike.calls k a0_0 _ _ l0_1 a1_0 _ _ l1_1 true _ ?side1 ?side2 ?side3 ?side4 A3.out).mono ?_); (case side1 => repeat (first | exact (Kd.C_below HR0_1.out HB.out) | (with_reducible refine Kd.C_alloc ?_ _) | (with_reducible refine Kd.C_drewN ?_ _) | (with_reducible refine Kd.C_drew ?_))); (case side2 => exact HC0_1.out); (case side3 => repeat (first | exact (Kd.C_below HR1_1.out HB.out) | (with_reducible refine Kd.C_alloc ?_ _) | (with_reducible refine Kd.C_drewN ?_ _) | (with_reducible refine Kd.C_drew ?_))); (case side4 => exact HC1_1.out); rintro e w14 ⟨rfl, hb⟩; refine ⟨_, rfl, ?_⟩; have n0_ := bk BK175 hb; have n1_ := bk BK176 hb; have n2_ := bk BK177 hb; have n3_ := am (below_step (bw HB.out) hb); clear BK175 BK176 BK177 HB; revert n0_ n1_ n2_ n3_; intro BK175 BK176 BK177 HB; (try clear hb); (try clear hb2); (try clear hk); (try clear hi); have hcz15_0 := cz20 BK175.out; have hcz15_1 := cz21 BK175.out; have hfz15_0 := blk_frozen BK175.out 0; have hfz15_1 := blk_frozen BK175.out 1) | ((with_reducible refine gate_callee (f := 47) rfl ?_); refine goesL_ (some 14) rfl rfl Try.func47 (by kernel_rfl) rfl #[.int .i64 a0_0, .func (.func 58) #[] #[.pointer (some ⟨gb175, 0, none⟩), .pointer (some ⟨gb176, 0, none⟩)]] rfl (by (try simp only [List.map_toArray, List.map_cons, List.map_nil]); first | done | rfl | (simp only [List.length_drop, List.length_take]; rfl)) ?_; (with_reducible refine (impl_filled_at_impl_MulMatrix_1.calls k a0_0 a0_0 _ _ l0_1 a1_0 _ _ l1_1 t179 t180 _ ?side1 ?side2 ?side3 ?side4 A5.out gb175 (kz BK175.out) gb176 (kz BK176.out)).mono ?_); (case side1 => repeat (first | exact (Kd.C_below HR0_1.out HB.out) | (with_reducible refine Kd.C_alloc ?_ _) | (with_reducible refine Kd.C_drewN ?_ _) | (with_reducible refine Kd.C_drew ?_))); (case side2 => exact HC0_1.out); (case side3 => repeat (first | exact (Kd.C_below HR1_1.out HB.out) | (with_reducible refine Kd.C_alloc ?_ _) | (with_reducible refine Kd.C_drewN ?_ _) | (with_reducible refine Kd.C_drew ?_))); (case side4 => exact HC1_1.out); rintro e w16 ⟨v181, rfl, ho0, hb⟩; refine ⟨_, rfl, ?_⟩; have n0_ := am (Kd.R_lower ho0 (below_size (bw HB.out))); have n1_ := bk BK175 hb; have n2_ := bk BK176 hb; have n3_ := bk BK177 hb; have n4_ := am (below_step (bw HB.out) hb); clear BK175 BK176 BK177 HB; revert n0_ n1_ n2_ n3_ n4_; intro HO182 BK175 BK176 BK177 HB; (try clear hb); (try clear hb2); (try clear hk); (try clear hi); (try clear ho0); have hcz17_0 := cz20 BK177.out; have hcz17_1 := cz21 BK177.out; have hfz17_0 := blk_frozen BK177.out 0; have hfz17_1 := blk_frozen BK177.out 1; obtain ⟨Ao18, co18, eo18⟩ := Kd.R_slice HO182.out; subst eo18))
  refine bodyPost_ret (results_ct rfl _ _ gb177 27 #[.int .i64 t179, .slice Ao18 t180.length co18] (0, 0) _ rfl (by (with_reducible repeat (first | refine kn ?_ _ | refine kd ?_ | refine ka ?_ _)); refine blk_put (cs := #[.int .i64 t179, .slice none 0 0]) ?_ 1 _ rfl; (with_reducible repeat (first | refine kn ?_ _ | refine kd ?_ | refine ka ?_ _)); refine blk_put (cs := #[.int .i64 0, .slice none 0 0]) ?_ 0 _ rfl; (with_reducible repeat (first | refine kn ?_ _ | refine kd ?_ | refine ka ?_ _)); exact BK177.out) Try.underlying27 rfl (by kernel_rfl)) rfl ?_
  exact ⟨_, by first | rfl | (simp [errW_none, errW_some] <;> rfl) | (simp [*, errW_none, errW_some] <;> rfl), by (with_reducible repeat (first | apply ra | apply rn | apply rw_)); exact Kd.R_mono (Kd.R_far (p := ⟨gb177, 1, none⟩) (Kd.R_far (p := ⟨gb177, 0, none⟩) (Kd.R_types HO182.out BK177.out (by decide)) (fun _ hk => hk.2) (.int .i64 t179)) (fun _ hk => hk.2) (.slice Ao18 t180.length co18)) (fun _ hk => trivial), by exact bw HB.out⟩
 ·replace c4 := Bool.eq_false_iff.mpr c4
  subst c4
  have H1 : (some (0, ([] : List Int), false)) = some (r1, r2, r3) := by rw [if_neg (show ¬ (false = true) by decide)] at H; exact H
  clear H
  have H := H1
  clear H1
  simp only [Option.some.injEq, Prod.mk.injEq] at H
  obtain ⟨rfl, rfl, rfl⟩ := H
  go_enter Try.func28, Try.ntmps28
  go_wp2_with (first | ((with_reducible refine gate_dst (N := 2) rfl ?_); refine box_event ?hg (N := 2) ?hd (cs := #[.int .i64 a0_0, .slice A0_1 l0_1.length c0_1]) (t := 27) ?hr ?_; (case hd => rfl); (case hg => rfl); (case hr => first | (go_simp; done) | (go_simp; rfl)); intro gb175 hg w19 hbox hb; have n0_ := am (below_step (bz HB.out) hb); have n1_ := am (hbox); have n2_ := am ((by rw [hg]; exact (below_size (bz HB.out)) : w.heap.size ≤ gb175)); have n3_ := am ((by rw [hg]; exact (below_size (bz HB.out)) : w.heap.size ≤ gb175)); clear HB; revert n0_ n1_ n2_ n3_; intro HB BK175 GW175 GE175; clear hb hbox hg) | ((with_reducible refine gate_dst (N := 3) rfl ?_); refine box_event ?hg (N := 3) ?hd (cs := #[.int .i64 a1_0, .slice A1_1 l1_1.length c1_1]) (t := 27) ?hr ?_; (case hd => rfl); (case hg => rfl); (case hr => first | (go_simp; done) | (go_simp; rfl)); intro gb176 hg w20 hbox hb; have n0_ := bk BK175 hb; have n1_ := am (below_step (bw HB.out) hb); have n2_ := am (hbox); have n3_ := am ((by rw [hg]; exact (below_size (bw HB.out)) : w.heap.size ≤ gb176)); have n4_ := am ((by rw [hg]; exact (below_size (bw HB.out)) : w.heap.size ≤ gb176)); have n5_ := am ((by rw [hg]; exact Nat.ne_of_lt (blk_lt (kz BK175.out)) : gb175 ≠ gb176)); have n6_ := am ((by rw [hg]; exact Nat.ne_of_gt (blk_lt (kz BK175.out)) : gb176 ≠ gb175)); clear BK175 HB; revert n0_ n1_ n2_ n3_ n4_ n5_ n6_; intro BK175 HB BK176 GW176 GE176 NB175_176 NB176_175; clear hb hbox hg) | ((with_reducible refine gate_dst (N := 4) rfl ?_); refine box_event ?hg (N := 4) ?hd (cs := #[.int .i64 0, .slice none 0 0]) (t := 27) ?hr ?_; (case hd => rfl); (case hg => rfl); (case hr => first | (go_simp; done) | (go_simp; rfl)); intro gb177 hg w21 hbox hb; have n0_ := bk BK175 hb; have n1_ := bk BK176 hb; have n2_ := am (below_step (bw HB.out) hb); have n3_ := am (hbox); have n4_ := am ((by rw [hg]; exact (below_size (bw HB.out)) : w.heap.size ≤ gb177)); have n5_ := am ((by rw [hg]; exact (below_size (bw HB.out)) : w.heap.size ≤ gb177)); have n6_ := am ((by rw [hg]; exact Nat.ne_of_lt (blk_lt (kz BK175.out)) : gb175 ≠ gb177)); have n7_ := am ((by rw [hg]; exact Nat.ne_of_gt (blk_lt (kz BK175.out)) : gb177 ≠ gb175)); have n8_ := am ((by rw [hg]; exact Nat.ne_of_lt (blk_lt (kz BK176.out)) : gb176 ≠ gb177)); have n9_ := am ((by rw [hg]; exact Nat.ne_of_gt (blk_lt (kz BK176.out)) : gb177 ≠ gb176)); clear BK175 BK176 HB; revert n0_ n1_ n2_ n3_ n4_ n5_ n6_ n7_ n8_ n9_; intro BK175 BK176 HB BK177 GW177 GE177 NB175_177 NB177_175 NB176_177 NB177_176; clear hb hbox hg; have hnb22 := NB175_176.out; have hnc22 := NB176_175.out; have hnb23 := NB175_177.out; have hnc23 := NB177_175.out; have hcz24_0 := cz20 BK175.out; have hcz24_1 := cz21 BK175.out; have hfz24_0 := blk_frozen BK175.out 0; have hfz24_1 := blk_frozen BK175.out 1; have hnb25 := NB176_177.out; have hnc25 := NB177_176.out; have hcz26_0 := cz20 BK176.out; have hcz26_1 := cz21 BK176.out; have hfz26_0 := blk_frozen BK176.out 0; have hfz26_1 := blk_frozen BK176.out 1) | ((with_reducible refine gate_callee (f := 55) rfl ?_); refine goesL_ (some 8) rfl rfl Try.func55 (by kernel_rfl) rfl #[.agg #[.int .i64 a0_0, .slice A0_1 l0_1.length c0_1], .agg #[.int .i64 a1_0, .slice A1_1 l1_1.length c1_1]] rfl (by (try simp only [List.map_toArray, List.map_cons, List.map_nil]); first | done | rfl | (simp only [List.length_drop, List.length_take]; rfl)) ?_; (with_reducible refine (impl_alike.calls k a0_0 _ _ l0_1 a1_0 _ _ l1_1 false _ ?side1 ?side2 ?side3 ?side4 A3.out).mono ?_); (case side1 => repeat (first | exact (Kd.C_below HR0_1.out HB.out) | (with_reducible refine Kd.C_alloc ?_ _) | (with_reducible refine Kd.C_drewN ?_ _) | (with_reducible refine Kd.C_drew ?_))); (case side2 => exact HC0_1.out); (case side3 => repeat (first | exact (Kd.C_below HR1_1.out HB.out) | (with_reducible refine Kd.C_alloc ?_ _) | (with_reducible refine Kd.C_drewN ?_ _) | (with_reducible refine Kd.C_drew ?_))); (case side4 => exact HC1_1.out); rintro e w27 ⟨rfl, hb⟩; refine ⟨_, rfl, ?_⟩; have n0_ := bk BK175 hb; have n1_ := bk BK176 hb; have n2_ := bk BK177 hb; have n3_ := am (below_step (bw HB.out) hb); clear BK175 BK176 BK177 HB; revert n0_ n1_ n2_ n3_; intro BK175 BK176 BK177 HB; (try clear hb); (try clear hb2); (try clear hk); (try clear hi); have hcz28_0 := cz20 BK177.out; have hcz28_1 := cz21 BK177.out; have hfz28_0 := blk_frozen BK177.out 0; have hfz28_1 := blk_frozen BK177.out 1))
  refine bodyPost_ret (results_ct rfl _ _ gb177 27 #[.int .i64 0, .slice none 0 0] (0, 0) _ rfl (by (with_reducible repeat (first | refine kn ?_ _ | refine kd ?_ | refine ka ?_ _)); refine blk_put (cs := #[.int .i64 0, .slice none 0 0]) ?_ 1 _ rfl; (with_reducible repeat (first | refine kn ?_ _ | refine kd ?_ | refine ka ?_ _)); refine blk_put (cs := #[.int .i64 0, .slice none 0 0]) ?_ 0 _ rfl; (with_reducible repeat (first | refine kn ?_ _ | refine kd ?_ | refine ka ?_ _)); exact BK177.out) Try.underlying27 rfl (by kernel_rfl)) rfl ?_
  exact ⟨_, by first | rfl | (simp [errW_none, errW_some] <;> rfl) | (simp [*, errW_none, errW_some] <;> rfl), by first | exact Kd.R_nil _ _ _ _ _ | exact Kd.N_nil _ _ _ _ _ | exact Kd.V_nil _ _ _ _ _ | exact Kd.Q_nil _ _ _ _ _ | exact Kd.S_nil _ _ _ _ _, by exact bw HB.out⟩

end Go.Proofs.Ythojienhgeiknaa.PFnMinMatrix
