-- Written by a program (wip/myprint.py): the machine side of one law: each function that it reaches, as a plain function, and the proof that a call comes to just that.
import Derived.Test.YthojienhgeiknaaPFnExactMinMatrixx0
import Derived.Test.YthojienhgeiknaaPFnExactMinMatrixx1
import Derived.Test.YthojienhgeiknaaPFnExactMinMatrixx2
import Derived.Test.YthojienhgeiknaaPFnExactMinMatrixx3
namespace Go.Proofs.Ythojienhgeiknaa.PFnExactMinMatrix
open Go.RowKit Go.Proofs.YthojienhgeiknaaW.PrintWords Go.Proofs.YthojienhgeiknaaW.PrintLast Go.Proofs.YthojienhgeiknaaW.PrintMore
attribute [local go_sem] max2_int min2_int max_two min_two max_three min_three max_four min_four   -- for this text's walks alone
set_option linter.unusedVariables false
set_option linter.unusedSimpArgs false

/-! ### laws_FnExactMinMatrix: function 6 -/
def laws_FnExactMinMatrix.f (k : Nat) (a0_0 : Int) (l0_1 : List Int) (a1_0 : Int) (l1_1 : List Int) : Option (Bool) := (laws_szMatrix.f a0_0 l0_1 1048576).bind fun t187 => (if t187 < 0 then (some true) else ((laws_szMatrix.f a1_0 l1_1 t187).bind fun t188 => (if t188 < 0 then (some true) else ((laws_toMatrix.f k a0_0 l0_1).bind fun bt189 => ((laws_toMatrix.f k a1_0 l1_1).bind fun bt193 => ((spec_MinMatrix.f k bt189.1 bt189.2 bt193.1 bt193.2).bind fun bt197 => ((laws_toMatrix.f k a0_0 l0_1).bind fun bt203 => ((laws_toMatrix.f k a1_0 l1_1).bind fun bt208 => ((impl_MinMatrix.f k bt203.1 bt203.2 bt208.1 bt208.2).bind fun bt213 => ((laws_eqMatrix.f k bt213.1 bt213.2.1 bt197.1 bt197.2.1).bind fun t219 => (if t219 = true then (if (bt213.2.2 != bt197.2.2) = true then (none) else ((laws_toMatrix.f k a0_0 l0_1).bind fun bt220 => ((laws_eqMatrix.f k bt203.1 bt203.2 bt220.1 bt220.2).bind fun t224 => (if t224 = true then ((laws_toMatrix.f k a1_0 l1_1).bind fun bt225 => ((laws_eqMatrix.f k bt208.1 bt208.2 bt225.1 bt225.2).bind fun t229 => (if t229 = true then ((laws_markMatrix.f k bt203.1 bt203.2 1).bind fun bt230 => ((laws_markMatrix.f k bt208.1 bt208.2 bt230.1).bind fun bt232 => (if bt232.1 < 0 then (none) else ((laws_eqMatrix.f k bt213.1 bt213.2.1 bt197.1 bt197.2.1).bind fun t234 => (if t234 = true then ((laws_markMatrix.f k bt213.1 bt213.2.1 1).bind fun bt235 => ((laws_heldMatrix.f k bt213.1 bt235.2 1).bind fun t237 => (if t237 < 0 then (none) else (if t237 = bt235.1 then ((laws_toMatrix.f k a0_0 l0_1).bind fun bt238 => ((laws_toMatrix.f k a1_0 l1_1).bind fun bt242 => ((impl_MinMatrix.f k bt238.1 bt238.2 bt242.1 bt242.2).bind fun bt246 => ((laws_eqMatrix.f k bt246.1 bt246.2.1 bt197.1 bt197.2.1).bind fun t252 => (if t252 = true then (if (bt246.2.2 != bt197.2.2) = true then (none) else ((laws_heldMatrix.f k bt213.1 bt235.2 1).bind fun t253 => (if t253 < 0 then (none) else (if t253 = bt235.1 then (some true) else (none))))) else (none)))))) else (none))))) else (none)))))) else (none)))) else (none))))) else (none))))))))))))
theorem laws_FnExactMinMatrix.mono : ∀ a0 a1 a2 a3 k, LeO (laws_FnExactMinMatrix.f k a0 a1 a2 a3) (laws_FnExactMinMatrix.f (k + 1) a0 a1 a2 a3) := by
 intro a0 a1 a2 a3 k
 unfold laws_FnExactMinMatrix.f
 repeat' first
   | (with_reducible exact impl_MinMatrix.mono _ _ _ _ _)
   | (with_reducible exact laws_eqMatrix.mono _ _ _ _ _)
   | (with_reducible exact laws_heldMatrix.mono _ _ _ _)
   | (with_reducible exact laws_markMatrix.mono _ _ _ _)
   | (with_reducible exact laws_toMatrix.mono _ _ _)
   | (with_reducible exact spec_MinMatrix.mono _ _ _ _ _)
   | (with_reducible exact LeO.refl _)
   | (with_reducible exact LeO.none _)
   | (with_reducible refine LeO.ite ?_ ?_)
   | (with_reducible refine LeO.bind ?_ (fun _ => ?_))
   | exact impl_MinMatrix.mono _ _ _ _ _
   | exact laws_eqMatrix.mono _ _ _ _ _
   | exact laws_heldMatrix.mono _ _ _ _
   | exact laws_markMatrix.mono _ _ _ _
   | exact laws_toMatrix.mono _ _ _
   | exact spec_MinMatrix.mono _ _ _ _ _
   | exact LeO.none _
   | refine LeO.ite ?_ ?_
   | refine LeO.bind ?_ (fun _ => ?_)
def laws_FnExactMinMatrix.T8 : Bool × List (List Nat × List Nat) := (true, [([], []), ([0], [0]), ([], []), ([2, 1], [2]), ([1, 3, 3], [1, 3]), ([4], [4]), ([5], [5]), ([5], [5]), ([], []), ([8, 6, 4, 0, 1, 2, 3, 4, 5, 6, 8], [6, 8]), ([7, 9, 0, 1, 2, 3, 4, 5, 6, 7, 8, 9], [7])])
def laws_FnExactMinMatrix.B8 : List Nat := [0, 1, 0, 7, 15, 31, 63, 63, 0, 383, 1023]
theorem laws_FnExactMinMatrix.tab8 : rtab .any (opsOf Try.f6 8) = laws_FnExactMinMatrix.T8 := by kernel_rfl
theorem laws_FnExactMinMatrix.bits8 : waitsOk laws_FnExactMinMatrix.T8.2 laws_FnExactMinMatrix.B8 = true := by kernel_rfl
def laws_FnExactMinMatrix.T31 : Bool × List (List Nat × List Nat) := (true, [([], []), ([0], [0]), ([], []), ([2, 1], [2]), ([1, 3, 3], [1, 3]), ([4], [4]), ([5], [5]), ([5], [5]), ([], []), ([8, 6, 4, 0, 1, 2, 3, 4, 5, 6, 8], [6, 8]), ([7, 9, 0, 1, 2, 3, 4, 5, 6, 7, 8, 9], [7])])
def laws_FnExactMinMatrix.B31 : List Nat := [0, 1, 0, 7, 15, 31, 63, 63, 0, 383, 1023]
theorem laws_FnExactMinMatrix.tab31 : rtab .any (opsOf Try.f6 31) = laws_FnExactMinMatrix.T31 := by kernel_rfl
theorem laws_FnExactMinMatrix.bits31 : waitsOk laws_FnExactMinMatrix.T31.2 laws_FnExactMinMatrix.B31 = true := by kernel_rfl
set_option maxHeartbeats 8000000 in
set_option maxRecDepth 100000 in
theorem laws_FnExactMinMatrix.calls (k : Nat) (a0_0 : Int) (A0_1 : Option Addr) (c0_1 : Nat) (l0_1 : List Int) (a1_0 : Int) (A1_1 : Option Addr) (c1_1 : Nat) (l1_1 : List Int) (r : Bool) (w : World) (hr0_1 : Kd.C (Kd.int .i64) w A0_1 l0_1.length l0_1) (hc0_1 : l0_1.length ≤ c0_1) (hr1_1 : Kd.C (Kd.int .i64) w A1_1 l1_1.length l1_1) (hc1_1 : l1_1.length ≤ c1_1) (h : laws_FnExactMinMatrix.f k a0_0 l0_1 a1_0 l1_1 = some r) :
  Calls Try.prog 6 #[.agg #[.int .i64 a0_0, .slice A0_1 l0_1.length c0_1], .agg #[.int .i64 a1_0, .slice A1_1 l1_1.length c1_1]] w fun e w' => e = .returned (.bool r) ∧ Below w.heap.size w w' := by
 have hu24 := Try.underlying24
 have hu27 := Try.underlying27
 have HR0_1 := am hr0_1
 have HC0_1 := am hc0_1
 clear hr0_1 hc0_1
 have HR1_1 := am hr1_1
 have HC1_1 := am hc1_1
 clear hr1_1 hc1_1
 have HB := am (Below.refl w.heap.size w)
 have H : ((laws_szMatrix.f a0_0 l0_1 1048576).bind fun t187 => (if t187 < 0 then (some true) else ((laws_szMatrix.f a1_0 l1_1 t187).bind fun t188 => (if t188 < 0 then (some true) else ((laws_toMatrix.f k a0_0 l0_1).bind fun bt189 => ((laws_toMatrix.f k a1_0 l1_1).bind fun bt193 => ((spec_MinMatrix.f k bt189.1 bt189.2 bt193.1 bt193.2).bind fun bt197 => ((laws_toMatrix.f k a0_0 l0_1).bind fun bt203 => ((laws_toMatrix.f k a1_0 l1_1).bind fun bt208 => ((impl_MinMatrix.f k bt203.1 bt203.2 bt208.1 bt208.2).bind fun bt213 => ((laws_eqMatrix.f k bt213.1 bt213.2.1 bt197.1 bt197.2.1).bind fun t219 => (if t219 = true then (if (bt213.2.2 != bt197.2.2) = true then (none) else ((laws_toMatrix.f k a0_0 l0_1).bind fun bt220 => ((laws_eqMatrix.f k bt203.1 bt203.2 bt220.1 bt220.2).bind fun t224 => (if t224 = true then ((laws_toMatrix.f k a1_0 l1_1).bind fun bt225 => ((laws_eqMatrix.f k bt208.1 bt208.2 bt225.1 bt225.2).bind fun t229 => (if t229 = true then ((laws_markMatrix.f k bt203.1 bt203.2 1).bind fun bt230 => ((laws_markMatrix.f k bt208.1 bt208.2 bt230.1).bind fun bt232 => (if bt232.1 < 0 then (none) else ((laws_eqMatrix.f k bt213.1 bt213.2.1 bt197.1 bt197.2.1).bind fun t234 => (if t234 = true then ((laws_markMatrix.f k bt213.1 bt213.2.1 1).bind fun bt235 => ((laws_heldMatrix.f k bt213.1 bt235.2 1).bind fun t237 => (if t237 < 0 then (none) else (if t237 = bt235.1 then ((laws_toMatrix.f k a0_0 l0_1).bind fun bt238 => ((laws_toMatrix.f k a1_0 l1_1).bind fun bt242 => ((impl_MinMatrix.f k bt238.1 bt238.2 bt242.1 bt242.2).bind fun bt246 => ((laws_eqMatrix.f k bt246.1 bt246.2.1 bt197.1 bt197.2.1).bind fun t252 => (if t252 = true then (if (bt246.2.2 != bt197.2.2) = true then (none) else ((laws_heldMatrix.f k bt213.1 bt235.2 1).bind fun t253 => (if t253 < 0 then (none) else (if t253 = bt235.1 then (some true) else (none))))) else (none)))))) else (none))))) else (none)))))) else (none)))) else (none))))) else (none))))))))))))) = some r := h
 clear h
 replace H := Option.bind_eq_some_iff.mp H
 obtain ⟨t187, A30, H⟩ := H
 (try dsimp only at H)
 have A3 := am A30
 clear A30
 by_cases c4 : t187 < 0
 ·rw [if_pos c4] at H
  have c4b0 : decide (t187 < 0) = true := decide_eq_true c4
  clear c4
  obtain rfl := Option.some.inj H
  go_enter Try.func6, Try.ntmps6
  go_wp2_with (first | ((with_reducible refine gate_dst (N := 2) rfl ?_); refine box_event ?hg (N := 2) ?hd (cs := #[.int .i64 a0_0, .slice A0_1 l0_1.length c0_1]) (t := 24) ?hr ?_; (case hd => rfl); (case hg => rfl); (case hr => first | (go_simp; done) | (go_simp; rfl)); intro gb185 hg w5 hbox hb; have n0_ := am (below_step (bz HB.out) hb); have n1_ := am (hbox); have n2_ := am ((by rw [hg]; exact (below_size (bz HB.out)) : w.heap.size ≤ gb185)); have n3_ := am ((by rw [hg]; exact (below_size (bz HB.out)) : w.heap.size ≤ gb185)); clear HB; revert n0_ n1_ n2_ n3_; intro HB BK185 GW185 GE185; clear hb hbox hg) | ((with_reducible refine gate_dst (N := 3) rfl ?_); refine box_event ?hg (N := 3) ?hd (cs := #[.int .i64 a1_0, .slice A1_1 l1_1.length c1_1]) (t := 24) ?hr ?_; (case hd => rfl); (case hg => rfl); (case hr => first | (go_simp; done) | (go_simp; rfl)); intro gb186 hg w6 hbox hb; have n0_ := bk BK185 hb; have n1_ := am (below_step (bw HB.out) hb); have n2_ := am (hbox); have n3_ := am ((by rw [hg]; exact (below_size (bw HB.out)) : w.heap.size ≤ gb186)); have n4_ := am ((by rw [hg]; exact (below_size (bw HB.out)) : w.heap.size ≤ gb186)); have n5_ := am ((by rw [hg]; exact Nat.ne_of_lt (blk_lt (kz BK185.out)) : gb185 ≠ gb186)); have n6_ := am ((by rw [hg]; exact Nat.ne_of_gt (blk_lt (kz BK185.out)) : gb186 ≠ gb185)); clear BK185 HB; revert n0_ n1_ n2_ n3_ n4_ n5_ n6_; intro BK185 HB BK186 GW186 GE186 NB185_186 NB186_185; clear hb hbox hg; have hnb7 := NB185_186.out; have hnc7 := NB186_185.out; have hcz8_0 := cz20 BK185.out; have hcz8_1 := cz21 BK185.out; have hfz8_0 := blk_frozen BK185.out 0; have hfz8_1 := blk_frozen BK185.out 1) | ((with_reducible refine gate_callee (f := 14) rfl ?_); refine goesL_ (some 19) rfl rfl Try.func14 (by kernel_rfl) rfl #[.agg #[.int .i64 a0_0, .slice A0_1 l0_1.length c0_1], .int .i64 1048576] rfl (by (try simp only [List.map_toArray, List.map_cons, List.map_nil]); first | done | rfl | (simp only [List.length_drop, List.length_take]; rfl)) ?_; (with_reducible refine (laws_szMatrix.calls a0_0 _ _ l0_1 1048576 t187 _ ?side1 ?side2 A3.out).mono ?_); (case side1 => repeat (first | exact (Kd.C_below HR0_1.out HB.out) | (with_reducible refine Kd.C_alloc ?_ _) | (with_reducible refine Kd.C_drewN ?_ _) | (with_reducible refine Kd.C_drew ?_))); (case side2 => exact HC0_1.out); rintro e w9 ⟨rfl, hb⟩; refine ⟨_, rfl, ?_⟩; have n0_ := bk BK185 hb; have n1_ := bk BK186 hb; have n2_ := am (below_step (bw HB.out) hb); clear BK185 BK186 HB; revert n0_ n1_ n2_; intro BK185 BK186 HB; (try clear hb); (try clear hb2); (try clear hk); (try clear hi)))
  go_ret
  exact ⟨by first | rfl | (simp [errW_none, errW_some] <;> rfl) | (simp [*, errW_none, errW_some] <;> rfl), by exact bw HB.out⟩
 ·rw [if_neg c4] at H
  have c4b0 : decide (t187 < 0) = false := decide_eq_false c4
  clear c4
  replace H := Option.bind_eq_some_iff.mp H
  obtain ⟨t188, A100, H⟩ := H
  (try dsimp only at H)
  have A10 := am A100
  clear A100
  by_cases c11 : t188 < 0
  ·rw [if_pos c11] at H
   have c11b0 : decide (t188 < 0) = true := decide_eq_true c11
   clear c11
   obtain rfl := Option.some.inj H
   go_enter Try.func6, Try.ntmps6
   go_wp2_with (first | ((with_reducible refine gate_dst (N := 2) rfl ?_); refine box_event ?hg (N := 2) ?hd (cs := #[.int .i64 a0_0, .slice A0_1 l0_1.length c0_1]) (t := 24) ?hr ?_; (case hd => rfl); (case hg => rfl); (case hr => first | (go_simp; done) | (go_simp; rfl)); intro gb185 hg w12 hbox hb; have n0_ := am (below_step (bz HB.out) hb); have n1_ := am (hbox); have n2_ := am ((by rw [hg]; exact (below_size (bz HB.out)) : w.heap.size ≤ gb185)); have n3_ := am ((by rw [hg]; exact (below_size (bz HB.out)) : w.heap.size ≤ gb185)); clear HB; revert n0_ n1_ n2_ n3_; intro HB BK185 GW185 GE185; clear hb hbox hg) | ((with_reducible refine gate_dst (N := 3) rfl ?_); refine box_event ?hg (N := 3) ?hd (cs := #[.int .i64 a1_0, .slice A1_1 l1_1.length c1_1]) (t := 24) ?hr ?_; (case hd => rfl); (case hg => rfl); (case hr => first | (go_simp; done) | (go_simp; rfl)); intro gb186 hg w13 hbox hb; have n0_ := bk BK185 hb; have n1_ := am (below_step (bw HB.out) hb); have n2_ := am (hbox); have n3_ := am ((by rw [hg]; exact (below_size (bw HB.out)) : w.heap.size ≤ gb186)); have n4_ := am ((by rw [hg]; exact (below_size (bw HB.out)) : w.heap.size ≤ gb186)); have n5_ := am ((by rw [hg]; exact Nat.ne_of_lt (blk_lt (kz BK185.out)) : gb185 ≠ gb186)); have n6_ := am ((by rw [hg]; exact Nat.ne_of_gt (blk_lt (kz BK185.out)) : gb186 ≠ gb185)); clear BK185 HB; revert n0_ n1_ n2_ n3_ n4_ n5_ n6_; intro BK185 HB BK186 GW186 GE186 NB185_186 NB186_185; clear hb hbox hg; have hnb14 := NB185_186.out; have hnc14 := NB186_185.out; have hcz15_0 := cz20 BK185.out; have hcz15_1 := cz21 BK185.out; have hfz15_0 := blk_frozen BK185.out 0; have hfz15_1 := blk_frozen BK185.out 1) | ((with_reducible refine gate_callee (f := 14) rfl ?_); refine goesL_ (some 19) rfl rfl Try.func14 (by kernel_rfl) rfl #[.agg #[.int .i64 a0_0, .slice A0_1 l0_1.length c0_1], .int .i64 1048576] rfl (by (try simp only [List.map_toArray, List.map_cons, List.map_nil]); first | done | rfl | (simp only [List.length_drop, List.length_take]; rfl)) ?_; (with_reducible refine (laws_szMatrix.calls a0_0 _ _ l0_1 1048576 t187 _ ?side1 ?side2 A3.out).mono ?_); (case side1 => repeat (first | exact (Kd.C_below HR0_1.out HB.out) | (with_reducible refine Kd.C_alloc ?_ _) | (with_reducible refine Kd.C_drewN ?_ _) | (with_reducible refine Kd.C_drew ?_))); (case side2 => exact HC0_1.out); rintro e w16 ⟨rfl, hb⟩; refine ⟨_, rfl, ?_⟩; have n0_ := bk BK185 hb; have n1_ := bk BK186 hb; have n2_ := am (below_step (bw HB.out) hb); clear BK185 BK186 HB; revert n0_ n1_ n2_; intro BK185 BK186 HB; (try clear hb); (try clear hb2); (try clear hk); (try clear hi); have hcz17_0 := cz20 BK186.out; have hcz17_1 := cz21 BK186.out; have hfz17_0 := blk_frozen BK186.out 0; have hfz17_1 := blk_frozen BK186.out 1) | ((with_reducible refine gate_callee (f := 14) rfl ?_); refine goesL_ (some 24) rfl rfl Try.func14 (by kernel_rfl) rfl #[.agg #[.int .i64 a1_0, .slice A1_1 l1_1.length c1_1], .int .i64 t187] rfl (by (try simp only [List.map_toArray, List.map_cons, List.map_nil]); first | done | rfl | (simp only [List.length_drop, List.length_take]; rfl)) ?_; (with_reducible refine (laws_szMatrix.calls a1_0 _ _ l1_1 t187 t188 _ ?side1 ?side2 A10.out).mono ?_); (case side1 => repeat (first | exact (Kd.C_below HR1_1.out HB.out) | (with_reducible refine Kd.C_alloc ?_ _) | (with_reducible refine Kd.C_drewN ?_ _) | (with_reducible refine Kd.C_drew ?_))); (case side2 => exact HC1_1.out); rintro e w18 ⟨rfl, hb⟩; refine ⟨_, rfl, ?_⟩; have n0_ := bk BK185 hb; have n1_ := bk BK186 hb; have n2_ := am (below_step (bw HB.out) hb); clear BK185 BK186 HB; revert n0_ n1_ n2_; intro BK185 BK186 HB; (try clear hb); (try clear hb2); (try clear hk); (try clear hi)))
   go_ret
   exact ⟨by first | rfl | (simp [errW_none, errW_some] <;> rfl) | (simp [*, errW_none, errW_some] <;> rfl), by exact bw HB.out⟩
  ·rw [if_neg c11] at H
   have c11b0 : decide (t188 < 0) = false := decide_eq_false c11
   clear c11
   replace H := Option.bind_eq_some_iff.mp H
   obtain ⟨⟨t189, t190⟩, A190, H⟩ := H
   (try dsimp only at H)
   have A19 := am A190
   clear A190
   replace H := Option.bind_eq_some_iff.mp H
   obtain ⟨⟨t193, t194⟩, A200, H⟩ := H
   (try dsimp only at H)
   have A20 := am A200
   clear A200
   replace H := Option.bind_eq_some_iff.mp H
   obtain ⟨⟨t197, t198, t201⟩, A210, H⟩ := H
   (try dsimp only at H)
   have A21 := am A210
   clear A210
   replace H := Option.bind_eq_some_iff.mp H
   obtain ⟨⟨t203, t204⟩, A220, H⟩ := H
   (try dsimp only at H)
   have A22 := am A220
   clear A220
   replace H := Option.bind_eq_some_iff.mp H
   obtain ⟨⟨t208, t209⟩, A230, H⟩ := H
   (try dsimp only at H)
   have A23 := am A230
   clear A230
   replace H := Option.bind_eq_some_iff.mp H
   obtain ⟨⟨t213, t214, t217⟩, A240, H⟩ := H
   (try dsimp only at H)
   have A24 := am A240
   clear A240
   replace H := Option.bind_eq_some_iff.mp H
   obtain ⟨t219, A250, H⟩ := H
   (try dsimp only at H)
   have A25 := am A250
   clear A250
   by_cases c26 : t219 = true
   ·subst c26
    have H1 : (if (t217 != t201) = true then (none) else ((laws_toMatrix.f k a0_0 l0_1).bind fun bt220 => ((laws_eqMatrix.f k t203 t204 bt220.1 bt220.2).bind fun t224 => (if t224 = true then ((laws_toMatrix.f k a1_0 l1_1).bind fun bt225 => ((laws_eqMatrix.f k t208 t209 bt225.1 bt225.2).bind fun t229 => (if t229 = true then ((laws_markMatrix.f k t203 t204 1).bind fun bt230 => ((laws_markMatrix.f k t208 t209 bt230.1).bind fun bt232 => (if bt232.1 < 0 then (none) else ((laws_eqMatrix.f k t213 t214 t197 t198).bind fun t234 => (if t234 = true then ((laws_markMatrix.f k t213 t214 1).bind fun bt235 => ((laws_heldMatrix.f k t213 bt235.2 1).bind fun t237 => (if t237 < 0 then (none) else (if t237 = bt235.1 then ((laws_toMatrix.f k a0_0 l0_1).bind fun bt238 => ((laws_toMatrix.f k a1_0 l1_1).bind fun bt242 => ((impl_MinMatrix.f k bt238.1 bt238.2 bt242.1 bt242.2).bind fun bt246 => ((laws_eqMatrix.f k bt246.1 bt246.2.1 t197 t198).bind fun t252 => (if t252 = true then (if (bt246.2.2 != t201) = true then (none) else ((laws_heldMatrix.f k t213 bt235.2 1).bind fun t253 => (if t253 < 0 then (none) else (if t253 = bt235.1 then (some true) else (none))))) else (none)))))) else (none))))) else (none)))))) else (none)))) else (none))))) = some r := by rw [if_pos rfl] at H; exact H
    clear H
    have H := H1
    clear H1
    by_cases c27 : (t217 != t201) = true
    ·rw [if_pos c27] at H
     exact absurd H (by simp)
    ·rw [if_neg c27] at H
     have c27b0 : (t217 != t201) = false := by simpa using c27
     (try (have c27b1 : decide (t217 = t201) = true := by simpa using c27))
     (try (have c27b2 : (t217 == t201) = true := by simpa using c27))
     clear c27
     replace H := Option.bind_eq_some_iff.mp H
     obtain ⟨⟨t220, t221⟩, A280, H⟩ := H
     (try dsimp only at H)
     have A28 := am A280
     clear A280
     replace H := Option.bind_eq_some_iff.mp H
     obtain ⟨t224, A290, H⟩ := H
     (try dsimp only at H)
     have A29 := am A290
     clear A290
     by_cases c30 : t224 = true
     ·subst c30
      have H1 : ((laws_toMatrix.f k a1_0 l1_1).bind fun bt225 => ((laws_eqMatrix.f k t208 t209 bt225.1 bt225.2).bind fun t229 => (if t229 = true then ((laws_markMatrix.f k t203 t204 1).bind fun bt230 => ((laws_markMatrix.f k t208 t209 bt230.1).bind fun bt232 => (if bt232.1 < 0 then (none) else ((laws_eqMatrix.f k t213 t214 t197 t198).bind fun t234 => (if t234 = true then ((laws_markMatrix.f k t213 t214 1).bind fun bt235 => ((laws_heldMatrix.f k t213 bt235.2 1).bind fun t237 => (if t237 < 0 then (none) else (if t237 = bt235.1 then ((laws_toMatrix.f k a0_0 l0_1).bind fun bt238 => ((laws_toMatrix.f k a1_0 l1_1).bind fun bt242 => ((impl_MinMatrix.f k bt238.1 bt238.2 bt242.1 bt242.2).bind fun bt246 => ((laws_eqMatrix.f k bt246.1 bt246.2.1 t197 t198).bind fun t252 => (if t252 = true then (if (bt246.2.2 != t201) = true then (none) else ((laws_heldMatrix.f k t213 bt235.2 1).bind fun t253 => (if t253 < 0 then (none) else (if t253 = bt235.1 then (some true) else (none))))) else (none)))))) else (none))))) else (none)))))) else (none)))) = some r := by rw [if_pos rfl] at H; exact H
      clear H
      have H := H1
      clear H1
      replace H := Option.bind_eq_some_iff.mp H
      obtain ⟨⟨t225, t226⟩, A310, H⟩ := H
      (try dsimp only at H)
      have A31 := am A310
      clear A310
      replace H := Option.bind_eq_some_iff.mp H
      obtain ⟨t229, A320, H⟩ := H
      (try dsimp only at H)
      have A32 := am A320
      clear A320
      by_cases c33 : t229 = true
      ·subst c33
       have H1 : ((laws_markMatrix.f k t203 t204 1).bind fun bt230 => ((laws_markMatrix.f k t208 t209 bt230.1).bind fun bt232 => (if bt232.1 < 0 then (none) else ((laws_eqMatrix.f k t213 t214 t197 t198).bind fun t234 => (if t234 = true then ((laws_markMatrix.f k t213 t214 1).bind fun bt235 => ((laws_heldMatrix.f k t213 bt235.2 1).bind fun t237 => (if t237 < 0 then (none) else (if t237 = bt235.1 then ((laws_toMatrix.f k a0_0 l0_1).bind fun bt238 => ((laws_toMatrix.f k a1_0 l1_1).bind fun bt242 => ((impl_MinMatrix.f k bt238.1 bt238.2 bt242.1 bt242.2).bind fun bt246 => ((laws_eqMatrix.f k bt246.1 bt246.2.1 t197 t198).bind fun t252 => (if t252 = true then (if (bt246.2.2 != t201) = true then (none) else ((laws_heldMatrix.f k t213 bt235.2 1).bind fun t253 => (if t253 < 0 then (none) else (if t253 = bt235.1 then (some true) else (none))))) else (none)))))) else (none))))) else (none)))))) = some r := by rw [if_pos rfl] at H; exact H
       clear H
       have H := H1
       clear H1
       replace H := Option.bind_eq_some_iff.mp H
       obtain ⟨⟨t230, t231⟩, A340, H⟩ := H
       (try dsimp only at H)
       have A34 := am A340
       clear A340
       replace H := Option.bind_eq_some_iff.mp H
       obtain ⟨⟨t232, t233⟩, A350, H⟩ := H
       (try dsimp only at H)
       have A35 := am A350
       clear A350
       by_cases c36 : t232 < 0
       ·rw [if_pos c36] at H
        exact absurd H (by simp)
       ·rw [if_neg c36] at H
        have c36b0 : decide (t232 < 0) = false := decide_eq_false c36
        clear c36
        replace H := Option.bind_eq_some_iff.mp H
        obtain ⟨t234, A370, H⟩ := H
        (try dsimp only at H)
        have A37 := am A370
        clear A370
        by_cases c38 : t234 = true
        ·subst c38
         have H1 : ((laws_markMatrix.f k t213 t214 1).bind fun bt235 => ((laws_heldMatrix.f k t213 bt235.2 1).bind fun t237 => (if t237 < 0 then (none) else (if t237 = bt235.1 then ((laws_toMatrix.f k a0_0 l0_1).bind fun bt238 => ((laws_toMatrix.f k a1_0 l1_1).bind fun bt242 => ((impl_MinMatrix.f k bt238.1 bt238.2 bt242.1 bt242.2).bind fun bt246 => ((laws_eqMatrix.f k bt246.1 bt246.2.1 t197 t198).bind fun t252 => (if t252 = true then (if (bt246.2.2 != t201) = true then (none) else ((laws_heldMatrix.f k t213 bt235.2 1).bind fun t253 => (if t253 < 0 then (none) else (if t253 = bt235.1 then (some true) else (none))))) else (none)))))) else (none))))) = some r := by rw [if_pos rfl] at H; exact H
         clear H
         have H := H1
         clear H1
         replace H := Option.bind_eq_some_iff.mp H
         obtain ⟨⟨t235, t236⟩, A390, H⟩ := H
         (try dsimp only at H)
         have A39 := am A390
         clear A390
         replace H := Option.bind_eq_some_iff.mp H
         obtain ⟨t237, A400, H⟩ := H
         (try dsimp only at H)
         have A40 := am A400
         clear A400
         by_cases c41 : t237 < 0
         ·rw [if_pos c41] at H
          exact absurd H (by simp)
         ·rw [if_neg c41] at H
          have c41b0 : decide (t237 < 0) = false := decide_eq_false c41
          clear c41
          by_cases c42 : t237 = t235
          ·rw [if_pos c42] at H
           have c42b0 : (t237 == t235) = true := beq_iff_eq.mpr c42
           have c42b1 : (t237 != t235) = false := bne_eq_false_iff_eq.mpr c42
           clear c42
           replace H := Option.bind_eq_some_iff.mp H
           obtain ⟨⟨t238, t239⟩, A430, H⟩ := H
           (try dsimp only at H)
           have A43 := am A430
           clear A430
           replace H := Option.bind_eq_some_iff.mp H
           obtain ⟨⟨t242, t243⟩, A440, H⟩ := H
           (try dsimp only at H)
           have A44 := am A440
           clear A440
           replace H := Option.bind_eq_some_iff.mp H
           obtain ⟨⟨t246, t247, t250⟩, A450, H⟩ := H
           (try dsimp only at H)
           have A45 := am A450
           clear A450
           replace H := Option.bind_eq_some_iff.mp H
           obtain ⟨t252, A460, H⟩ := H
           (try dsimp only at H)
           have A46 := am A460
           clear A460
           by_cases c47 : t252 = true
           ·subst c47
            have H1 : (if (t250 != t201) = true then (none) else ((laws_heldMatrix.f k t213 t236 1).bind fun t253 => (if t253 < 0 then (none) else (if t253 = t235 then (some true) else (none))))) = some r := by rw [if_pos rfl] at H; exact H
            clear H
            have H := H1
            clear H1
            by_cases c48 : (t250 != t201) = true
            ·rw [if_pos c48] at H
             exact absurd H (by simp)
            ·rw [if_neg c48] at H
             have c48b0 : (t250 != t201) = false := by simpa using c48
             (try (have c48b1 : decide (t250 = t201) = true := by simpa using c48))
             (try (have c48b2 : (t250 == t201) = true := by simpa using c48))
             clear c48
             replace H := Option.bind_eq_some_iff.mp H
             obtain ⟨t253, A490, H⟩ := H
             (try dsimp only at H)
             have A49 := am A490
             clear A490
             by_cases c50 : t253 < 0
             ·rw [if_pos c50] at H
              exact absurd H (by simp)
             ·rw [if_neg c50] at H
              have c50b0 : decide (t253 < 0) = false := decide_eq_false c50
              clear c50
              by_cases c51 : t253 = t235
              ·rw [if_pos c51] at H
               have c51b0 : (t253 == t235) = true := beq_iff_eq.mpr c51
               have c51b1 : (t253 != t235) = false := bne_eq_false_iff_eq.mpr c51
               clear c51
               obtain rfl := Option.some.inj H
               go_enter Try.func6, Try.ntmps6
               try go_wp2_with (first | ((with_reducible refine gate_dst (N := 2) rfl ?_); refine box_event ?hg (N := 2) ?hd (cs := #[.int .i64 a0_0, .slice A0_1 l0_1.length c0_1]) (t := 24) ?hr ?_; (case hd => rfl); (case hg => rfl); (case hr => first | (go_simp; done) | (go_simp; rfl)); intro gb185 hg w52 hbox hb; have n0_ := am (below_step (bz HB.out) hb); have n1_ := am (hbox); have n2_ := am ((by rw [hg]; exact (below_size (bz HB.out)) : w.heap.size ≤ gb185)); have n3_ := am ((by rw [hg]; exact (below_size (bz HB.out)) : w.heap.size ≤ gb185)); clear HB; revert n0_ n1_ n2_ n3_; intro HB BK185 GW185 GE185; clear hb hbox hg) | ((with_reducible refine gate_dst (N := 3) rfl ?_); refine box_event ?hg (N := 3) ?hd (cs := #[.int .i64 a1_0, .slice A1_1 l1_1.length c1_1]) (t := 24) ?hr ?_; (case hd => rfl); (case hg => rfl); (case hr => first | (go_simp; done) | (go_simp; rfl)); intro gb186 hg w53 hbox hb; have n0_ := bk BK185 hb; have n1_ := am (below_step (bw HB.out) hb); have n2_ := am (hbox); have n3_ := am ((by rw [hg]; exact (below_size (bw HB.out)) : w.heap.size ≤ gb186)); have n4_ := am ((by rw [hg]; exact (below_size (bw HB.out)) : w.heap.size ≤ gb186)); have n5_ := am ((by rw [hg]; exact Nat.ne_of_lt (blk_lt (kz BK185.out)) : gb185 ≠ gb186)); have n6_ := am ((by rw [hg]; exact Nat.ne_of_gt (blk_lt (kz BK185.out)) : gb186 ≠ gb185)); clear BK185 HB; revert n0_ n1_ n2_ n3_ n4_ n5_ n6_; intro BK185 HB BK186 GW186 GE186 NB185_186 NB186_185; clear hb hbox hg; have hnb54 := NB185_186.out; have hnc54 := NB186_185.out; have hcz55_0 := cz20 BK185.out; have hcz55_1 := cz21 BK185.out; have hfz55_0 := blk_frozen BK185.out 0; have hfz55_1 := blk_frozen BK185.out 1) | ((with_reducible refine gate_callee (f := 14) rfl ?_); refine goesL_ (some 19) rfl rfl Try.func14 (by kernel_rfl) rfl #[.agg #[.int .i64 a0_0, .slice A0_1 l0_1.length c0_1], .int .i64 1048576] rfl (by (try simp only [List.map_toArray, List.map_cons, List.map_nil]); first | done | rfl | (simp only [List.length_drop, List.length_take]; rfl)) ?_; (with_reducible refine (laws_szMatrix.calls a0_0 _ _ l0_1 1048576 t187 _ ?side1 ?side2 A3.out).mono ?_); (case side1 => repeat (first | exact (Kd.C_below HR0_1.out HB.out) | (with_reducible refine Kd.C_alloc ?_ _) | (with_reducible refine Kd.C_drewN ?_ _) | (with_reducible refine Kd.C_drew ?_))); (case side2 => exact HC0_1.out); rintro e w56 ⟨rfl, hb⟩; refine ⟨_, rfl, ?_⟩; have n0_ := bk BK185 hb; have n1_ := bk BK186 hb; have n2_ := am (below_step (bw HB.out) hb); clear BK185 BK186 HB; revert n0_ n1_ n2_; intro BK185 BK186 HB; (try clear hb); (try clear hb2); (try clear hk); (try clear hi); have hcz57_0 := cz20 BK186.out; have hcz57_1 := cz21 BK186.out; have hfz57_0 := blk_frozen BK186.out 0; have hfz57_1 := blk_frozen BK186.out 1) | ((with_reducible refine gate_callee (f := 14) rfl ?_); refine goesL_ (some 24) rfl rfl Try.func14 (by kernel_rfl) rfl #[.agg #[.int .i64 a1_0, .slice A1_1 l1_1.length c1_1], .int .i64 t187] rfl (by (try simp only [List.map_toArray, List.map_cons, List.map_nil]); first | done | rfl | (simp only [List.length_drop, List.length_take]; rfl)) ?_; (with_reducible refine (laws_szMatrix.calls a1_0 _ _ l1_1 t187 t188 _ ?side1 ?side2 A10.out).mono ?_); (case side1 => repeat (first | exact (Kd.C_below HR1_1.out HB.out) | (with_reducible refine Kd.C_alloc ?_ _) | (with_reducible refine Kd.C_drewN ?_ _) | (with_reducible refine Kd.C_drew ?_))); (case side2 => exact HC1_1.out); rintro e w58 ⟨rfl, hb⟩; refine ⟨_, rfl, ?_⟩; have n0_ := bk BK185 hb; have n1_ := bk BK186 hb; have n2_ := am (below_step (bw HB.out) hb); clear BK185 BK186 HB; revert n0_ n1_ n2_; intro BK185 BK186 HB; (try clear hb); (try clear hb2); (try clear hk); (try clear hi)))
               have n0_ := am (blk_drew BK185.out)
               have n1_ := am (blk_drew BK186.out)
               have n2_ := am (below_drew1 HB.out)
               clear BK185 BK186 HB
               revert n0_ n1_ n2_; intro BK185 BK186 HB
               refine start_ (n := 11) (S := fun w' => w'.cell? ⟨gb185, 0, none⟩ = some (.int .i64 a0_0) ∧ w'.cell? ⟨gb185, 1, none⟩ = some (.slice A0_1 l0_1.length c0_1) ∧ w'.cell? ⟨gb186, 0, none⟩ = some (.int .i64 a1_0) ∧ w'.cell? ⟨gb186, 1, none⟩ = some (.slice A1_1 l1_1.length c1_1)) (ds := []) (mk 11 0) (by kernel_rfl) rfl rfl ⟨(blk_cell BK185.out 0).trans rfl, (blk_cell BK185.out 1).trans rfl, (blk_cell BK186.out 0).trans rfl, (blk_cell BK186.out 1).trans rfl⟩ (fun hHeld => ?_); refine with_tabW laws_FnExactMinMatrix.tab8 laws_FnExactMinMatrix.bits8 (fun HT_ HW_ => ?_)
               generalize w58.drew = w59 at BK185 BK186 HB hHeld ⊢
               refine take_ (i := 0) (N := some 28) (v := ?_) (a' := ?_) (mk 11 1) rfl rfl (take_ofW HT_.out HW_.out (by kernel_rfl)) (fun _ _ _ h => h) (Or.inl ⟨by rfl, ?_⟩) hHeld ?_ ?_
               rotate_left
               ·rintro w' ⟨s0, s1, s2, s3⟩
                go_simp
                with_reducible rfl
               rotate_left
               ·simp only [Act.put, List.setIfInBounds_toArray, List.set_cons_zero, List.set_cons_succ, i64_w, i32_w]
                rfl
               refine take_ (i := 2) (N := some 30) (v := ?_) (a' := ?_) (mk 11 5) rfl rfl (take_ofW HT_.out HW_.out (by kernel_rfl)) (fun _ _ _ h => h) (Or.inl ⟨by rfl, ?_⟩) hHeld ?_ ?_
               rotate_left
               ·rintro w' ⟨s0, s1, s2, s3⟩
                go_simp
                with_reducible rfl
               rotate_left
               ·simp only [Act.put, List.setIfInBounds_toArray, List.set_cons_zero, List.set_cons_succ, i64_w, i32_w]
                rfl
               refine join_ (σ := Value × Value × Value × Nat) 2 (mk 11 511) (fun s_ => [(29, .agg #[.int .i64 t189, s_.1]), (31, .agg #[.int .i64 t193, s_.2.1]), (32, .tuple #[.agg #[.int .i64 t197, s_.2.2.1], .bool t201]), (6, .pointer (some ⟨s_.2.2.2, 0, none⟩)), (27, .tuple #[.agg #[.int .i64 t197, s_.2.2.1], .bool t201]), (33, .agg #[.int .i64 t197, s_.2.2.1]), (34, .bool t201)]) (fun s_ w' => (w'.cell? ⟨gb185, 0, none⟩ = some (.int .i64 a0_0) ∧ w'.cell? ⟨gb185, 1, none⟩ = some (.slice A0_1 l0_1.length c0_1) ∧ w'.cell? ⟨gb186, 0, none⟩ = some (.int .i64 a1_0) ∧ w'.cell? ⟨gb186, 1, none⟩ = some (.slice A1_1 l1_1.length c1_1)) ∧ (Kd.R (Kd.int .i64) 3 w' w.heap.size (fun k_ => some k_ ≠ (s_.2.1 : Value).ownBlock ∧ some k_ ≠ (s_.2.2.1 : Value).ownBlock) s_.1 t190) ∧ (Kd.R (Kd.int .i64) 3 w' w.heap.size (fun k_ => some k_ ≠ (s_.1 : Value).ownBlock ∧ some k_ ≠ (s_.2.2.1 : Value).ownBlock) s_.2.1 t194) ∧ (Kd.R (Kd.int .i64) 3 w' w.heap.size (fun k_ => some k_ ≠ (s_.1 : Value).ownBlock ∧ some k_ ≠ (s_.2.1 : Value).ownBlock) s_.2.2.1 t198) ∧ (w'.heap[gb185]? = some (.cells #[.int .i64 a0_0, .slice A0_1 l0_1.length c0_1] 24 (0, 0))) ∧ (w'.heap[gb186]? = some (.cells #[.int .i64 a1_0, .slice A1_1 l1_1.length c1_1] 24 (0, 0))) ∧ (w'.heap[s_.2.2.2]? = some (.cells #[.int .i64 0, .slice none 0 0] 27 (0, 0))) ∧ (w.heap.size ≤ s_.2.2.2) ∧ (w.heap.size ≤ s_.2.2.2) ∧ (gb185 ≠ s_.2.2.2) ∧ (s_.2.2.2 ≠ gb185) ∧ (gb186 ≠ s_.2.2.2) ∧ (s_.2.2.2 ≠ gb186) ∧ (Below w.heap.size w w')) ?_ ?_
               rotate_left
               ·intro hCont
                refine two_ (i := 1) (j := 8) (Ni := some 29) (Nj := some 6) (mk 11 7) (mk 11 261) rfl rfl rfl rfl (two_of HT_.out (by kernel_rfl)) (by decide) (by decide) (fun K hK => ?_) (fun K hK => ?_)
                ·skip
                 refine goes_ Try.func16 (by kernel_rfl) rfl #[.agg #[.int .i64 a0_0, .slice A0_1 l0_1.length c0_1]] (by rfl) rfl rfl (by (try simp only [List.map_toArray, List.map_cons, List.map_nil]); first | done | rfl | (simp only [List.length_drop, List.length_take]; rfl)) ?_
                 with_reducible refine (laws_toMatrix.calls k a0_0 _ _ l0_1 t189 t190 _ ?side1 ?side2 A19.out).mono ?_
                 (case side1 => repeat (first | exact (Kd.C_below HR0_1.out HB.out) | (with_reducible refine Kd.C_alloc ?_ _) | (with_reducible refine Kd.C_drewN ?_ _) | (with_reducible refine Kd.C_drew ?_)))
                 (case side2 => exact HC0_1.out)
                 rintro e w60 ⟨v191, rfl, ho0, hb⟩
                 refine ⟨_, rfl, ?_⟩
                 have n0_ := am (Kd.R_lower ho0 (below_size (bw HB.out)))
                 have n1_ := bk BK185 hb
                 have n2_ := bk BK186 hb
                 have n3_ := am (below_step (bw HB.out) hb)
                 clear BK185 BK186 HB
                 revert n0_ n1_ n2_ n3_; intro HO192 BK185 BK186 HB
                 (try clear hb)
                 (try clear hb2)
                 (try clear hk)
                 (try clear hi)
                 (try clear ho0)
                 refine hK.out _ _ ⟨(blk_cell BK185.out 0).trans rfl, (blk_cell BK185.out 1).trans rfl, (blk_cell BK186.out 0).trans rfl, (blk_cell BK186.out 1).trans rfl⟩ (fun hHeld => ?_)
                 clear hK K
                 refine norm_ (a' := ?_) ?_ ?_
                 rotate_left
                 ·show Act.put _ (some 29) _ = _
                  simp only [Act.put, List.setIfInBounds_toArray, List.set_cons_zero, List.set_cons_succ, i64_w, i32_w]
                  rfl
                 refine two_ (i := 3) (j := 8) (Ni := some 31) (Nj := some 6) (mk 11 15) (mk 11 263) rfl rfl rfl rfl (two_of HT_.out (by kernel_rfl)) (by decide) (by decide) (fun K hK => ?_) (fun K hK => ?_)
                 ·skip
                  refine goes_ Try.func16 (by kernel_rfl) rfl #[.agg #[.int .i64 a1_0, .slice A1_1 l1_1.length c1_1]] (by rfl) rfl rfl (by (try simp only [List.map_toArray, List.map_cons, List.map_nil]); first | done | rfl | (simp only [List.length_drop, List.length_take]; rfl)) ?_
                  with_reducible refine (laws_toMatrix.calls k a1_0 _ _ l1_1 t193 t194 _ ?side1 ?side2 A20.out).mono ?_
                  (case side1 => repeat (first | exact (Kd.C_below HR1_1.out HB.out) | (with_reducible refine Kd.C_alloc ?_ _) | (with_reducible refine Kd.C_drewN ?_ _) | (with_reducible refine Kd.C_drew ?_)))
                  (case side2 => exact HC1_1.out)
                  rintro e w61 ⟨v195, rfl, ho0, hb⟩
                  refine ⟨_, rfl, ?_⟩
                  have n0_ := el HO192 (Kd.R_base ho0) hb
                  have n1_ := am (Kd.R_lower (Kd.R_new' ho0 (Kd.R_lt (rz HO192.out))) (below_size (bw HB.out)))
                  have n2_ := bk BK185 hb
                  have n3_ := bk BK186 hb
                  have n4_ := am (below_step (bw HB.out) hb)
                  clear HO192 BK185 BK186 HB
                  revert n0_ n1_ n2_ n3_ n4_; intro HO192 HO196 BK185 BK186 HB
                  (try clear hb)
                  (try clear hb2)
                  (try clear hk)
                  (try clear hi)
                  (try clear ho0)
                  obtain ⟨Ao62, co62, eo62⟩ := Kd.R_slice HO192.out
                  (first | subst eo62 | (injection eo62 with f1_ f2_ f3_; have f4_ := f1_.symm; have f5_ := f3_.symm; clear f1_ f2_ f3_; subst f4_; subst f5_))
                  obtain ⟨Ao63, co63, eo63⟩ := Kd.R_slice HO196.out
                  (first | subst eo63 | (injection eo63 with f1_ f2_ f3_; have f4_ := f1_.symm; have f5_ := f3_.symm; clear f1_ f2_ f3_; subst f4_; subst f5_))
                  refine hK.out _ _ ⟨(blk_cell BK185.out 0).trans rfl, (blk_cell BK185.out 1).trans rfl, (blk_cell BK186.out 0).trans rfl, (blk_cell BK186.out 1).trans rfl⟩ (fun hHeld => ?_)
                  clear hK K
                  refine norm_ (a' := ?_) ?_ ?_
                  rotate_left
                  ·show Act.put _ (some 31) _ = _
                   simp only [Act.put, List.setIfInBounds_toArray, List.set_cons_zero, List.set_cons_succ, i64_w, i32_w]
                   rfl
                  refine two_ (i := 4) (j := 8) (Ni := some 32) (Nj := some 6) (mk 11 31) (mk 11 271) rfl rfl rfl rfl (two_of HT_.out (by kernel_rfl)) (by decide) (by decide) (fun K hK => ?_) (fun K hK => ?_)
                  ·skip
                   refine goes_ Try.func25 (by kernel_rfl) rfl #[.agg #[.int .i64 t189, .slice Ao62 t190.length co62], .agg #[.int .i64 t193, .slice Ao63 t194.length co63]] (by rfl) rfl rfl (by (try simp only [List.map_toArray, List.map_cons, List.map_nil]); first | done | rfl | (simp only [List.length_drop, List.length_take]; rfl)) ?_
                   with_reducible refine (spec_MinMatrix.calls k t189 _ _ t190 t193 _ _ t194 t197 t198 t201 _ ?side1 ?side2 ?side3 ?side4 A21.out).mono ?_
                   (case side1 => repeat (first | exact (Kd.R_reads' HO192.out).2.2 | (with_reducible refine Kd.C_alloc ?_ _) | (with_reducible refine Kd.C_drewN ?_ _) | (with_reducible refine Kd.C_drew ?_)))
                   (case side2 => exact (Kd.R_reads' HO192.out).2.1)
                   (case side3 => repeat (first | exact (Kd.R_reads' HO196.out).2.2 | (with_reducible refine Kd.C_alloc ?_ _) | (with_reducible refine Kd.C_drewN ?_ _) | (with_reducible refine Kd.C_drew ?_)))
                   (case side4 => exact (Kd.R_reads' HO196.out).2.1)
                   rintro e w64 ⟨v199, rfl, ho0, hb⟩
                   refine ⟨_, rfl, ?_⟩
                   have n0_ := el HO192 (Kd.R_base ho0) hb
                   have n1_ := el HO196 (Kd.R_base ho0) hb
                   have n2_ := am (Kd.R_lower (Kd.R_new' (Kd.R_new' ho0 (Kd.R_lt (rz HO192.out))) (Kd.R_lt (rz HO196.out))) (below_size (bw HB.out)))
                   have n3_ := bk BK185 hb
                   have n4_ := bk BK186 hb
                   have n5_ := am (below_step (bw HB.out) hb)
                   clear HO192 HO196 BK185 BK186 HB
                   revert n0_ n1_ n2_ n3_ n4_ n5_; intro HO192 HO196 HO200 BK185 BK186 HB
                   (try clear hb)
                   (try clear hb2)
                   (try clear hk)
                   (try clear hi)
                   (try clear ho0)
                   refine hK.out _ _ ⟨(blk_cell BK185.out 0).trans rfl, (blk_cell BK185.out 1).trans rfl, (blk_cell BK186.out 0).trans rfl, (blk_cell BK186.out 1).trans rfl⟩ (fun hHeld => ?_)
                   clear hK K
                   refine norm_ (a' := ?_) ?_ ?_
                   rotate_left
                   ·show Act.put _ (some 32) _ = _
                    simp only [Act.put, List.setIfInBounds_toArray, List.set_cons_zero, List.set_cons_succ, i64_w, i32_w]
                    rfl
                   refine pv 5 27 11 63 HT_ ?_
                   refine pv 6 33 11 127 HT_ ?_
                   refine pv 7 34 11 255 HT_ ?_
                   refine one_ (i := 8) (N := some 6) (mk 11 511) rfl rfl (one_of HT_.out (by kernel_rfl)) (by decide) (fun K hK => ?_)
                   refine box_step ?hg (N := 6) ?hd (cs := #[.int .i64 0, .slice none 0 0]) (t := 27) ?hr ?_; (case hd => rfl); (case hg => rfl); (case hr => first | (go_simp; done) | (go_simp; rfl))
                   intro gb202 hg w65 hbox hb
                   have n0_ := am (Kd.R_below (rz HO192.out) hb)
                   have n1_ := am (Kd.R_below (rz HO196.out) hb)
                   have n2_ := am (Kd.R_below (rz HO200.out) hb)
                   have n3_ := bk BK185 hb
                   have n4_ := bk BK186 hb
                   have n5_ := am (below_step (bw HB.out) hb)
                   have n6_ := am (hbox)
                   have n7_ := am ((by rw [hg]; exact (below_size (bw HB.out)) : w.heap.size ≤ gb202))
                   have n8_ := am ((by rw [hg]; exact (below_size (bw HB.out)) : w.heap.size ≤ gb202))
                   have n9_ := am ((by rw [hg]; exact Nat.ne_of_lt (blk_lt (kz BK185.out)) : gb185 ≠ gb202))
                   have n10_ := am ((by rw [hg]; exact Nat.ne_of_gt (blk_lt (kz BK185.out)) : gb202 ≠ gb185))
                   have n11_ := am ((by rw [hg]; exact Nat.ne_of_lt (blk_lt (kz BK186.out)) : gb186 ≠ gb202))
                   have n12_ := am ((by rw [hg]; exact Nat.ne_of_gt (blk_lt (kz BK186.out)) : gb202 ≠ gb186))
                   clear HO192 HO196 HO200 BK185 BK186 HB
                   revert n0_ n1_ n2_ n3_ n4_ n5_ n6_ n7_ n8_ n9_ n10_ n11_ n12_; intro HO192 HO196 HO200 BK185 BK186 HB BK202 GW202 GE202 NB185_202 NB202_185 NB186_202 NB202_186; clear hb hbox hg
                   refine hK.out _ _ ⟨(blk_cell BK185.out 0).trans rfl, (blk_cell BK185.out 1).trans rfl, (blk_cell BK186.out 0).trans rfl, (blk_cell BK186.out 1).trans rfl⟩ (fun hHeld => ?_)
                   clear hK K
                   refine norm_ (a' := ?_) ?_ ?_
                   rotate_left
                   ·show Act.put _ (some 6) _ = _
                    simp only [Act.put, List.setIfInBounds_toArray, List.set_cons_zero, List.set_cons_succ, i64_w, i32_w]
                    rfl
                   exact norm_ (by simp only [putAll, Act.put, List.setIfInBounds_toArray, List.set_cons_zero, List.set_cons_succ]) (hCont (.slice Ao62 t190.length co62, .slice Ao63 t194.length co63, v199, gb202) _ ⟨hHeld, (by (with_reducible repeat (first | apply ra | apply rn | apply rw_)); exact Kd.R_mono HO192.out (fun _ hk => ⟨hk.1.2, hk.2⟩)), (by (with_reducible repeat (first | apply ra | apply rn | apply rw_)); exact Kd.R_mono HO196.out (fun _ hk => ⟨hk.1.2, hk.2⟩)), (by (with_reducible repeat (first | apply ra | apply rn | apply rw_)); exact Kd.R_mono HO200.out (fun _ hk => ⟨hk.1.2, hk.2⟩)), (kz BK185.out), (kz BK186.out), (kz BK202.out), GW202.out, GE202.out, NB185_202.out, NB202_185.out, NB186_202.out, NB202_186.out, (bw HB.out)⟩)
                  ·skip
                   refine box_step ?hg (N := 6) ?hd (cs := #[.int .i64 0, .slice none 0 0]) (t := 27) ?hr ?_; (case hd => rfl); (case hg => rfl); (case hr => first | (go_simp; done) | (go_simp; rfl))
                   intro gb202 hg w62 hbox hb
                   have n0_ := am (Kd.R_below (rz HO192.out) hb)
                   have n1_ := am (Kd.R_below (rz HO196.out) hb)
                   have n2_ := bk BK185 hb
                   have n3_ := bk BK186 hb
                   have n4_ := am (below_step (bw HB.out) hb)
                   have n5_ := am (hbox)
                   have n6_ := am ((by rw [hg]; exact (below_size (bw HB.out)) : w.heap.size ≤ gb202))
                   have n7_ := am ((by rw [hg]; exact (below_size (bw HB.out)) : w.heap.size ≤ gb202))
                   have n8_ := am ((by rw [hg]; exact Nat.ne_of_lt (blk_lt (kz BK185.out)) : gb185 ≠ gb202))
                   have n9_ := am ((by rw [hg]; exact Nat.ne_of_gt (blk_lt (kz BK185.out)) : gb202 ≠ gb185))
                   have n10_ := am ((by rw [hg]; exact Nat.ne_of_lt (blk_lt (kz BK186.out)) : gb186 ≠ gb202))
                   have n11_ := am ((by rw [hg]; exact Nat.ne_of_gt (blk_lt (kz BK186.out)) : gb202 ≠ gb186))
                   clear HO192 HO196 BK185 BK186 HB
                   revert n0_ n1_ n2_ n3_ n4_ n5_ n6_ n7_ n8_ n9_ n10_ n11_; intro HO192 HO196 BK185 BK186 HB BK202 GW202 GE202 NB185_202 NB202_185 NB186_202 NB202_186; clear hb hbox hg
                   obtain ⟨Ao63, co63, eo63⟩ := Kd.R_slice HO192.out
                   (first | subst eo63 | (injection eo63 with f1_ f2_ f3_; have f4_ := f1_.symm; have f5_ := f3_.symm; clear f1_ f2_ f3_; subst f4_; subst f5_))
                   obtain ⟨Ao64, co64, eo64⟩ := Kd.R_slice HO196.out
                   (first | subst eo64 | (injection eo64 with f1_ f2_ f3_; have f4_ := f1_.symm; have f5_ := f3_.symm; clear f1_ f2_ f3_; subst f4_; subst f5_))
                   refine hK.out _ _ ⟨(blk_cell BK185.out 0).trans rfl, (blk_cell BK185.out 1).trans rfl, (blk_cell BK186.out 0).trans rfl, (blk_cell BK186.out 1).trans rfl⟩ (fun hHeld => ?_)
                   clear hK K
                   refine norm_ (a' := ?_) ?_ ?_
                   rotate_left
                   ·show Act.put _ (some 6) _ = _
                    simp only [Act.put, List.setIfInBounds_toArray, List.set_cons_zero, List.set_cons_succ, i64_w, i32_w]
                    rfl
                   refine one_ (i := 4) (N := some 32) (mk 11 287) rfl rfl (one_of HT_.out (by kernel_rfl)) (by decide) (fun K hK => ?_)
                   refine goes_ Try.func25 (by kernel_rfl) rfl #[.agg #[.int .i64 t189, .slice Ao63 t190.length co63], .agg #[.int .i64 t193, .slice Ao64 t194.length co64]] (by rfl) rfl rfl (by (try simp only [List.map_toArray, List.map_cons, List.map_nil]); first | done | rfl | (simp only [List.length_drop, List.length_take]; rfl)) ?_
                   with_reducible refine (spec_MinMatrix.calls k t189 _ _ t190 t193 _ _ t194 t197 t198 t201 _ ?side1 ?side2 ?side3 ?side4 A21.out).mono ?_
                   (case side1 => repeat (first | exact (Kd.R_reads' HO192.out).2.2 | (with_reducible refine Kd.C_alloc ?_ _) | (with_reducible refine Kd.C_drewN ?_ _) | (with_reducible refine Kd.C_drew ?_)))
                   (case side2 => exact (Kd.R_reads' HO192.out).2.1)
                   (case side3 => repeat (first | exact (Kd.R_reads' HO196.out).2.2 | (with_reducible refine Kd.C_alloc ?_ _) | (with_reducible refine Kd.C_drewN ?_ _) | (with_reducible refine Kd.C_drew ?_)))
                   (case side4 => exact (Kd.R_reads' HO196.out).2.1)
                   rintro e w65 ⟨v199, rfl, ho0, hb⟩
                   refine ⟨_, rfl, ?_⟩
                   have n0_ := el HO192 (Kd.R_base ho0) hb
                   have n1_ := el HO196 (Kd.R_base ho0) hb
                   have n2_ := am (Kd.R_lower (Kd.R_new' (Kd.R_new' ho0 (Kd.R_lt (rz HO192.out))) (Kd.R_lt (rz HO196.out))) (below_size (bw HB.out)))
                   have n3_ := bk BK185 hb
                   have n4_ := bk BK186 hb
                   have n5_ := bk BK202 hb
                   have n6_ := am (below_step (bw HB.out) hb)
                   clear HO192 HO196 BK185 BK186 BK202 HB
                   revert n0_ n1_ n2_ n3_ n4_ n5_ n6_; intro HO192 HO196 HO200 BK185 BK186 BK202 HB
                   (try clear hb)
                   (try clear hb2)
                   (try clear hk)
                   (try clear hi)
                   (try clear ho0)
                   refine hK.out _ _ ⟨(blk_cell BK185.out 0).trans rfl, (blk_cell BK185.out 1).trans rfl, (blk_cell BK186.out 0).trans rfl, (blk_cell BK186.out 1).trans rfl⟩ (fun hHeld => ?_)
                   clear hK K
                   refine norm_ (a' := ?_) ?_ ?_
                   rotate_left
                   ·show Act.put _ (some 32) _ = _
                    simp only [Act.put, List.setIfInBounds_toArray, List.set_cons_zero, List.set_cons_succ, i64_w, i32_w]
                    rfl
                   refine pv 5 27 11 319 HT_ ?_
                   refine pv 6 33 11 383 HT_ ?_
                   refine pv 7 34 11 511 HT_ ?_
                   exact norm_ (by simp only [putAll, Act.put, List.setIfInBounds_toArray, List.set_cons_zero, List.set_cons_succ]) (hCont (.slice Ao63 t190.length co63, .slice Ao64 t194.length co64, v199, gb202) _ ⟨hHeld, (by (with_reducible repeat (first | apply ra | apply rn | apply rw_)); exact Kd.R_mono HO192.out (fun _ hk => ⟨hk.1.2, hk.2⟩)), (by (with_reducible repeat (first | apply ra | apply rn | apply rw_)); exact Kd.R_mono HO196.out (fun _ hk => ⟨hk.1.2, hk.2⟩)), (by (with_reducible repeat (first | apply ra | apply rn | apply rw_)); exact Kd.R_mono HO200.out (fun _ hk => ⟨hk.1.2, hk.2⟩)), (kz BK185.out), (kz BK186.out), (kz BK202.out), GW202.out, GE202.out, NB185_202.out, NB202_185.out, NB186_202.out, NB202_186.out, (bw HB.out)⟩)
                 ·skip
                  refine box_step ?hg (N := 6) ?hd (cs := #[.int .i64 0, .slice none 0 0]) (t := 27) ?hr ?_; (case hd => rfl); (case hg => rfl); (case hr => first | (go_simp; done) | (go_simp; rfl))
                  intro gb202 hg w61 hbox hb
                  have n0_ := am (Kd.R_below (rz HO192.out) hb)
                  have n1_ := bk BK185 hb
                  have n2_ := bk BK186 hb
                  have n3_ := am (below_step (bw HB.out) hb)
                  have n4_ := am (hbox)
                  have n5_ := am ((by rw [hg]; exact (below_size (bw HB.out)) : w.heap.size ≤ gb202))
                  have n6_ := am ((by rw [hg]; exact (below_size (bw HB.out)) : w.heap.size ≤ gb202))
                  have n7_ := am ((by rw [hg]; exact Nat.ne_of_lt (blk_lt (kz BK185.out)) : gb185 ≠ gb202))
                  have n8_ := am ((by rw [hg]; exact Nat.ne_of_gt (blk_lt (kz BK185.out)) : gb202 ≠ gb185))
                  have n9_ := am ((by rw [hg]; exact Nat.ne_of_lt (blk_lt (kz BK186.out)) : gb186 ≠ gb202))
                  have n10_ := am ((by rw [hg]; exact Nat.ne_of_gt (blk_lt (kz BK186.out)) : gb202 ≠ gb186))
                  clear HO192 BK185 BK186 HB
                  revert n0_ n1_ n2_ n3_ n4_ n5_ n6_ n7_ n8_ n9_ n10_; intro HO192 BK185 BK186 HB BK202 GW202 GE202 NB185_202 NB202_185 NB186_202 NB202_186; clear hb hbox hg
                  refine hK.out _ _ ⟨(blk_cell BK185.out 0).trans rfl, (blk_cell BK185.out 1).trans rfl, (blk_cell BK186.out 0).trans rfl, (blk_cell BK186.out 1).trans rfl⟩ (fun hHeld => ?_)
                  clear hK K
                  refine norm_ (a' := ?_) ?_ ?_
                  rotate_left
                  ·show Act.put _ (some 6) _ = _
                   simp only [Act.put, List.setIfInBounds_toArray, List.set_cons_zero, List.set_cons_succ, i64_w, i32_w]
                   rfl
                  refine one_ (i := 3) (N := some 31) (mk 11 271) rfl rfl (one_of HT_.out (by kernel_rfl)) (by decide) (fun K hK => ?_)
                  refine goes_ Try.func16 (by kernel_rfl) rfl #[.agg #[.int .i64 a1_0, .slice A1_1 l1_1.length c1_1]] (by rfl) rfl rfl (by (try simp only [List.map_toArray, List.map_cons, List.map_nil]); first | done | rfl | (simp only [List.length_drop, List.length_take]; rfl)) ?_
                  with_reducible refine (laws_toMatrix.calls k a1_0 _ _ l1_1 t193 t194 _ ?side1 ?side2 A20.out).mono ?_
                  (case side1 => repeat (first | exact (Kd.C_below HR1_1.out HB.out) | (with_reducible refine Kd.C_alloc ?_ _) | (with_reducible refine Kd.C_drewN ?_ _) | (with_reducible refine Kd.C_drew ?_)))
                  (case side2 => exact HC1_1.out)
                  rintro e w62 ⟨v195, rfl, ho0, hb⟩
                  refine ⟨_, rfl, ?_⟩
                  have n0_ := el HO192 (Kd.R_base ho0) hb
                  have n1_ := am (Kd.R_lower (Kd.R_new' ho0 (Kd.R_lt (rz HO192.out))) (below_size (bw HB.out)))
                  have n2_ := bk BK185 hb
                  have n3_ := bk BK186 hb
                  have n4_ := bk BK202 hb
                  have n5_ := am (below_step (bw HB.out) hb)
                  clear HO192 BK185 BK186 BK202 HB
                  revert n0_ n1_ n2_ n3_ n4_ n5_; intro HO192 HO196 BK185 BK186 BK202 HB
                  (try clear hb)
                  (try clear hb2)
                  (try clear hk)
                  (try clear hi)
                  (try clear ho0)
                  obtain ⟨Ao63, co63, eo63⟩ := Kd.R_slice HO192.out
                  (first | subst eo63 | (injection eo63 with f1_ f2_ f3_; have f4_ := f1_.symm; have f5_ := f3_.symm; clear f1_ f2_ f3_; subst f4_; subst f5_))
                  obtain ⟨Ao64, co64, eo64⟩ := Kd.R_slice HO196.out
                  (first | subst eo64 | (injection eo64 with f1_ f2_ f3_; have f4_ := f1_.symm; have f5_ := f3_.symm; clear f1_ f2_ f3_; subst f4_; subst f5_))
                  refine hK.out _ _ ⟨(blk_cell BK185.out 0).trans rfl, (blk_cell BK185.out 1).trans rfl, (blk_cell BK186.out 0).trans rfl, (blk_cell BK186.out 1).trans rfl⟩ (fun hHeld => ?_)
                  clear hK K
                  refine norm_ (a' := ?_) ?_ ?_
                  rotate_left
                  ·show Act.put _ (some 31) _ = _
                   simp only [Act.put, List.setIfInBounds_toArray, List.set_cons_zero, List.set_cons_succ, i64_w, i32_w]
                   rfl
                  refine one_ (i := 4) (N := some 32) (mk 11 287) rfl rfl (one_of HT_.out (by kernel_rfl)) (by decide) (fun K hK => ?_)
                  refine goes_ Try.func25 (by kernel_rfl) rfl #[.agg #[.int .i64 t189, .slice Ao63 t190.length co63], .agg #[.int .i64 t193, .slice Ao64 t194.length co64]] (by rfl) rfl rfl (by (try simp only [List.map_toArray, List.map_cons, List.map_nil]); first | done | rfl | (simp only [List.length_drop, List.length_take]; rfl)) ?_
                  with_reducible refine (spec_MinMatrix.calls k t189 _ _ t190 t193 _ _ t194 t197 t198 t201 _ ?side1 ?side2 ?side3 ?side4 A21.out).mono ?_
                  (case side1 => repeat (first | exact (Kd.R_reads' HO192.out).2.2 | (with_reducible refine Kd.C_alloc ?_ _) | (with_reducible refine Kd.C_drewN ?_ _) | (with_reducible refine Kd.C_drew ?_)))
                  (case side2 => exact (Kd.R_reads' HO192.out).2.1)
                  (case side3 => repeat (first | exact (Kd.R_reads' HO196.out).2.2 | (with_reducible refine Kd.C_alloc ?_ _) | (with_reducible refine Kd.C_drewN ?_ _) | (with_reducible refine Kd.C_drew ?_)))
                  (case side4 => exact (Kd.R_reads' HO196.out).2.1)
                  rintro e w65 ⟨v199, rfl, ho0, hb⟩
                  refine ⟨_, rfl, ?_⟩
                  have n0_ := el HO192 (Kd.R_base ho0) hb
                  have n1_ := el HO196 (Kd.R_base ho0) hb
                  have n2_ := am (Kd.R_lower (Kd.R_new' (Kd.R_new' ho0 (Kd.R_lt (rz HO192.out))) (Kd.R_lt (rz HO196.out))) (below_size (bw HB.out)))
                  have n3_ := bk BK185 hb
                  have n4_ := bk BK186 hb
                  have n5_ := bk BK202 hb
                  have n6_ := am (below_step (bw HB.out) hb)
                  clear HO192 HO196 BK185 BK186 BK202 HB
                  revert n0_ n1_ n2_ n3_ n4_ n5_ n6_; intro HO192 HO196 HO200 BK185 BK186 BK202 HB
                  (try clear hb)
                  (try clear hb2)
                  (try clear hk)
                  (try clear hi)
                  (try clear ho0)
                  refine hK.out _ _ ⟨(blk_cell BK185.out 0).trans rfl, (blk_cell BK185.out 1).trans rfl, (blk_cell BK186.out 0).trans rfl, (blk_cell BK186.out 1).trans rfl⟩ (fun hHeld => ?_)
                  clear hK K
                  refine norm_ (a' := ?_) ?_ ?_
                  rotate_left
                  ·show Act.put _ (some 32) _ = _
                   simp only [Act.put, List.setIfInBounds_toArray, List.set_cons_zero, List.set_cons_succ, i64_w, i32_w]
                   rfl
                  refine pv 5 27 11 319 HT_ ?_
                  refine pv 6 33 11 383 HT_ ?_
                  refine pv 7 34 11 511 HT_ ?_
                  exact norm_ (by simp only [putAll, Act.put, List.setIfInBounds_toArray, List.set_cons_zero, List.set_cons_succ]) (hCont (.slice Ao63 t190.length co63, .slice Ao64 t194.length co64, v199, gb202) _ ⟨hHeld, (by (with_reducible repeat (first | apply ra | apply rn | apply rw_)); exact Kd.R_mono HO192.out (fun _ hk => ⟨hk.1.2, hk.2⟩)), (by (with_reducible repeat (first | apply ra | apply rn | apply rw_)); exact Kd.R_mono HO196.out (fun _ hk => ⟨hk.1.2, hk.2⟩)), (by (with_reducible repeat (first | apply ra | apply rn | apply rw_)); exact Kd.R_mono HO200.out (fun _ hk => ⟨hk.1.2, hk.2⟩)), (kz BK185.out), (kz BK186.out), (kz BK202.out), GW202.out, GE202.out, NB185_202.out, NB202_185.out, NB186_202.out, NB202_186.out, (bw HB.out)⟩)
                ·skip
                 refine box_step ?hg (N := 6) ?hd (cs := #[.int .i64 0, .slice none 0 0]) (t := 27) ?hr ?_; (case hd => rfl); (case hg => rfl); (case hr => first | (go_simp; done) | (go_simp; rfl))
                 intro gb202 hg w60 hbox hb
                 have n0_ := bk BK185 hb
                 have n1_ := bk BK186 hb
                 have n2_ := am (below_step (bw HB.out) hb)
                 have n3_ := am (hbox)
                 have n4_ := am ((by rw [hg]; exact (below_size (bw HB.out)) : w.heap.size ≤ gb202))
                 have n5_ := am ((by rw [hg]; exact (below_size (bw HB.out)) : w.heap.size ≤ gb202))
                 have n6_ := am ((by rw [hg]; exact Nat.ne_of_lt (blk_lt (kz BK185.out)) : gb185 ≠ gb202))
                 have n7_ := am ((by rw [hg]; exact Nat.ne_of_gt (blk_lt (kz BK185.out)) : gb202 ≠ gb185))
                 have n8_ := am ((by rw [hg]; exact Nat.ne_of_lt (blk_lt (kz BK186.out)) : gb186 ≠ gb202))
                 have n9_ := am ((by rw [hg]; exact Nat.ne_of_gt (blk_lt (kz BK186.out)) : gb202 ≠ gb186))
                 clear BK185 BK186 HB
                 revert n0_ n1_ n2_ n3_ n4_ n5_ n6_ n7_ n8_ n9_; intro BK185 BK186 HB BK202 GW202 GE202 NB185_202 NB202_185 NB186_202 NB202_186; clear hb hbox hg
                 refine hK.out _ _ ⟨(blk_cell BK185.out 0).trans rfl, (blk_cell BK185.out 1).trans rfl, (blk_cell BK186.out 0).trans rfl, (blk_cell BK186.out 1).trans rfl⟩ (fun hHeld => ?_)
                 clear hK K
                 refine norm_ (a' := ?_) ?_ ?_
                 rotate_left
                 ·show Act.put _ (some 6) _ = _
                  simp only [Act.put, List.setIfInBounds_toArray, List.set_cons_zero, List.set_cons_succ, i64_w, i32_w]
                  rfl
                 refine one_ (i := 1) (N := some 29) (mk 11 263) rfl rfl (one_of HT_.out (by kernel_rfl)) (by decide) (fun K hK => ?_)
                 refine goes_ Try.func16 (by kernel_rfl) rfl #[.agg #[.int .i64 a0_0, .slice A0_1 l0_1.length c0_1]] (by rfl) rfl rfl (by (try simp only [List.map_toArray, List.map_cons, List.map_nil]); first | done | rfl | (simp only [List.length_drop, List.length_take]; rfl)) ?_
                 with_reducible refine (laws_toMatrix.calls k a0_0 _ _ l0_1 t189 t190 _ ?side1 ?side2 A19.out).mono ?_
                 (case side1 => repeat (first | exact (Kd.C_below HR0_1.out HB.out) | (with_reducible refine Kd.C_alloc ?_ _) | (with_reducible refine Kd.C_drewN ?_ _) | (with_reducible refine Kd.C_drew ?_)))
                 (case side2 => exact HC0_1.out)
                 rintro e w61 ⟨v191, rfl, ho0, hb⟩
                 refine ⟨_, rfl, ?_⟩
                 have n0_ := am (Kd.R_lower ho0 (below_size (bw HB.out)))
                 have n1_ := bk BK185 hb
                 have n2_ := bk BK186 hb
                 have n3_ := bk BK202 hb
                 have n4_ := am (below_step (bw HB.out) hb)
                 clear BK185 BK186 BK202 HB
                 revert n0_ n1_ n2_ n3_ n4_; intro HO192 BK185 BK186 BK202 HB
                 (try clear hb)
                 (try clear hb2)
                 (try clear hk)
                 (try clear hi)
                 (try clear ho0)
                 refine hK.out _ _ ⟨(blk_cell BK185.out 0).trans rfl, (blk_cell BK185.out 1).trans rfl, (blk_cell BK186.out 0).trans rfl, (blk_cell BK186.out 1).trans rfl⟩ (fun hHeld => ?_)
                 clear hK K
                 refine norm_ (a' := ?_) ?_ ?_
                 rotate_left
                 ·show Act.put _ (some 29) _ = _
                  simp only [Act.put, List.setIfInBounds_toArray, List.set_cons_zero, List.set_cons_succ, i64_w, i32_w]
                  rfl
                 refine one_ (i := 3) (N := some 31) (mk 11 271) rfl rfl (one_of HT_.out (by kernel_rfl)) (by decide) (fun K hK => ?_)
                 refine goes_ Try.func16 (by kernel_rfl) rfl #[.agg #[.int .i64 a1_0, .slice A1_1 l1_1.length c1_1]] (by rfl) rfl rfl (by (try simp only [List.map_toArray, List.map_cons, List.map_nil]); first | done | rfl | (simp only [List.length_drop, List.length_take]; rfl)) ?_
                 with_reducible refine (laws_toMatrix.calls k a1_0 _ _ l1_1 t193 t194 _ ?side1 ?side2 A20.out).mono ?_
                 (case side1 => repeat (first | exact (Kd.C_below HR1_1.out HB.out) | (with_reducible refine Kd.C_alloc ?_ _) | (with_reducible refine Kd.C_drewN ?_ _) | (with_reducible refine Kd.C_drew ?_)))
                 (case side2 => exact HC1_1.out)
                 rintro e w62 ⟨v195, rfl, ho0, hb⟩
                 refine ⟨_, rfl, ?_⟩
                 have n0_ := el HO192 (Kd.R_base ho0) hb
                 have n1_ := am (Kd.R_lower (Kd.R_new' ho0 (Kd.R_lt (rz HO192.out))) (below_size (bw HB.out)))
                 have n2_ := bk BK185 hb
                 have n3_ := bk BK186 hb
                 have n4_ := bk BK202 hb
                 have n5_ := am (below_step (bw HB.out) hb)
                 clear HO192 BK185 BK186 BK202 HB
                 revert n0_ n1_ n2_ n3_ n4_ n5_; intro HO192 HO196 BK185 BK186 BK202 HB
                 (try clear hb)
                 (try clear hb2)
                 (try clear hk)
                 (try clear hi)
                 (try clear ho0)
                 obtain ⟨Ao63, co63, eo63⟩ := Kd.R_slice HO192.out
                 (first | subst eo63 | (injection eo63 with f1_ f2_ f3_; have f4_ := f1_.symm; have f5_ := f3_.symm; clear f1_ f2_ f3_; subst f4_; subst f5_))
                 obtain ⟨Ao64, co64, eo64⟩ := Kd.R_slice HO196.out
                 (first | subst eo64 | (injection eo64 with f1_ f2_ f3_; have f4_ := f1_.symm; have f5_ := f3_.symm; clear f1_ f2_ f3_; subst f4_; subst f5_))
                 refine hK.out _ _ ⟨(blk_cell BK185.out 0).trans rfl, (blk_cell BK185.out 1).trans rfl, (blk_cell BK186.out 0).trans rfl, (blk_cell BK186.out 1).trans rfl⟩ (fun hHeld => ?_)
                 clear hK K
                 refine norm_ (a' := ?_) ?_ ?_
                 rotate_left
                 ·show Act.put _ (some 31) _ = _
                  simp only [Act.put, List.setIfInBounds_toArray, List.set_cons_zero, List.set_cons_succ, i64_w, i32_w]
                  rfl
                 refine one_ (i := 4) (N := some 32) (mk 11 287) rfl rfl (one_of HT_.out (by kernel_rfl)) (by decide) (fun K hK => ?_)
                 refine goes_ Try.func25 (by kernel_rfl) rfl #[.agg #[.int .i64 t189, .slice Ao63 t190.length co63], .agg #[.int .i64 t193, .slice Ao64 t194.length co64]] (by rfl) rfl rfl (by (try simp only [List.map_toArray, List.map_cons, List.map_nil]); first | done | rfl | (simp only [List.length_drop, List.length_take]; rfl)) ?_
                 with_reducible refine (spec_MinMatrix.calls k t189 _ _ t190 t193 _ _ t194 t197 t198 t201 _ ?side1 ?side2 ?side3 ?side4 A21.out).mono ?_
                 (case side1 => repeat (first | exact (Kd.R_reads' HO192.out).2.2 | (with_reducible refine Kd.C_alloc ?_ _) | (with_reducible refine Kd.C_drewN ?_ _) | (with_reducible refine Kd.C_drew ?_)))
                 (case side2 => exact (Kd.R_reads' HO192.out).2.1)
                 (case side3 => repeat (first | exact (Kd.R_reads' HO196.out).2.2 | (with_reducible refine Kd.C_alloc ?_ _) | (with_reducible refine Kd.C_drewN ?_ _) | (with_reducible refine Kd.C_drew ?_)))
                 (case side4 => exact (Kd.R_reads' HO196.out).2.1)
                 rintro e w65 ⟨v199, rfl, ho0, hb⟩
                 refine ⟨_, rfl, ?_⟩
                 have n0_ := el HO192 (Kd.R_base ho0) hb
                 have n1_ := el HO196 (Kd.R_base ho0) hb
                 have n2_ := am (Kd.R_lower (Kd.R_new' (Kd.R_new' ho0 (Kd.R_lt (rz HO192.out))) (Kd.R_lt (rz HO196.out))) (below_size (bw HB.out)))
                 have n3_ := bk BK185 hb
                 have n4_ := bk BK186 hb
                 have n5_ := bk BK202 hb
                 have n6_ := am (below_step (bw HB.out) hb)
                 clear HO192 HO196 BK185 BK186 BK202 HB
                 revert n0_ n1_ n2_ n3_ n4_ n5_ n6_; intro HO192 HO196 HO200 BK185 BK186 BK202 HB
                 (try clear hb)
                 (try clear hb2)
                 (try clear hk)
                 (try clear hi)
                 (try clear ho0)
                 refine hK.out _ _ ⟨(blk_cell BK185.out 0).trans rfl, (blk_cell BK185.out 1).trans rfl, (blk_cell BK186.out 0).trans rfl, (blk_cell BK186.out 1).trans rfl⟩ (fun hHeld => ?_)
                 clear hK K
                 refine norm_ (a' := ?_) ?_ ?_
                 rotate_left
                 ·show Act.put _ (some 32) _ = _
                  simp only [Act.put, List.setIfInBounds_toArray, List.set_cons_zero, List.set_cons_succ, i64_w, i32_w]
                  rfl
                 refine pv 5 27 11 319 HT_ ?_
                 refine pv 6 33 11 383 HT_ ?_
                 refine pv 7 34 11 511 HT_ ?_
                 exact norm_ (by simp only [putAll, Act.put, List.setIfInBounds_toArray, List.set_cons_zero, List.set_cons_succ]) (hCont (.slice Ao63 t190.length co63, .slice Ao64 t194.length co64, v199, gb202) _ ⟨hHeld, (by (with_reducible repeat (first | apply ra | apply rn | apply rw_)); exact Kd.R_mono HO192.out (fun _ hk => ⟨hk.1.2, hk.2⟩)), (by (with_reducible repeat (first | apply ra | apply rn | apply rw_)); exact Kd.R_mono HO196.out (fun _ hk => ⟨hk.1.2, hk.2⟩)), (by (with_reducible repeat (first | apply ra | apply rn | apply rw_)); exact Kd.R_mono HO200.out (fun _ hk => ⟨hk.1.2, hk.2⟩)), (kz BK185.out), (kz BK186.out), (kz BK202.out), GW202.out, GE202.out, NB185_202.out, NB202_185.out, NB186_202.out, NB202_186.out, (bw HB.out)⟩)
               rintro ⟨v191, v195, v199, gb202⟩ w66 ⟨hS_, h0_, h1_, h2_, h3_, h4_, h5_, h6_, h7_, h8_, h9_, h10_, h11_, h12_⟩
               have n0_ : Aside0 (Kd.R (Kd.int .i64) 3 w66 w.heap.size (fun k_ => some k_ ≠ (v195 : Value).ownBlock ∧ some k_ ≠ (v199 : Value).ownBlock) v191 t190) := ⟨h0_⟩
               have n1_ : Aside0 (Kd.R (Kd.int .i64) 3 w66 w.heap.size (fun k_ => some k_ ≠ (v191 : Value).ownBlock ∧ some k_ ≠ (v199 : Value).ownBlock) v195 t194) := ⟨h1_⟩
               have n2_ : Aside0 (Kd.R (Kd.int .i64) 3 w66 w.heap.size (fun k_ => some k_ ≠ (v191 : Value).ownBlock ∧ some k_ ≠ (v195 : Value).ownBlock) v199 t198) := ⟨h2_⟩
               have n3_ : Aside0 (w66.heap[gb185]? = some (.cells #[.int .i64 a0_0, .slice A0_1 l0_1.length c0_1] 24 (0, 0))) := ⟨h3_⟩
               have n4_ : Aside0 (w66.heap[gb186]? = some (.cells #[.int .i64 a1_0, .slice A1_1 l1_1.length c1_1] 24 (0, 0))) := ⟨h4_⟩
               have n5_ : Aside0 (w66.heap[gb202]? = some (.cells #[.int .i64 0, .slice none 0 0] 27 (0, 0))) := ⟨h5_⟩
               have n6_ : Aside0 (w.heap.size ≤ gb202) := ⟨h6_⟩
               have n7_ : Aside0 (w.heap.size ≤ gb202) := ⟨h7_⟩
               have n8_ : Aside0 (gb185 ≠ gb202) := ⟨h8_⟩
               have n9_ : Aside0 (gb202 ≠ gb185) := ⟨h9_⟩
               have n10_ : Aside0 (gb186 ≠ gb202) := ⟨h10_⟩
               have n11_ : Aside0 (gb202 ≠ gb186) := ⟨h11_⟩
               have n12_ : Aside0 (Below w.heap.size w w66) := ⟨h12_⟩
               clear BK185 BK186 HB h0_ h1_ h2_ h3_ h4_ h5_ h6_ h7_ h8_ h9_ h10_ h11_ h12_
               revert n0_ n1_ n2_ n3_ n4_ n5_ n6_ n7_ n8_ n9_ n10_ n11_ n12_; intro HO192 HO196 HO200 BK185 BK186 BK202 GW202 GE202 NB185_202 NB202_185 NB186_202 NB202_186 HB
               have hHeld : w66.cell? ⟨gb185, 0, none⟩ = some (.int .i64 a0_0) ∧ w66.cell? ⟨gb185, 1, none⟩ = some (.slice A0_1 l0_1.length c0_1) ∧ w66.cell? ⟨gb186, 0, none⟩ = some (.int .i64 a1_0) ∧ w66.cell? ⟨gb186, 1, none⟩ = some (.slice A1_1 l1_1.length c1_1) := hS_
               obtain ⟨Ao68, co68, eo68⟩ := Kd.R_slice HO200.out
               (first | subst eo68 | (injection eo68 with f1_ f2_ f3_; have f4_ := f1_.symm; have f5_ := f3_.symm; clear f1_ f2_ f3_; subst f4_; subst f5_))
               refine norm_ (a' := ?_) ?_ ?_
               rotate_left
               ·simp only [putAll, Act.put, List.setIfInBounds_toArray, List.set_cons_zero, List.set_cons_succ]
                rfl
               refine one_ (i := 9) (N := none) (mk 11 1023) rfl rfl (one_of HT_.out (by kernel_rfl)) (by decide) (fun K hK => ?_)
               have hs67 : w66.cell? ⟨gb202, 0, none⟩ = some (.int .i64 0) := (blk_cell BK202.out 0).trans rfl
               have hfs67 := blk_frozen BK202.out 0
               have hns67_0 := NB185_202.out
               have hns67_1 := NB186_202.out
               have hms67_0 := NB202_185.out
               have hms67_1 := NB202_186.out
               have hs69 : w66.cell? ⟨gb202, 1, none⟩ = some (.slice none 0 0) := (blk_cell BK202.out 1).trans rfl
               have hfs69 := blk_frozen BK202.out 1
               have hns69_0 := NB185_202.out
               have hns69_1 := NB186_202.out
               have hms69_0 := NB202_185.out
               have hms69_1 := NB202_186.out
               refine skip_ (w1 := ?_) (by rfl) rfl ?_ ?_
               rotate_left
               ·go_simp
                rfl
               refine hK.out _ _ ⟨((cell_far (p := ⟨gb202, _, none⟩) NB185_202.out _).trans (((cell_far (p := ⟨gb202, _, none⟩) NB185_202.out _).trans (hHeld.1)))), ((cell_far (p := ⟨gb202, _, none⟩) NB185_202.out _).trans (((cell_far (p := ⟨gb202, _, none⟩) NB185_202.out _).trans (hHeld.2.1)))), ((cell_far (p := ⟨gb202, _, none⟩) NB186_202.out _).trans (((cell_far (p := ⟨gb202, _, none⟩) NB186_202.out _).trans (hHeld.2.2.1)))), ((cell_far (p := ⟨gb202, _, none⟩) NB186_202.out _).trans (((cell_far (p := ⟨gb202, _, none⟩) NB186_202.out _).trans (hHeld.2.2.2))))⟩ (fun hHeld => ?_)
               clear hK K
               refine pv 10 7 11 2047 HT_ ?_
               refine done_ (done_of HT_.out (by kernel_rfl)) ?_
               have hnb70 := NB185_202.out
               have hnc70 := NB202_185.out
               have hcz71_0 := cz20 BK185.out
               have hcz71_1 := cz21 BK185.out
               have hfz71_0 := blk_frozen BK185.out 0
               have hfz71_1 := blk_frozen BK185.out 1
               try go_wp2_with (first | ((with_reducible refine gate_callee (f := 16) rfl ?_); refine goesL_ (some 36) rfl rfl Try.func16 (by kernel_rfl) rfl #[.agg #[.int .i64 a0_0, .slice A0_1 l0_1.length c0_1]] rfl (by (try simp only [List.map_toArray, List.map_cons, List.map_nil]); first | done | rfl | (simp only [List.length_drop, List.length_take]; rfl)) ?_; (with_reducible refine (laws_toMatrix.calls k a0_0 _ _ l0_1 t203 t204 _ ?side1 ?side2 A22.out).mono ?_); (case side1 => exact Kd.C_below HR0_1.out (bw HB.out)); (case side2 => exact HC0_1.out); rintro e w72 ⟨v205, rfl, ho0, hb⟩; refine ⟨_, rfl, ?_⟩; have n0_ := am (Kd.R_elder' (r2z HO192 BK202 (by decide)) (Kd.R_base ho0) hb); have n1_ := am (Kd.R_elder' (r2z HO196 BK202 (by decide)) (Kd.R_base ho0) hb); have n2_ := am (Kd.R_elder' (r2z HO200 BK202 (by decide)) (Kd.R_base ho0) hb); have n3_ := am (Kd.R_lower (Kd.R_new' (Kd.R_new' (Kd.R_new' ho0 (Kd.R_lt (r2z HO192 BK202 (by decide)))) (Kd.R_lt (r2z HO196 BK202 (by decide)))) (Kd.R_lt (r2z HO200 BK202 (by decide)))) (below_size (bw HB.out))); have n4_ := am (blk_below (kf BK185.out) hb); have n5_ := am (blk_below (kf BK186.out) hb); have n6_ := am (blk_below (g := gb202) (o := .cells #[.int .i64 t197, .slice Ao68 t198.length co68] 27 (0, 0)) (by (with_reducible repeat (first | refine kn ?_ _ | refine kd ?_ | refine ka ?_ _)); refine blk_put (cs := #[.int .i64 t197, .slice none 0 0]) ?_ 1 _ rfl; (with_reducible repeat (first | refine kn ?_ _ | refine kd ?_ | refine ka ?_ _)); refine blk_put (cs := #[.int .i64 0, .slice none 0 0]) ?_ 0 _ rfl; (with_reducible repeat (first | refine kn ?_ _ | refine kd ?_ | refine ka ?_ _)); exact BK202.out) hb); have n7_ := am (below_step (bw HB.out) hb); clear HO192 HO196 HO200 BK185 BK186 BK202 HB; revert n0_ n1_ n2_ n3_ n4_ n5_ n6_ n7_; intro HO192 HO196 HO200 HO206 BK185 BK186 BK202 HB; (try clear hb); (try clear hb2); (try clear hk); (try clear hi); (try clear ho0)) | ((with_reducible refine gate_dst (N := 8) rfl ?_); refine box_event ?hg (N := 8) ?hd (cs := #[.int .i64 0, .slice none 0 0]) (t := 27) ?hr ?_; (case hd => rfl); (case hg => rfl); (case hr => first | (go_simp; done) | (go_simp; rfl)); intro gb207 hg w73 hbox hb; have n0_ := am (Kd.R_below (rz HO192.out) hb); have n1_ := am (Kd.R_below (rz HO196.out) hb); have n2_ := am (Kd.R_below (rz HO200.out) hb); have n3_ := am (Kd.R_below (rz HO206.out) hb); have n4_ := bk BK185 hb; have n5_ := bk BK186 hb; have n6_ := bk BK202 hb; have n7_ := am (below_step (bw HB.out) hb); have n8_ := am (hbox); have n9_ := am ((by rw [hg]; exact (below_size (bw HB.out)) : w.heap.size ≤ gb207)); have n10_ := am ((by rw [hg]; exact (below_size (bw HB.out)) : w.heap.size ≤ gb207)); have n11_ := am ((by rw [hg]; exact Nat.ne_of_lt (blk_lt (kz BK185.out)) : gb185 ≠ gb207)); have n12_ := am ((by rw [hg]; exact Nat.ne_of_gt (blk_lt (kz BK185.out)) : gb207 ≠ gb185)); have n13_ := am ((by rw [hg]; exact Nat.ne_of_lt (blk_lt (kz BK186.out)) : gb186 ≠ gb207)); have n14_ := am ((by rw [hg]; exact Nat.ne_of_gt (blk_lt (kz BK186.out)) : gb207 ≠ gb186)); have n15_ := am ((by rw [hg]; exact Nat.ne_of_lt (blk_lt (kz BK202.out)) : gb202 ≠ gb207)); have n16_ := am ((by rw [hg]; exact Nat.ne_of_gt (blk_lt (kz BK202.out)) : gb207 ≠ gb202)); clear HO192 HO196 HO200 HO206 BK185 BK186 BK202 HB; revert n0_ n1_ n2_ n3_ n4_ n5_ n6_ n7_ n8_ n9_ n10_ n11_ n12_ n13_ n14_ n15_ n16_; intro HO192 HO196 HO200 HO206 BK185 BK186 BK202 HB BK207 GW207 GE207 NB185_207 NB207_185 NB186_207 NB207_186 NB202_207 NB207_202; clear hb hbox hg; have hnb74 := NB207_185.out; have hnc74 := NB185_207.out; have hnb75 := NB207_186.out; have hnc75 := NB186_207.out; have hnb76 := NB207_202.out; have hnc76 := NB202_207.out; have hcz77_0 := cz20 BK207.out; have hcz77_1 := cz21 BK207.out; have hfz77_0 := blk_frozen BK207.out 0; have hfz77_1 := blk_frozen BK207.out 1; obtain ⟨Ao78, co78, eo78⟩ := Kd.R_slice HO206.out; subst eo78; have hnb79 := NB186_202.out; have hnc79 := NB202_186.out; have hcz80_0 := cz20 BK186.out; have hcz80_1 := cz21 BK186.out; have hfz80_0 := blk_frozen BK186.out 0; have hfz80_1 := blk_frozen BK186.out 1) | ((with_reducible refine gate_callee (f := 16) rfl ?_); refine goesL_ (some 38) rfl rfl Try.func16 (by kernel_rfl) rfl #[.agg #[.int .i64 a1_0, .slice A1_1 l1_1.length c1_1]] rfl (by (try simp only [List.map_toArray, List.map_cons, List.map_nil]); first | done | rfl | (simp only [List.length_drop, List.length_take]; rfl)) ?_; (with_reducible refine (laws_toMatrix.calls k a1_0 _ _ l1_1 t208 t209 _ ?side1 ?side2 A23.out).mono ?_); (case side1 => exact Kd.C_below HR1_1.out (bw HB.out)); (case side2 => exact HC1_1.out); rintro e w81 ⟨v210, rfl, ho0, hb⟩; refine ⟨_, rfl, ?_⟩; have n0_ := am (Kd.R_elder' (r2z HO192 BK207 (by decide)) (Kd.R_base ho0) hb); have n1_ := am (Kd.R_elder' (r2z HO196 BK207 (by decide)) (Kd.R_base ho0) hb); have n2_ := am (Kd.R_elder' (r2z HO200 BK207 (by decide)) (Kd.R_base ho0) hb); have n3_ := am (Kd.R_elder' (r2z HO206 BK207 (by decide)) (Kd.R_base ho0) hb); have n4_ := am (Kd.R_lower (Kd.R_new' (Kd.R_new' (Kd.R_new' (Kd.R_new' ho0 (Kd.R_lt (r2z HO192 BK207 (by decide)))) (Kd.R_lt (r2z HO196 BK207 (by decide)))) (Kd.R_lt (r2z HO200 BK207 (by decide)))) (Kd.R_lt (r2z HO206 BK207 (by decide)))) (below_size (bw HB.out))); have n5_ := am (blk_below (kf BK185.out) hb); have n6_ := am (blk_below (kf BK186.out) hb); have n7_ := am (blk_below (kf BK202.out) hb); have n8_ := am (blk_below (g := gb207) (o := .cells #[.int .i64 t203, .slice Ao78 t204.length co78] 27 (0, 0)) (by (with_reducible repeat (first | refine kn ?_ _ | refine kd ?_ | refine ka ?_ _)); refine blk_put (cs := #[.int .i64 t203, .slice none 0 0]) ?_ 1 _ rfl; (with_reducible repeat (first | refine kn ?_ _ | refine kd ?_ | refine ka ?_ _)); refine blk_put (cs := #[.int .i64 0, .slice none 0 0]) ?_ 0 _ rfl; (with_reducible repeat (first | refine kn ?_ _ | refine kd ?_ | refine ka ?_ _)); exact BK207.out) hb); have n9_ := am (below_step (bw HB.out) hb); clear HO192 HO196 HO200 HO206 BK185 BK186 BK202 BK207 HB; revert n0_ n1_ n2_ n3_ n4_ n5_ n6_ n7_ n8_ n9_; intro HO192 HO196 HO200 HO206 HO211 BK185 BK186 BK202 BK207 HB; (try clear hb); (try clear hb2); (try clear hk); (try clear hi); (try clear ho0)) | ((with_reducible refine gate_dst (N := 9) rfl ?_); refine box_event ?hg (N := 9) ?hd (cs := #[.int .i64 0, .slice none 0 0]) (t := 27) ?hr ?_; (case hd => rfl); (case hg => rfl); (case hr => first | (go_simp; done) | (go_simp; rfl)); intro gb212 hg w82 hbox hb; have n0_ := am (Kd.R_below (rz HO192.out) hb); have n1_ := am (Kd.R_below (rz HO196.out) hb); have n2_ := am (Kd.R_below (rz HO200.out) hb); have n3_ := am (Kd.R_below (rz HO206.out) hb); have n4_ := am (Kd.R_below (rz HO211.out) hb); have n5_ := bk BK185 hb; have n6_ := bk BK186 hb; have n7_ := bk BK202 hb; have n8_ := bk BK207 hb; have n9_ := am (below_step (bw HB.out) hb); have n10_ := am (hbox); have n11_ := am ((by rw [hg]; exact (below_size (bw HB.out)) : w.heap.size ≤ gb212)); have n12_ := am ((by rw [hg]; exact (below_size (bw HB.out)) : w.heap.size ≤ gb212)); have n13_ := am ((by rw [hg]; exact Nat.ne_of_lt (blk_lt (kz BK185.out)) : gb185 ≠ gb212)); have n14_ := am ((by rw [hg]; exact Nat.ne_of_gt (blk_lt (kz BK185.out)) : gb212 ≠ gb185)); have n15_ := am ((by rw [hg]; exact Nat.ne_of_lt (blk_lt (kz BK186.out)) : gb186 ≠ gb212)); have n16_ := am ((by rw [hg]; exact Nat.ne_of_gt (blk_lt (kz BK186.out)) : gb212 ≠ gb186)); have n17_ := am ((by rw [hg]; exact Nat.ne_of_lt (blk_lt (kz BK202.out)) : gb202 ≠ gb212)); have n18_ := am ((by rw [hg]; exact Nat.ne_of_gt (blk_lt (kz BK202.out)) : gb212 ≠ gb202)); have n19_ := am ((by rw [hg]; exact Nat.ne_of_lt (blk_lt (kz BK207.out)) : gb207 ≠ gb212)); have n20_ := am ((by rw [hg]; exact Nat.ne_of_gt (blk_lt (kz BK207.out)) : gb212 ≠ gb207)); clear HO192 HO196 HO200 HO206 HO211 BK185 BK186 BK202 BK207 HB; revert n0_ n1_ n2_ n3_ n4_ n5_ n6_ n7_ n8_ n9_ n10_ n11_ n12_ n13_ n14_ n15_ n16_ n17_ n18_ n19_ n20_; intro HO192 HO196 HO200 HO206 HO211 BK185 BK186 BK202 BK207 HB BK212 GW212 GE212 NB185_212 NB212_185 NB186_212 NB212_186 NB202_212 NB212_202 NB207_212 NB212_207; clear hb hbox hg; have hnb83 := NB212_185.out; have hnc83 := NB185_212.out; have hnb84 := NB212_186.out; have hnc84 := NB186_212.out; have hnb85 := NB212_202.out; have hnc85 := NB202_212.out; have hnb86 := NB212_207.out; have hnc86 := NB207_212.out; have hcz87_0 := cz20 BK212.out; have hcz87_1 := cz21 BK212.out; have hfz87_0 := blk_frozen BK212.out 0; have hfz87_1 := blk_frozen BK212.out 1; obtain ⟨Ao88, co88, eo88⟩ := Kd.R_slice HO211.out; subst eo88; have hcz89_0 := cz20 BK207.out; have hcz89_1 := cz21 BK207.out; have hfz89_0 := blk_frozen BK207.out 0; have hfz89_1 := blk_frozen BK207.out 1) | ((with_reducible refine gate_callee (f := 26) rfl ?_); refine goesL_ (some 42) rfl rfl Try.func26 (by kernel_rfl) rfl #[.agg #[.int .i64 t203, .slice Ao78 t204.length co78], .agg #[.int .i64 t208, .slice Ao88 t209.length co88]] rfl (by (try simp only [List.map_toArray, List.map_cons, List.map_nil]); first | done | rfl | (simp only [List.length_drop, List.length_take]; rfl)) ?_; (with_reducible refine (impl_MinMatrix.calls k t203 _ _ t204 t208 _ _ t209 t213 t214 t217 _ ?side1 ?side2 ?side3 ?side4 A24.out).mono ?_); (case side1 => refine (Kd.R_reads' (e := 3) (base := w.heap.size) (ok := fun k_ => ((((True ∧ some k_ ≠ (v191 : Value).ownBlock) ∧ some k_ ≠ (v195 : Value).ownBlock) ∧ NS Ao68 t198 co68 k_) ∧ NS Ao88 t209 co88 k_)) (n := t204.length) (c := co78) ?_).2.2; exact (r2z HO206 BK212 (by decide))); (case side2 => exact (Kd.R_reads' HO206.out).2.1); (case side3 => refine (Kd.R_reads' (e := 3) (base := w.heap.size) (ok := fun k_ => ((((True ∧ some k_ ≠ (v191 : Value).ownBlock) ∧ some k_ ≠ (v195 : Value).ownBlock) ∧ NS Ao68 t198 co68 k_) ∧ NS Ao78 t204 co78 k_)) (n := t209.length) (c := co88) ?_).2.2; exact (r2z HO211 BK212 (by decide))); (case side4 => exact (Kd.R_reads' HO211.out).2.1); rintro e w90 ⟨v215, rfl, ho0, hb⟩; refine ⟨_, rfl, ?_⟩; have n0_ := am (Kd.R_elder' (r2z HO192 BK212 (by decide)) (Kd.R_base ho0) hb); have n1_ := am (Kd.R_elder' (r2z HO196 BK212 (by decide)) (Kd.R_base ho0) hb); have n2_ := am (Kd.R_elder' (r2z HO200 BK212 (by decide)) (Kd.R_base ho0) hb); have n3_ := am (Kd.R_elder' (r2z HO206 BK212 (by decide)) (Kd.R_base ho0) hb); have n4_ := am (Kd.R_elder' (r2z HO211 BK212 (by decide)) (Kd.R_base ho0) hb); have n5_ := am (Kd.R_lower (Kd.R_new' (Kd.R_new' (Kd.R_new' (Kd.R_new' (Kd.R_new' ho0 (Kd.R_lt (r2z HO192 BK212 (by decide)))) (Kd.R_lt (r2z HO196 BK212 (by decide)))) (Kd.R_lt (r2z HO200 BK212 (by decide)))) (Kd.R_lt (r2z HO206 BK212 (by decide)))) (Kd.R_lt (r2z HO211 BK212 (by decide)))) (below_size (bw HB.out))); have n6_ := am (blk_below (kf BK185.out) hb); have n7_ := am (blk_below (kf BK186.out) hb); have n8_ := am (blk_below (kf BK202.out) hb); have n9_ := am (blk_below (kf BK207.out) hb); have n10_ := am (blk_below (g := gb212) (o := .cells #[.int .i64 t208, .slice Ao88 t209.length co88] 27 (0, 0)) (by (with_reducible repeat (first | refine kn ?_ _ | refine kd ?_ | refine ka ?_ _)); refine blk_put (cs := #[.int .i64 t208, .slice none 0 0]) ?_ 1 _ rfl; (with_reducible repeat (first | refine kn ?_ _ | refine kd ?_ | refine ka ?_ _)); refine blk_put (cs := #[.int .i64 0, .slice none 0 0]) ?_ 0 _ rfl; (with_reducible repeat (first | refine kn ?_ _ | refine kd ?_ | refine ka ?_ _)); exact BK212.out) hb); have n11_ := am (below_step (bw HB.out) hb); clear HO192 HO196 HO200 HO206 HO211 BK185 BK186 BK202 BK207 BK212 HB; revert n0_ n1_ n2_ n3_ n4_ n5_ n6_ n7_ n8_ n9_ n10_ n11_; intro HO192 HO196 HO200 HO206 HO211 HO216 BK185 BK186 BK202 BK207 BK212 HB; (try clear hb); (try clear hb2); (try clear hk); (try clear hi); (try clear ho0)) | ((with_reducible refine gate_dst (N := 10) rfl ?_); refine box_event ?hg (N := 10) ?hd (cs := #[.int .i64 0, .slice none 0 0]) (t := 27) ?hr ?_; (case hd => rfl); (case hg => rfl); (case hr => first | (go_simp; done) | (go_simp; rfl)); intro gb218 hg w91 hbox hb; have n0_ := am (Kd.R_below (rz HO192.out) hb); have n1_ := am (Kd.R_below (rz HO196.out) hb); have n2_ := am (Kd.R_below (rz HO200.out) hb); have n3_ := am (Kd.R_below (rz HO206.out) hb); have n4_ := am (Kd.R_below (rz HO211.out) hb); have n5_ := am (Kd.R_below (rz HO216.out) hb); have n6_ := bk BK185 hb; have n7_ := bk BK186 hb; have n8_ := bk BK202 hb; have n9_ := bk BK207 hb; have n10_ := bk BK212 hb; have n11_ := am (below_step (bw HB.out) hb); have n12_ := am (hbox); have n13_ := am ((by rw [hg]; exact (below_size (bw HB.out)) : w.heap.size ≤ gb218)); have n14_ := am ((by rw [hg]; exact (below_size (bw HB.out)) : w.heap.size ≤ gb218)); have n15_ := am ((by rw [hg]; exact Nat.ne_of_lt (blk_lt (kz BK185.out)) : gb185 ≠ gb218)); have n16_ := am ((by rw [hg]; exact Nat.ne_of_gt (blk_lt (kz BK185.out)) : gb218 ≠ gb185)); have n17_ := am ((by rw [hg]; exact Nat.ne_of_lt (blk_lt (kz BK186.out)) : gb186 ≠ gb218)); have n18_ := am ((by rw [hg]; exact Nat.ne_of_gt (blk_lt (kz BK186.out)) : gb218 ≠ gb186)); have n19_ := am ((by rw [hg]; exact Nat.ne_of_lt (blk_lt (kz BK202.out)) : gb202 ≠ gb218)); have n20_ := am ((by rw [hg]; exact Nat.ne_of_gt (blk_lt (kz BK202.out)) : gb218 ≠ gb202)); have n21_ := am ((by rw [hg]; exact Nat.ne_of_lt (blk_lt (kz BK207.out)) : gb207 ≠ gb218)); have n22_ := am ((by rw [hg]; exact Nat.ne_of_gt (blk_lt (kz BK207.out)) : gb218 ≠ gb207)); have n23_ := am ((by rw [hg]; exact Nat.ne_of_lt (blk_lt (kz BK212.out)) : gb212 ≠ gb218)); have n24_ := am ((by rw [hg]; exact Nat.ne_of_gt (blk_lt (kz BK212.out)) : gb218 ≠ gb212)); clear HO192 HO196 HO200 HO206 HO211 HO216 BK185 BK186 BK202 BK207 BK212 HB; revert n0_ n1_ n2_ n3_ n4_ n5_ n6_ n7_ n8_ n9_ n10_ n11_ n12_ n13_ n14_ n15_ n16_ n17_ n18_ n19_ n20_ n21_ n22_ n23_ n24_; intro HO192 HO196 HO200 HO206 HO211 HO216 BK185 BK186 BK202 BK207 BK212 HB BK218 GW218 GE218 NB185_218 NB218_185 NB186_218 NB218_186 NB202_218 NB218_202 NB207_218 NB218_207 NB212_218 NB218_212; clear hb hbox hg; have hnb92 := NB218_185.out; have hnc92 := NB185_218.out; have hnb93 := NB218_186.out; have hnc93 := NB186_218.out; have hnb94 := NB218_202.out; have hnc94 := NB202_218.out; have hnb95 := NB218_207.out; have hnc95 := NB207_218.out; have hnb96 := NB218_212.out; have hnc96 := NB212_218.out; have hcz97_0 := cz20 BK218.out; have hcz97_1 := cz21 BK218.out; have hfz97_0 := blk_frozen BK218.out 0; have hfz97_1 := blk_frozen BK218.out 1; obtain ⟨Ao98, co98, eo98⟩ := Kd.R_slice HO216.out; subst eo98; have hcz99_0 : w91.cell? ⟨gb202, 0, none⟩ = some (.int .i64 t197) := (blk_cell BK202.out 0).trans rfl; have hcz99_1 : w91.cell? ⟨gb202, 1, none⟩ = some (.slice Ao68 t198.length co68) := (blk_cell BK202.out 1).trans rfl; have hfz99_0 := blk_frozen BK202.out 0; have hfz99_1 := blk_frozen BK202.out 1) | ((with_reducible refine gate_callee (f := 18) rfl ?_); refine goesL_ (some 47) rfl rfl Try.func18 (by kernel_rfl) rfl #[.agg #[.int .i64 t213, .slice Ao98 t214.length co98], .agg #[.int .i64 t197, .slice Ao68 t198.length co68]] rfl (by (try simp only [List.map_toArray, List.map_cons, List.map_nil]); first | done | rfl | (simp only [List.length_drop, List.length_take]; rfl)) ?_; (with_reducible refine (laws_eqMatrix.calls k t213 _ _ t214 t197 _ _ t198 true _ ?side1 ?side2 ?side3 ?side4 A25.out).mono ?_); (case side1 => refine (Kd.R_reads' (e := 3) (base := w.heap.size) (ok := fun k_ => (((((True ∧ some k_ ≠ (v191 : Value).ownBlock) ∧ some k_ ≠ (v195 : Value).ownBlock) ∧ NS Ao68 t198 co68 k_) ∧ NS Ao78 t204 co78 k_) ∧ NS Ao88 t209 co88 k_)) (n := t214.length) (c := co98) ?_).2.2; exact (r2z HO216 BK218 (by decide))); (case side2 => exact (Kd.R_reads' HO216.out).2.1); (case side3 => refine (Kd.R_reads' (e := 3) (base := w.heap.size) (ok := fun k_ => ((((some k_ ≠ (v191 : Value).ownBlock ∧ some k_ ≠ (v195 : Value).ownBlock) ∧ NS Ao78 t204 co78 k_) ∧ NS Ao88 t209 co88 k_) ∧ NS Ao98 t214 co98 k_)) (n := t198.length) (c := co68) ?_).2.2; exact (r2z HO200 BK218 (by decide))); (case side4 => exact (Kd.R_reads' HO200.out).2.1); rintro e w100 ⟨rfl, hb⟩; refine ⟨_, rfl, ?_⟩; have n0_ := am (Kd.R_below (r2z HO192 BK218 (by decide)) hb); have n1_ := am (Kd.R_below (r2z HO196 BK218 (by decide)) hb); have n2_ := am (Kd.R_below (r2z HO200 BK218 (by decide)) hb); have n3_ := am (Kd.R_below (r2z HO206 BK218 (by decide)) hb); have n4_ := am (Kd.R_below (r2z HO211 BK218 (by decide)) hb); have n5_ := am (Kd.R_below (r2z HO216 BK218 (by decide)) hb); have n6_ := am (blk_below (kf BK185.out) hb); have n7_ := am (blk_below (kf BK186.out) hb); have n8_ := am (blk_below (kf BK202.out) hb); have n9_ := am (blk_below (kf BK207.out) hb); have n10_ := am (blk_below (kf BK212.out) hb); have n11_ := am (blk_below (g := gb218) (o := .cells #[.int .i64 t213, .slice Ao98 t214.length co98] 27 (0, 0)) (by (with_reducible repeat (first | refine kn ?_ _ | refine kd ?_ | refine ka ?_ _)); refine blk_put (cs := #[.int .i64 t213, .slice none 0 0]) ?_ 1 _ rfl; (with_reducible repeat (first | refine kn ?_ _ | refine kd ?_ | refine ka ?_ _)); refine blk_put (cs := #[.int .i64 0, .slice none 0 0]) ?_ 0 _ rfl; (with_reducible repeat (first | refine kn ?_ _ | refine kd ?_ | refine ka ?_ _)); exact BK218.out) hb); have n12_ := am (below_step (bw HB.out) hb); clear HO192 HO196 HO200 HO206 HO211 HO216 BK185 BK186 BK202 BK207 BK212 BK218 HB; revert n0_ n1_ n2_ n3_ n4_ n5_ n6_ n7_ n8_ n9_ n10_ n11_ n12_; intro HO192 HO196 HO200 HO206 HO211 HO216 BK185 BK186 BK202 BK207 BK212 BK218 HB; (try clear hb); (try clear hb2); (try clear hk); (try clear hi)))
               have n0_ := am (Kd.R_drew HO192.out)
               have n1_ := am (Kd.R_drew HO196.out)
               have n2_ := am (Kd.R_drew HO200.out)
               have n3_ := am (Kd.R_drew HO206.out)
               have n4_ := am (Kd.R_drew HO211.out)
               have n5_ := am (Kd.R_drew HO216.out)
               have n6_ := am (blk_drew BK185.out)
               have n7_ := am (blk_drew BK186.out)
               have n8_ := am (blk_drew BK202.out)
               have n9_ := am (blk_drew BK207.out)
               have n10_ := am (blk_drew BK212.out)
               have n11_ := am (blk_drew BK218.out)
               have n12_ := am (below_drew1 HB.out)
               clear HO192 HO196 HO200 HO206 HO211 HO216 BK185 BK186 BK202 BK207 BK212 BK218 HB
               revert n0_ n1_ n2_ n3_ n4_ n5_ n6_ n7_ n8_ n9_ n10_ n11_ n12_; intro HO192 HO196 HO200 HO206 HO211 HO216 BK185 BK186 BK202 BK207 BK212 BK218 HB
               refine start_ (n := 5) (S := fun w' => w'.cell? ⟨gb207, 0, none⟩ = some (.int .i64 t203) ∧ w'.cell? ⟨gb207, 1, none⟩ = some (.slice Ao78 t204.length co78) ∧ w'.cell? ⟨gb185, 0, none⟩ = some (.int .i64 a0_0) ∧ w'.cell? ⟨gb185, 1, none⟩ = some (.slice A0_1 l0_1.length c0_1)) (ds := []) #[false, false, false, false, false] (by kernel_rfl) rfl rfl ⟨(blk_cell BK207.out 0).trans rfl, (blk_cell BK207.out 1).trans rfl, (blk_cell BK185.out 0).trans rfl, (blk_cell BK185.out 1).trans rfl⟩ (fun hHeld => ?_)
               generalize w100.drew = w101 at HO192 HO196 HO200 HO206 HO211 HO216 BK185 BK186 BK202 BK207 BK212 BK218 HB hHeld ⊢
               refine take_ (i := 0) (N := some 54) (v := ?_) (a' := ?_) #[true, false, false, false, false] rfl rfl (by kernel_rfl) (fun _ _ _ h => h) (Or.inl ⟨by rfl, ?_⟩) hHeld ?_ ?_
               rotate_left
               ·rintro w' ⟨s0, s1, s2, s3⟩
                go_simp
                with_reducible rfl
               rotate_left
               ·simp only [Act.put, List.setIfInBounds_toArray, List.set_cons_zero, List.set_cons_succ, i64_w, i32_w]
                rfl
               refine take_ (i := 1) (N := some 55) (v := ?_) (a' := ?_) #[true, true, false, false, false] rfl rfl (by kernel_rfl) (fun _ _ _ h => h) (Or.inl ⟨by rfl, ?_⟩) hHeld ?_ ?_
               rotate_left
               ·rintro w' ⟨s0, s1, s2, s3⟩
                go_simp
                with_reducible rfl
               rotate_left
               ·simp only [Act.put, List.setIfInBounds_toArray, List.set_cons_zero, List.set_cons_succ, i64_w, i32_w]
                rfl
               refine one_ (i := 2) (N := some 56) #[true, true, true, false, false] rfl rfl (by kernel_rfl) (by decide) (fun K hK => ?_)
               refine goes_ Try.func16 (by kernel_rfl) rfl #[.agg #[.int .i64 a0_0, .slice A0_1 l0_1.length c0_1]] (by rfl) rfl rfl (by (try simp only [List.map_toArray, List.map_cons, List.map_nil]); first | done | rfl | (simp only [List.length_drop, List.length_take]; rfl)) ?_
               with_reducible refine (laws_toMatrix.calls k a0_0 _ _ l0_1 t220 t221 _ ?side1 ?side2 A28.out).mono ?_
               (case side1 => repeat (first | exact (Kd.C_below HR0_1.out HB.out) | (with_reducible refine Kd.C_alloc ?_ _) | (with_reducible refine Kd.C_drewN ?_ _) | (with_reducible refine Kd.C_drew ?_)))
               (case side2 => exact HC0_1.out)
               rintro e w102 ⟨v222, rfl, ho0, hb⟩
               refine ⟨_, rfl, ?_⟩
               have n0_ := el HO192 (Kd.R_base ho0) hb
               have n1_ := el HO196 (Kd.R_base ho0) hb
               have n2_ := el HO200 (Kd.R_base ho0) hb
               have n3_ := el HO206 (Kd.R_base ho0) hb
               have n4_ := el HO211 (Kd.R_base ho0) hb
               have n5_ := el HO216 (Kd.R_base ho0) hb
               have n6_ := am (Kd.R_lower (Kd.R_new' (Kd.R_new' (Kd.R_new' (Kd.R_new' (Kd.R_new' (Kd.R_new' ho0 (Kd.R_lt (rz HO192.out))) (Kd.R_lt (rz HO196.out))) (Kd.R_lt (rz HO200.out))) (Kd.R_lt (rz HO206.out))) (Kd.R_lt (rz HO211.out))) (Kd.R_lt (rz HO216.out))) (below_size (bw HB.out)))
               have n7_ := bk BK185 hb
               have n8_ := bk BK186 hb
               have n9_ := bk BK202 hb
               have n10_ := bk BK207 hb
               have n11_ := bk BK212 hb
               have n12_ := bk BK218 hb
               have n13_ := am (below_step (bw HB.out) hb)
               clear HO192 HO196 HO200 HO206 HO211 HO216 BK185 BK186 BK202 BK207 BK212 BK218 HB
               revert n0_ n1_ n2_ n3_ n4_ n5_ n6_ n7_ n8_ n9_ n10_ n11_ n12_ n13_; intro HO192 HO196 HO200 HO206 HO211 HO216 HO223 BK185 BK186 BK202 BK207 BK212 BK218 HB
               (try clear hb)
               (try clear hb2)
               (try clear hk)
               (try clear hi)
               (try clear ho0)
               obtain ⟨Ao103, co103, eo103⟩ := Kd.R_slice HO223.out
               (first | subst eo103 | (injection eo103 with f1_ f2_ f3_; have f4_ := f1_.symm; have f5_ := f3_.symm; clear f1_ f2_ f3_; subst f4_; subst f5_))
               refine hK.out _ _ ⟨(blk_cell BK207.out 0).trans rfl, (blk_cell BK207.out 1).trans rfl, (blk_cell BK185.out 0).trans rfl, (blk_cell BK185.out 1).trans rfl⟩ (fun hHeld => ?_)
               clear hK K
               refine norm_ (a' := ?_) ?_ ?_
               rotate_left
               ·show Act.put _ (some 56) _ = _
                simp only [Act.put, List.setIfInBounds_toArray, List.set_cons_zero, List.set_cons_succ, i64_w, i32_w]
                rfl
               refine one_ (i := 3) (N := some 57) #[true, true, true, true, false] rfl rfl (by kernel_rfl) (by decide) (fun K hK => ?_)
               refine goes_ Try.func18 (by kernel_rfl) rfl #[.agg #[.int .i64 t203, .slice Ao78 t204.length co78], .agg #[.int .i64 t220, .slice Ao103 t221.length co103]] (by rfl) rfl rfl (by (try simp only [List.map_toArray, List.map_cons, List.map_nil]); first | done | rfl | (simp only [List.length_drop, List.length_take]; rfl)) ?_
               with_reducible refine (laws_eqMatrix.calls k t203 _ _ t204 t220 _ _ t221 true _ ?side1 ?side2 ?side3 ?side4 A29.out).mono ?_
               (case side1 => repeat (first | exact (Kd.R_reads' HO206.out).2.2 | (with_reducible refine Kd.C_alloc ?_ _) | (with_reducible refine Kd.C_drewN ?_ _) | (with_reducible refine Kd.C_drew ?_)))
               (case side2 => exact (Kd.R_reads' HO206.out).2.1)
               (case side3 => repeat (first | exact (Kd.R_reads' HO223.out).2.2 | (with_reducible refine Kd.C_alloc ?_ _) | (with_reducible refine Kd.C_drewN ?_ _) | (with_reducible refine Kd.C_drew ?_)))
               (case side4 => exact (Kd.R_reads' HO223.out).2.1)
               rintro e w104 ⟨rfl, hb⟩
               refine ⟨_, rfl, ?_⟩
               have n0_ := am (Kd.R_below (rz HO192.out) hb)
               have n1_ := am (Kd.R_below (rz HO196.out) hb)
               have n2_ := am (Kd.R_below (rz HO200.out) hb)
               have n3_ := am (Kd.R_below (rz HO206.out) hb)
               have n4_ := am (Kd.R_below (rz HO211.out) hb)
               have n5_ := am (Kd.R_below (rz HO216.out) hb)
               have n6_ := am (Kd.R_below (rz HO223.out) hb)
               have n7_ := bk BK185 hb
               have n8_ := bk BK186 hb
               have n9_ := bk BK202 hb
               have n10_ := bk BK207 hb
               have n11_ := bk BK212 hb
               have n12_ := bk BK218 hb
               have n13_ := am (below_step (bw HB.out) hb)
               clear HO192 HO196 HO200 HO206 HO211 HO216 HO223 BK185 BK186 BK202 BK207 BK212 BK218 HB
               revert n0_ n1_ n2_ n3_ n4_ n5_ n6_ n7_ n8_ n9_ n10_ n11_ n12_ n13_; intro HO192 HO196 HO200 HO206 HO211 HO216 HO223 BK185 BK186 BK202 BK207 BK212 BK218 HB
               (try clear hb)
               (try clear hb2)
               (try clear hk)
               (try clear hi)
               refine hK.out _ _ ⟨(blk_cell BK207.out 0).trans rfl, (blk_cell BK207.out 1).trans rfl, (blk_cell BK185.out 0).trans rfl, (blk_cell BK185.out 1).trans rfl⟩ (fun hHeld => ?_)
               clear hK K
               refine norm_ (a' := ?_) ?_ ?_
               rotate_left
               ·show Act.put _ (some 57) _ = _
                simp only [Act.put, List.setIfInBounds_toArray, List.set_cons_zero, List.set_cons_succ, i64_w, i32_w]
                rfl
               refine pure_ (i := 4) (N := some 58) (v := ?_) (a' := ?_) #[true, true, true, true, true] rfl rfl (by kernel_rfl) (fun _ _ _ h => h) (Or.inl ⟨by rfl, ?_⟩) ?_ ?_
               rotate_left
               ·intro w'
                go_simp
                with_reducible rfl
               rotate_left
               ·simp only [Act.put, List.setIfInBounds_toArray, List.set_cons_zero, List.set_cons_succ, i64_w, i32_w]
                rfl
               refine done_ (by kernel_rfl) ?_
               try go_wp2
               have n0_ := am (Kd.R_drew HO192.out)
               have n1_ := am (Kd.R_drew HO196.out)
               have n2_ := am (Kd.R_drew HO200.out)
               have n3_ := am (Kd.R_drew HO206.out)
               have n4_ := am (Kd.R_drew HO211.out)
               have n5_ := am (Kd.R_drew HO216.out)
               have n6_ := am (Kd.R_drew HO223.out)
               have n7_ := am (blk_drew BK185.out)
               have n8_ := am (blk_drew BK186.out)
               have n9_ := am (blk_drew BK202.out)
               have n10_ := am (blk_drew BK207.out)
               have n11_ := am (blk_drew BK212.out)
               have n12_ := am (blk_drew BK218.out)
               have n13_ := am (below_drew1 HB.out)
               clear HO192 HO196 HO200 HO206 HO211 HO216 HO223 BK185 BK186 BK202 BK207 BK212 BK218 HB
               revert n0_ n1_ n2_ n3_ n4_ n5_ n6_ n7_ n8_ n9_ n10_ n11_ n12_ n13_; intro HO192 HO196 HO200 HO206 HO211 HO216 HO223 BK185 BK186 BK202 BK207 BK212 BK218 HB
               refine start_ (n := 5) (S := fun w' => w'.cell? ⟨gb212, 0, none⟩ = some (.int .i64 t208) ∧ w'.cell? ⟨gb212, 1, none⟩ = some (.slice Ao88 t209.length co88) ∧ w'.cell? ⟨gb186, 0, none⟩ = some (.int .i64 a1_0) ∧ w'.cell? ⟨gb186, 1, none⟩ = some (.slice A1_1 l1_1.length c1_1)) (ds := []) #[false, false, false, false, false] (by kernel_rfl) rfl rfl ⟨(blk_cell BK212.out 0).trans rfl, (blk_cell BK212.out 1).trans rfl, (blk_cell BK186.out 0).trans rfl, (blk_cell BK186.out 1).trans rfl⟩ (fun hHeld => ?_)
               generalize w104.drew = w105 at HO192 HO196 HO200 HO206 HO211 HO216 HO223 BK185 BK186 BK202 BK207 BK212 BK218 HB hHeld ⊢
               refine take_ (i := 0) (N := some 59) (v := ?_) (a' := ?_) #[true, false, false, false, false] rfl rfl (by kernel_rfl) (fun _ _ _ h => h) (Or.inl ⟨by rfl, ?_⟩) hHeld ?_ ?_
               rotate_left
               ·rintro w' ⟨s0, s1, s2, s3⟩
                go_simp
                with_reducible rfl
               rotate_left
               ·simp only [Act.put, List.setIfInBounds_toArray, List.set_cons_zero, List.set_cons_succ, i64_w, i32_w]
                rfl
               refine take_ (i := 1) (N := some 60) (v := ?_) (a' := ?_) #[true, true, false, false, false] rfl rfl (by kernel_rfl) (fun _ _ _ h => h) (Or.inl ⟨by rfl, ?_⟩) hHeld ?_ ?_
               rotate_left
               ·rintro w' ⟨s0, s1, s2, s3⟩
                go_simp
                with_reducible rfl
               rotate_left
               ·simp only [Act.put, List.setIfInBounds_toArray, List.set_cons_zero, List.set_cons_succ, i64_w, i32_w]
                rfl
               refine one_ (i := 2) (N := some 61) #[true, true, true, false, false] rfl rfl (by kernel_rfl) (by decide) (fun K hK => ?_)
               refine goes_ Try.func16 (by kernel_rfl) rfl #[.agg #[.int .i64 a1_0, .slice A1_1 l1_1.length c1_1]] (by rfl) rfl rfl (by (try simp only [List.map_toArray, List.map_cons, List.map_nil]); first | done | rfl | (simp only [List.length_drop, List.length_take]; rfl)) ?_
               with_reducible refine (laws_toMatrix.calls k a1_0 _ _ l1_1 t225 t226 _ ?side1 ?side2 A31.out).mono ?_
               (case side1 => repeat (first | exact (Kd.C_below HR1_1.out HB.out) | (with_reducible refine Kd.C_alloc ?_ _) | (with_reducible refine Kd.C_drewN ?_ _) | (with_reducible refine Kd.C_drew ?_)))
               (case side2 => exact HC1_1.out)
               rintro e w106 ⟨v227, rfl, ho0, hb⟩
               refine ⟨_, rfl, ?_⟩
               have n0_ := el HO192 (Kd.R_base ho0) hb
               have n1_ := el HO196 (Kd.R_base ho0) hb
               have n2_ := el HO200 (Kd.R_base ho0) hb
               have n3_ := el HO206 (Kd.R_base ho0) hb
               have n4_ := el HO211 (Kd.R_base ho0) hb
               have n5_ := el HO216 (Kd.R_base ho0) hb
               have n6_ := el HO223 (Kd.R_base ho0) hb
               have n7_ := am (Kd.R_lower (Kd.R_new' (Kd.R_new' (Kd.R_new' (Kd.R_new' (Kd.R_new' (Kd.R_new' (Kd.R_new' ho0 (Kd.R_lt (rz HO192.out))) (Kd.R_lt (rz HO196.out))) (Kd.R_lt (rz HO200.out))) (Kd.R_lt (rz HO206.out))) (Kd.R_lt (rz HO211.out))) (Kd.R_lt (rz HO216.out))) (Kd.R_lt (rz HO223.out))) (below_size (bw HB.out)))
               have n8_ := bk BK185 hb
               have n9_ := bk BK186 hb
               have n10_ := bk BK202 hb
               have n11_ := bk BK207 hb
               have n12_ := bk BK212 hb
               have n13_ := bk BK218 hb
               have n14_ := am (below_step (bw HB.out) hb)
               clear HO192 HO196 HO200 HO206 HO211 HO216 HO223 BK185 BK186 BK202 BK207 BK212 BK218 HB
               revert n0_ n1_ n2_ n3_ n4_ n5_ n6_ n7_ n8_ n9_ n10_ n11_ n12_ n13_ n14_; intro HO192 HO196 HO200 HO206 HO211 HO216 HO223 HO228 BK185 BK186 BK202 BK207 BK212 BK218 HB
               (try clear hb)
               (try clear hb2)
               (try clear hk)
               (try clear hi)
               (try clear ho0)
               obtain ⟨Ao107, co107, eo107⟩ := Kd.R_slice HO228.out
               (first | subst eo107 | (injection eo107 with f1_ f2_ f3_; have f4_ := f1_.symm; have f5_ := f3_.symm; clear f1_ f2_ f3_; subst f4_; subst f5_))
               refine hK.out _ _ ⟨(blk_cell BK212.out 0).trans rfl, (blk_cell BK212.out 1).trans rfl, (blk_cell BK186.out 0).trans rfl, (blk_cell BK186.out 1).trans rfl⟩ (fun hHeld => ?_)
               clear hK K
               refine norm_ (a' := ?_) ?_ ?_
               rotate_left
               ·show Act.put _ (some 61) _ = _
                simp only [Act.put, List.setIfInBounds_toArray, List.set_cons_zero, List.set_cons_succ, i64_w, i32_w]
                rfl
               refine one_ (i := 3) (N := some 62) #[true, true, true, true, false] rfl rfl (by kernel_rfl) (by decide) (fun K hK => ?_)
               refine goes_ Try.func18 (by kernel_rfl) rfl #[.agg #[.int .i64 t208, .slice Ao88 t209.length co88], .agg #[.int .i64 t225, .slice Ao107 t226.length co107]] (by rfl) rfl rfl (by (try simp only [List.map_toArray, List.map_cons, List.map_nil]); first | done | rfl | (simp only [List.length_drop, List.length_take]; rfl)) ?_
               with_reducible refine (laws_eqMatrix.calls k t208 _ _ t209 t225 _ _ t226 true _ ?side1 ?side2 ?side3 ?side4 A32.out).mono ?_
               (case side1 => repeat (first | exact (Kd.R_reads' HO211.out).2.2 | (with_reducible refine Kd.C_alloc ?_ _) | (with_reducible refine Kd.C_drewN ?_ _) | (with_reducible refine Kd.C_drew ?_)))
               (case side2 => exact (Kd.R_reads' HO211.out).2.1)
               (case side3 => repeat (first | exact (Kd.R_reads' HO228.out).2.2 | (with_reducible refine Kd.C_alloc ?_ _) | (with_reducible refine Kd.C_drewN ?_ _) | (with_reducible refine Kd.C_drew ?_)))
               (case side4 => exact (Kd.R_reads' HO228.out).2.1)
               rintro e w108 ⟨rfl, hb⟩
               refine ⟨_, rfl, ?_⟩
               have n0_ := am (Kd.R_below (rz HO192.out) hb)
               have n1_ := am (Kd.R_below (rz HO196.out) hb)
               have n2_ := am (Kd.R_below (rz HO200.out) hb)
               have n3_ := am (Kd.R_below (rz HO206.out) hb)
               have n4_ := am (Kd.R_below (rz HO211.out) hb)
               have n5_ := am (Kd.R_below (rz HO216.out) hb)
               have n6_ := am (Kd.R_below (rz HO223.out) hb)
               have n7_ := am (Kd.R_below (rz HO228.out) hb)
               have n8_ := bk BK185 hb
               have n9_ := bk BK186 hb
               have n10_ := bk BK202 hb
               have n11_ := bk BK207 hb
               have n12_ := bk BK212 hb
               have n13_ := bk BK218 hb
               have n14_ := am (below_step (bw HB.out) hb)
               clear HO192 HO196 HO200 HO206 HO211 HO216 HO223 HO228 BK185 BK186 BK202 BK207 BK212 BK218 HB
               revert n0_ n1_ n2_ n3_ n4_ n5_ n6_ n7_ n8_ n9_ n10_ n11_ n12_ n13_ n14_; intro HO192 HO196 HO200 HO206 HO211 HO216 HO223 HO228 BK185 BK186 BK202 BK207 BK212 BK218 HB
               (try clear hb)
               (try clear hb2)
               (try clear hk)
               (try clear hi)
               refine hK.out _ _ ⟨(blk_cell BK212.out 0).trans rfl, (blk_cell BK212.out 1).trans rfl, (blk_cell BK186.out 0).trans rfl, (blk_cell BK186.out 1).trans rfl⟩ (fun hHeld => ?_)
               clear hK K
               refine norm_ (a' := ?_) ?_ ?_
               rotate_left
               ·show Act.put _ (some 62) _ = _
                simp only [Act.put, List.setIfInBounds_toArray, List.set_cons_zero, List.set_cons_succ, i64_w, i32_w]
                rfl
               refine pure_ (i := 4) (N := some 63) (v := ?_) (a' := ?_) #[true, true, true, true, true] rfl rfl (by kernel_rfl) (fun _ _ _ h => h) (Or.inl ⟨by rfl, ?_⟩) ?_ ?_
               rotate_left
               ·intro w'
                go_simp
                with_reducible rfl
               rotate_left
               ·simp only [Act.put, List.setIfInBounds_toArray, List.set_cons_zero, List.set_cons_succ, i64_w, i32_w]
                rfl
               refine done_ (by kernel_rfl) ?_
               have hcz109_0 := cz20 BK207.out
               have hcz109_1 := cz21 BK207.out
               have hfz109_0 := blk_frozen BK207.out 0
               have hfz109_1 := blk_frozen BK207.out 1
               try go_wp2_with (first | ((with_reducible refine gate_callee (f := 21) rfl ?_); refine goesL_ (some 66) rfl rfl Try.func21 (by kernel_rfl) rfl #[.agg #[.int .i64 t203, .slice Ao78 t204.length co78], .int .i64 1] rfl (by (try simp only [List.map_toArray, List.map_cons, List.map_nil]); first | done | rfl | (simp only [List.length_drop, List.length_take]; rfl)) ?_; (with_reducible refine (laws_markMatrix.calls k t203 (fun k_ => some k_ = (.slice Ao78 t204.length co78 : Value).ownBlock) (.slice Ao78 t204.length co78) t204 1 t230 t231 w _ ?side1 ?side2 A34.out).mono ?_); (case side1 => repeat (first | (with_reducible first | exact HB.out | apply below_alloc | apply pw_below_drewN | apply below_drew1 | refine below_set ?_ GE185.out | refine below_set ?_ GE186.out | refine below_set ?_ GE202.out | refine below_set ?_ GE207.out | refine below_set ?_ GE212.out | refine below_set ?_ GE218.out) | exact HB.out)); (case side2 => exact Kd.R_tight rfl HO206.out); rintro e w110 ⟨rfl, hy0, hb, hkp⟩; refine ⟨_, rfl, ?_⟩; have n0_ := am (blk_kept (kz BK185.out) hkp (fun hs_ => (fun e_ => (Kd.R_ne HO206.out BK185.out (by decide)) e_) hs_)); have n1_ := am (blk_kept (kz BK186.out) hkp (fun hs_ => (fun e_ => (Kd.R_ne HO206.out BK186.out (by decide)) e_) hs_)); have n2_ := am (Kd.R_mono (ok' := fun k_ => some k_ ≠ (v195 : Value).ownBlock ∧ NS Ao68 t198 co68 k_ ∧ NS Ao78 t204 co78 k_ ∧ NS Ao88 t209 co88 k_ ∧ NS Ao98 t214 co98 k_ ∧ NS Ao103 t221 co103 k_ ∧ NS Ao107 t226 co107 k_) (Kd.R_keptB (HO192.out) hkp (fun k_ hk_ hs_ => (hk_.1.1.1.1.2) hs_)) (fun k_ hk_ => ⟨hk_.1.1.1.1.1.1.1, hk_.1.1.1.1.1.1.2, hk_.1.1.1.1.1.2, hk_.1.1.1.1.2, hk_.1.1.1.2, hk_.1.1.2, hk_.1.2⟩)); have n3_ := am (Kd.R_mono (ok' := fun k_ => some k_ ≠ (v191 : Value).ownBlock ∧ NS Ao68 t198 co68 k_ ∧ NS Ao78 t204 co78 k_ ∧ NS Ao88 t209 co88 k_ ∧ NS Ao98 t214 co98 k_ ∧ NS Ao103 t221 co103 k_ ∧ NS Ao107 t226 co107 k_) (Kd.R_keptB (HO196.out) hkp (fun k_ hk_ hs_ => (hk_.1.1.1.1.2) hs_)) (fun k_ hk_ => ⟨hk_.1.1.1.1.1.1.1, hk_.1.1.1.1.1.1.2, hk_.1.1.1.1.1.2, hk_.1.1.1.1.2, hk_.1.1.1.2, hk_.1.1.2, hk_.1.2⟩)); have n4_ := am (Kd.R_mono (ok' := fun k_ => some k_ ≠ (v191 : Value).ownBlock ∧ some k_ ≠ (v195 : Value).ownBlock ∧ NS Ao78 t204 co78 k_ ∧ NS Ao88 t209 co88 k_ ∧ NS Ao98 t214 co98 k_ ∧ NS Ao103 t221 co103 k_ ∧ NS Ao107 t226 co107 k_) (Kd.R_keptB (HO200.out) hkp (fun k_ hk_ hs_ => (hk_.1.1.1.1.2) hs_)) (fun k_ hk_ => ⟨hk_.1.1.1.1.1.1.1, hk_.1.1.1.1.1.1.2, hk_.1.1.1.1.1.2, hk_.1.1.1.1.2, hk_.1.1.1.2, hk_.1.1.2, hk_.1.2⟩)); have n5_ := am (blk_kept (kz BK202.out) hkp (fun hs_ => (fun e_ => (Kd.R_ne HO206.out BK202.out (by decide)) e_) hs_)); have n6_ := am (Kd.R_reok rfl hy0 (fun k_ e_ => HO206.out.1 k_ e_)); have n7_ := am (blk_kept (kz BK207.out) hkp (fun hs_ => (fun e_ => (Kd.R_ne HO206.out BK207.out (by decide)) e_) hs_)); have n8_ := am (Kd.R_mono (ok' := fun k_ => some k_ ≠ (v191 : Value).ownBlock ∧ some k_ ≠ (v195 : Value).ownBlock ∧ NS Ao68 t198 co68 k_ ∧ NS Ao78 t204 co78 k_ ∧ NS Ao98 t214 co98 k_ ∧ NS Ao103 t221 co103 k_ ∧ NS Ao107 t226 co107 k_) (Kd.R_keptB (HO211.out) hkp (fun k_ hk_ hs_ => (hk_.1.1.1.2) hs_)) (fun k_ hk_ => ⟨hk_.1.1.1.1.1.1.1.2, hk_.1.1.1.1.1.1.2, hk_.1.1.1.1.1.2, hk_.1.1.1.1.2, hk_.1.1.1.2, hk_.1.1.2, hk_.1.2⟩)); have n9_ := am (blk_kept (kz BK212.out) hkp (fun hs_ => (fun e_ => (Kd.R_ne HO206.out BK212.out (by decide)) e_) hs_)); have n10_ := am (Kd.R_mono (ok' := fun k_ => some k_ ≠ (v191 : Value).ownBlock ∧ some k_ ≠ (v195 : Value).ownBlock ∧ NS Ao68 t198 co68 k_ ∧ NS Ao78 t204 co78 k_ ∧ NS Ao88 t209 co88 k_ ∧ NS Ao103 t221 co103 k_ ∧ NS Ao107 t226 co107 k_) (Kd.R_keptB (HO216.out) hkp (fun k_ hk_ hs_ => (hk_.1.1.1.2) hs_)) (fun k_ hk_ => ⟨hk_.1.1.1.1.1.1.1.2, hk_.1.1.1.1.1.1.2, hk_.1.1.1.1.1.2, hk_.1.1.1.1.2, hk_.1.1.1.2, hk_.1.1.2, hk_.1.2⟩)); have n11_ := am (blk_kept (kz BK218.out) hkp (fun hs_ => (fun e_ => (Kd.R_ne HO206.out BK218.out (by decide)) e_) hs_)); have n12_ := am (Kd.R_mono (ok' := fun k_ => some k_ ≠ (v191 : Value).ownBlock ∧ some k_ ≠ (v195 : Value).ownBlock ∧ NS Ao68 t198 co68 k_ ∧ NS Ao78 t204 co78 k_ ∧ NS Ao88 t209 co88 k_ ∧ NS Ao98 t214 co98 k_ ∧ NS Ao107 t226 co107 k_) (Kd.R_keptB (HO223.out) hkp (fun k_ hk_ hs_ => (hk_.1.1.1.2) hs_)) (fun k_ hk_ => ⟨hk_.1.1.1.1.1.1.1.2, hk_.1.1.1.1.1.1.2, hk_.1.1.1.1.1.2, hk_.1.1.1.1.2, hk_.1.1.1.2, hk_.1.1.2, hk_.1.2⟩)); have n13_ := am (Kd.R_mono (ok' := fun k_ => some k_ ≠ (v191 : Value).ownBlock ∧ some k_ ≠ (v195 : Value).ownBlock ∧ NS Ao68 t198 co68 k_ ∧ NS Ao78 t204 co78 k_ ∧ NS Ao88 t209 co88 k_ ∧ NS Ao98 t214 co98 k_ ∧ NS Ao103 t221 co103 k_) (Kd.R_keptB (HO228.out) hkp (fun k_ hk_ hs_ => (hk_.1.1.1.2) hs_)) (fun k_ hk_ => ⟨hk_.1.1.1.1.1.1.1.2, hk_.1.1.1.1.1.1.2, hk_.1.1.1.1.1.2, hk_.1.1.1.1.2, hk_.1.1.1.2, hk_.1.1.2, hk_.1.2⟩)); have n14_ := am (hb); clear BK185 BK186 HO192 HO196 HO200 BK202 HO206 BK207 HO211 BK212 HO216 BK218 HO223 HO228 HB; revert n0_ n1_ n2_ n3_ n4_ n5_ n6_ n7_ n8_ n9_ n10_ n11_ n12_ n13_ n14_; intro BK185 BK186 HO192 HO196 HO200 BK202 HO206 BK207 HO211 BK212 HO216 BK218 HO223 HO228 HB; (try clear hb); (try clear hkp); (try clear hy0); have hcz111_0 := cz20 BK212.out; have hcz111_1 := cz21 BK212.out; have hfz111_0 := blk_frozen BK212.out 0; have hfz111_1 := blk_frozen BK212.out 1) | ((with_reducible refine gate_callee (f := 21) rfl ?_); refine goesL_ (some 69) rfl rfl Try.func21 (by kernel_rfl) rfl #[.agg #[.int .i64 t208, .slice Ao88 t209.length co88], .int .i64 t230] rfl (by (try simp only [List.map_toArray, List.map_cons, List.map_nil]); first | done | rfl | (simp only [List.length_drop, List.length_take]; rfl)) ?_; (with_reducible refine (laws_markMatrix.calls k t208 (fun k_ => some k_ = (.slice Ao88 t209.length co88 : Value).ownBlock) (.slice Ao88 t209.length co88) t209 t230 t232 t233 w _ ?side1 ?side2 A35.out).mono ?_); (case side1 => repeat (first | (with_reducible first | exact HB.out | apply below_alloc | apply pw_below_drewN | apply below_drew1 | refine below_set ?_ GE185.out | refine below_set ?_ GE186.out | refine below_set ?_ GE202.out | refine below_set ?_ GE207.out | refine below_set ?_ GE212.out | refine below_set ?_ GE218.out) | exact HB.out)); (case side2 => exact Kd.R_tight rfl HO211.out); rintro e w112 ⟨rfl, hy0, hb, hkp⟩; refine ⟨_, rfl, ?_⟩; have n0_ := am (blk_kept (kz BK185.out) hkp (fun hs_ => (fun e_ => (Kd.R_ne HO211.out BK185.out (by decide)) e_) hs_)); have n1_ := am (blk_kept (kz BK186.out) hkp (fun hs_ => (fun e_ => (Kd.R_ne HO211.out BK186.out (by decide)) e_) hs_)); have n2_ := am (Kd.R_mono (ok' := fun k_ => some k_ ≠ (v195 : Value).ownBlock ∧ NS Ao68 t198 co68 k_ ∧ NS Ao78 t204 co78 k_ ∧ NS Ao88 t209 co88 k_ ∧ NS Ao98 t214 co98 k_ ∧ NS Ao103 t221 co103 k_ ∧ NS Ao107 t226 co107 k_) (Kd.R_keptB (HO192.out) hkp (fun k_ hk_ hs_ => (hk_.2.2.2.1) hs_)) (fun k_ hk_ => ⟨hk_.1.1, hk_.1.2.1, hk_.1.2.2.1, hk_.1.2.2.2.1, hk_.1.2.2.2.2.1, hk_.1.2.2.2.2.2.1, hk_.1.2.2.2.2.2.2⟩)); have n3_ := am (Kd.R_mono (ok' := fun k_ => some k_ ≠ (v191 : Value).ownBlock ∧ NS Ao68 t198 co68 k_ ∧ NS Ao78 t204 co78 k_ ∧ NS Ao88 t209 co88 k_ ∧ NS Ao98 t214 co98 k_ ∧ NS Ao103 t221 co103 k_ ∧ NS Ao107 t226 co107 k_) (Kd.R_keptB (HO196.out) hkp (fun k_ hk_ hs_ => (hk_.2.2.2.1) hs_)) (fun k_ hk_ => ⟨hk_.1.1, hk_.1.2.1, hk_.1.2.2.1, hk_.1.2.2.2.1, hk_.1.2.2.2.2.1, hk_.1.2.2.2.2.2.1, hk_.1.2.2.2.2.2.2⟩)); have n4_ := am (Kd.R_mono (ok' := fun k_ => some k_ ≠ (v191 : Value).ownBlock ∧ some k_ ≠ (v195 : Value).ownBlock ∧ NS Ao78 t204 co78 k_ ∧ NS Ao88 t209 co88 k_ ∧ NS Ao98 t214 co98 k_ ∧ NS Ao103 t221 co103 k_ ∧ NS Ao107 t226 co107 k_) (Kd.R_keptB (HO200.out) hkp (fun k_ hk_ hs_ => (hk_.2.2.2.1) hs_)) (fun k_ hk_ => ⟨hk_.1.1, hk_.1.2.1, hk_.1.2.2.1, hk_.1.2.2.2.1, hk_.1.2.2.2.2.1, hk_.1.2.2.2.2.2.1, hk_.1.2.2.2.2.2.2⟩)); have n5_ := am (blk_kept (kz BK202.out) hkp (fun hs_ => (fun e_ => (Kd.R_ne HO211.out BK202.out (by decide)) e_) hs_)); have n6_ := am (Kd.R_mono (ok' := fun k_ => some k_ ≠ (v191 : Value).ownBlock ∧ some k_ ≠ (v195 : Value).ownBlock ∧ NS Ao68 t198 co68 k_ ∧ NS Ao88 t209 co88 k_ ∧ NS Ao98 t214 co98 k_ ∧ NS Ao103 t221 co103 k_ ∧ NS Ao107 t226 co107 k_) (Kd.R_keptB (HO206.out) hkp (fun k_ hk_ hs_ => (hk_.1.1.1.2) hs_)) (fun k_ hk_ => ⟨hk_.1.1.1.1.1.1.1.2, hk_.1.1.1.1.1.1.2, hk_.1.1.1.1.1.2, hk_.1.1.1.1.2, hk_.1.1.1.2, hk_.1.1.2, hk_.1.2⟩)); have n7_ := am (blk_kept (kz BK207.out) hkp (fun hs_ => (fun e_ => (Kd.R_ne HO211.out BK207.out (by decide)) e_) hs_)); have n8_ := am (Kd.R_reok rfl hy0 (fun k_ e_ => HO211.out.1 k_ e_)); have n9_ := am (blk_kept (kz BK212.out) hkp (fun hs_ => (fun e_ => (Kd.R_ne HO211.out BK212.out (by decide)) e_) hs_)); have n10_ := am (Kd.R_mono (ok' := fun k_ => some k_ ≠ (v191 : Value).ownBlock ∧ some k_ ≠ (v195 : Value).ownBlock ∧ NS Ao68 t198 co68 k_ ∧ NS Ao78 t204 co78 k_ ∧ NS Ao88 t209 co88 k_ ∧ NS Ao103 t221 co103 k_ ∧ NS Ao107 t226 co107 k_) (Kd.R_keptB (HO216.out) hkp (fun k_ hk_ hs_ => (hk_.2.2.2.2.1) hs_)) (fun k_ hk_ => ⟨hk_.1.1, hk_.1.2.1, hk_.1.2.2.1, hk_.1.2.2.2.1, hk_.1.2.2.2.2.1, hk_.1.2.2.2.2.2.1, hk_.1.2.2.2.2.2.2⟩)); have n11_ := am (blk_kept (kz BK218.out) hkp (fun hs_ => (fun e_ => (Kd.R_ne HO211.out BK218.out (by decide)) e_) hs_)); have n12_ := am (Kd.R_mono (ok' := fun k_ => some k_ ≠ (v191 : Value).ownBlock ∧ some k_ ≠ (v195 : Value).ownBlock ∧ NS Ao68 t198 co68 k_ ∧ NS Ao78 t204 co78 k_ ∧ NS Ao88 t209 co88 k_ ∧ NS Ao98 t214 co98 k_ ∧ NS Ao107 t226 co107 k_) (Kd.R_keptB (HO223.out) hkp (fun k_ hk_ hs_ => (hk_.2.2.2.2.1) hs_)) (fun k_ hk_ => ⟨hk_.1.1, hk_.1.2.1, hk_.1.2.2.1, hk_.1.2.2.2.1, hk_.1.2.2.2.2.1, hk_.1.2.2.2.2.2.1, hk_.1.2.2.2.2.2.2⟩)); have n13_ := am (Kd.R_mono (ok' := fun k_ => some k_ ≠ (v191 : Value).ownBlock ∧ some k_ ≠ (v195 : Value).ownBlock ∧ NS Ao68 t198 co68 k_ ∧ NS Ao78 t204 co78 k_ ∧ NS Ao88 t209 co88 k_ ∧ NS Ao98 t214 co98 k_ ∧ NS Ao103 t221 co103 k_) (Kd.R_keptB (HO228.out) hkp (fun k_ hk_ hs_ => (hk_.2.2.2.2.1) hs_)) (fun k_ hk_ => ⟨hk_.1.1, hk_.1.2.1, hk_.1.2.2.1, hk_.1.2.2.2.1, hk_.1.2.2.2.2.1, hk_.1.2.2.2.2.2.1, hk_.1.2.2.2.2.2.2⟩)); have n14_ := am (hb); clear BK185 BK186 HO192 HO196 HO200 BK202 HO206 BK207 HO211 BK212 HO216 BK218 HO223 HO228 HB; revert n0_ n1_ n2_ n3_ n4_ n5_ n6_ n7_ n8_ n9_ n10_ n11_ n12_ n13_ n14_; intro BK185 BK186 HO192 HO196 HO200 BK202 HO206 BK207 HO211 BK212 HO216 BK218 HO223 HO228 HB; (try clear hb); (try clear hkp); (try clear hy0); have hcz113_0 := cz20 BK218.out; have hcz113_1 := cz21 BK218.out; have hfz113_0 := blk_frozen BK218.out 0; have hfz113_1 := blk_frozen BK218.out 1; have hcz114_0 : w112.cell? ⟨gb202, 0, none⟩ = some (.int .i64 t197) := (blk_cell BK202.out 0).trans rfl; have hcz114_1 : w112.cell? ⟨gb202, 1, none⟩ = some (.slice Ao68 t198.length co68) := (blk_cell BK202.out 1).trans rfl; have hfz114_0 := blk_frozen BK202.out 0; have hfz114_1 := blk_frozen BK202.out 1) | (go_at_call 18; (with_reducible refine (laws_eqMatrix.calls k t213 _ _ t214 t197 _ _ t198 true _ ?side1 ?side2 ?side3 ?side4 A37.out).mono ?_); (case side1 => repeat (first | exact (Kd.R_reads' HO216.out).2.2 | (with_reducible refine Kd.C_alloc ?_ _) | (with_reducible refine Kd.C_drewN ?_ _) | (with_reducible refine Kd.C_drew ?_))); (case side2 => exact (Kd.R_reads' HO216.out).2.1); (case side3 => repeat (first | exact (Kd.R_reads' HO200.out).2.2 | (with_reducible refine Kd.C_alloc ?_ _) | (with_reducible refine Kd.C_drewN ?_ _) | (with_reducible refine Kd.C_drew ?_))); (case side4 => exact (Kd.R_reads' HO200.out).2.1); rintro e w115 ⟨rfl, hb⟩; have n0_ := am (Kd.R_below (rz HO192.out) hb); have n1_ := am (Kd.R_below (rz HO196.out) hb); have n2_ := am (Kd.R_below (rz HO200.out) hb); have n3_ := am (Kd.R_below (rz HO206.out) hb); have n4_ := am (Kd.R_below (rz HO211.out) hb); have n5_ := am (Kd.R_below (rz HO216.out) hb); have n6_ := am (Kd.R_below (rz HO223.out) hb); have n7_ := am (Kd.R_below (rz HO228.out) hb); have n8_ := bk BK185 hb; have n9_ := bk BK186 hb; have n10_ := bk BK202 hb; have n11_ := bk BK207 hb; have n12_ := bk BK212 hb; have n13_ := bk BK218 hb; have n14_ := am (below_step (bw HB.out) hb); clear HO192 HO196 HO200 HO206 HO211 HO216 HO223 HO228 BK185 BK186 BK202 BK207 BK212 BK218 HB; revert n0_ n1_ n2_ n3_ n4_ n5_ n6_ n7_ n8_ n9_ n10_ n11_ n12_ n13_ n14_; intro HO192 HO196 HO200 HO206 HO211 HO216 HO223 HO228 BK185 BK186 BK202 BK207 BK212 BK218 HB; (try clear hb); (try clear hb2); (try clear hk); (try clear hi); have hcz116_0 := cz20 BK218.out; have hcz116_1 := cz21 BK218.out; have hfz116_0 := blk_frozen BK218.out 0; have hfz116_1 := blk_frozen BK218.out 1) | ((with_reducible refine gate_callee (f := 21) rfl ?_); refine goesL_ (some 85) rfl rfl Try.func21 (by kernel_rfl) rfl #[.agg #[.int .i64 t213, .slice Ao98 t214.length co98], .int .i64 1] rfl (by (try simp only [List.map_toArray, List.map_cons, List.map_nil]); first | done | rfl | (simp only [List.length_drop, List.length_take]; rfl)) ?_; (with_reducible refine (laws_markMatrix.calls k t213 (fun k_ => some k_ = (.slice Ao98 t214.length co98 : Value).ownBlock) (.slice Ao98 t214.length co98) t214 1 t235 t236 w _ ?side1 ?side2 A39.out).mono ?_); (case side1 => repeat (first | (with_reducible first | exact HB.out | apply below_alloc | apply pw_below_drewN | apply below_drew1 | refine below_set ?_ GE185.out | refine below_set ?_ GE186.out | refine below_set ?_ GE202.out | refine below_set ?_ GE207.out | refine below_set ?_ GE212.out | refine below_set ?_ GE218.out) | exact HB.out)); (case side2 => exact Kd.R_tight rfl HO216.out); rintro e w117 ⟨rfl, hy0, hb, hkp⟩; refine ⟨_, rfl, ?_⟩; have n0_ := am (blk_kept (kz BK185.out) hkp (fun hs_ => (fun e_ => (Kd.R_ne HO216.out BK185.out (by decide)) e_) hs_)); have n1_ := am (blk_kept (kz BK186.out) hkp (fun hs_ => (fun e_ => (Kd.R_ne HO216.out BK186.out (by decide)) e_) hs_)); have n2_ := am (Kd.R_mono (ok' := fun k_ => some k_ ≠ (v195 : Value).ownBlock ∧ NS Ao68 t198 co68 k_ ∧ NS Ao78 t204 co78 k_ ∧ NS Ao88 t209 co88 k_ ∧ NS Ao98 t214 co98 k_ ∧ NS Ao103 t221 co103 k_ ∧ NS Ao107 t226 co107 k_) (Kd.R_keptB (HO192.out) hkp (fun k_ hk_ hs_ => (hk_.2.2.2.2.1) hs_)) (fun k_ hk_ => ⟨hk_.1.1, hk_.1.2.1, hk_.1.2.2.1, hk_.1.2.2.2.1, hk_.1.2.2.2.2.1, hk_.1.2.2.2.2.2.1, hk_.1.2.2.2.2.2.2⟩)); have n3_ := am (Kd.R_mono (ok' := fun k_ => some k_ ≠ (v191 : Value).ownBlock ∧ NS Ao68 t198 co68 k_ ∧ NS Ao78 t204 co78 k_ ∧ NS Ao88 t209 co88 k_ ∧ NS Ao98 t214 co98 k_ ∧ NS Ao103 t221 co103 k_ ∧ NS Ao107 t226 co107 k_) (Kd.R_keptB (HO196.out) hkp (fun k_ hk_ hs_ => (hk_.2.2.2.2.1) hs_)) (fun k_ hk_ => ⟨hk_.1.1, hk_.1.2.1, hk_.1.2.2.1, hk_.1.2.2.2.1, hk_.1.2.2.2.2.1, hk_.1.2.2.2.2.2.1, hk_.1.2.2.2.2.2.2⟩)); have n4_ := am (Kd.R_mono (ok' := fun k_ => some k_ ≠ (v191 : Value).ownBlock ∧ some k_ ≠ (v195 : Value).ownBlock ∧ NS Ao78 t204 co78 k_ ∧ NS Ao88 t209 co88 k_ ∧ NS Ao98 t214 co98 k_ ∧ NS Ao103 t221 co103 k_ ∧ NS Ao107 t226 co107 k_) (Kd.R_keptB (HO200.out) hkp (fun k_ hk_ hs_ => (hk_.2.2.2.2.1) hs_)) (fun k_ hk_ => ⟨hk_.1.1, hk_.1.2.1, hk_.1.2.2.1, hk_.1.2.2.2.1, hk_.1.2.2.2.2.1, hk_.1.2.2.2.2.2.1, hk_.1.2.2.2.2.2.2⟩)); have n5_ := am (blk_kept (kz BK202.out) hkp (fun hs_ => (fun e_ => (Kd.R_ne HO216.out BK202.out (by decide)) e_) hs_)); have n6_ := am (Kd.R_mono (ok' := fun k_ => some k_ ≠ (v191 : Value).ownBlock ∧ some k_ ≠ (v195 : Value).ownBlock ∧ NS Ao68 t198 co68 k_ ∧ NS Ao88 t209 co88 k_ ∧ NS Ao98 t214 co98 k_ ∧ NS Ao103 t221 co103 k_ ∧ NS Ao107 t226 co107 k_) (Kd.R_keptB (HO206.out) hkp (fun k_ hk_ hs_ => (hk_.2.2.2.2.1) hs_)) (fun k_ hk_ => ⟨hk_.1.1, hk_.1.2.1, hk_.1.2.2.1, hk_.1.2.2.2.1, hk_.1.2.2.2.2.1, hk_.1.2.2.2.2.2.1, hk_.1.2.2.2.2.2.2⟩)); have n7_ := am (blk_kept (kz BK207.out) hkp (fun hs_ => (fun e_ => (Kd.R_ne HO216.out BK207.out (by decide)) e_) hs_)); have n8_ := am (Kd.R_mono (ok' := fun k_ => some k_ ≠ (v191 : Value).ownBlock ∧ some k_ ≠ (v195 : Value).ownBlock ∧ NS Ao68 t198 co68 k_ ∧ NS Ao78 t204 co78 k_ ∧ NS Ao98 t214 co98 k_ ∧ NS Ao103 t221 co103 k_ ∧ NS Ao107 t226 co107 k_) (Kd.R_keptB (HO211.out) hkp (fun k_ hk_ hs_ => (hk_.2.2.2.2.1) hs_)) (fun k_ hk_ => ⟨hk_.1.1, hk_.1.2.1, hk_.1.2.2.1, hk_.1.2.2.2.1, hk_.1.2.2.2.2.1, hk_.1.2.2.2.2.2.1, hk_.1.2.2.2.2.2.2⟩)); have n9_ := am (blk_kept (kz BK212.out) hkp (fun hs_ => (fun e_ => (Kd.R_ne HO216.out BK212.out (by decide)) e_) hs_)); have n10_ := am (Kd.R_reok rfl hy0 (fun k_ e_ => HO216.out.1 k_ e_)); have n11_ := am (blk_kept (kz BK218.out) hkp (fun hs_ => (fun e_ => (Kd.R_ne HO216.out BK218.out (by decide)) e_) hs_)); have n12_ := am (Kd.R_mono (ok' := fun k_ => some k_ ≠ (v191 : Value).ownBlock ∧ some k_ ≠ (v195 : Value).ownBlock ∧ NS Ao68 t198 co68 k_ ∧ NS Ao78 t204 co78 k_ ∧ NS Ao88 t209 co88 k_ ∧ NS Ao98 t214 co98 k_ ∧ NS Ao107 t226 co107 k_) (Kd.R_keptB (HO223.out) hkp (fun k_ hk_ hs_ => (hk_.2.2.2.2.2.1) hs_)) (fun k_ hk_ => ⟨hk_.1.1, hk_.1.2.1, hk_.1.2.2.1, hk_.1.2.2.2.1, hk_.1.2.2.2.2.1, hk_.1.2.2.2.2.2.1, hk_.1.2.2.2.2.2.2⟩)); have n13_ := am (Kd.R_mono (ok' := fun k_ => some k_ ≠ (v191 : Value).ownBlock ∧ some k_ ≠ (v195 : Value).ownBlock ∧ NS Ao68 t198 co68 k_ ∧ NS Ao78 t204 co78 k_ ∧ NS Ao88 t209 co88 k_ ∧ NS Ao98 t214 co98 k_ ∧ NS Ao103 t221 co103 k_) (Kd.R_keptB (HO228.out) hkp (fun k_ hk_ hs_ => (hk_.2.2.2.2.2.1) hs_)) (fun k_ hk_ => ⟨hk_.1.1, hk_.1.2.1, hk_.1.2.2.1, hk_.1.2.2.2.1, hk_.1.2.2.2.2.1, hk_.1.2.2.2.2.2.1, hk_.1.2.2.2.2.2.2⟩)); have n14_ := am (hb); clear BK185 BK186 HO192 HO196 HO200 BK202 HO206 BK207 HO211 BK212 HO216 BK218 HO223 HO228 HB; revert n0_ n1_ n2_ n3_ n4_ n5_ n6_ n7_ n8_ n9_ n10_ n11_ n12_ n13_ n14_; intro BK185 BK186 HO192 HO196 HO200 BK202 HO206 BK207 HO211 BK212 HO216 BK218 HO223 HO228 HB; (try clear hb); (try clear hkp); (try clear hy0); have hcz118_0 := cz20 BK218.out; have hcz118_1 := cz21 BK218.out; have hfz118_0 := blk_frozen BK218.out 0; have hfz118_1 := blk_frozen BK218.out 1) | ((with_reducible refine gate_callee (f := 22) rfl ?_); refine goesL_ (some 88) rfl rfl Try.func22 (by kernel_rfl) rfl #[.agg #[.int .i64 t213, .slice Ao98 t236.length co98], .int .i64 1] rfl (by (try simp only [List.map_toArray, List.map_cons, List.map_nil]); first | done | (rw [show t236.length = t214.length from (Kd.R_reads' HO216.out).1.symm] <;> rfl) | rfl | (simp only [List.length_drop, List.length_take]; rfl)) ?_; (with_reducible refine (laws_heldMatrix.calls k t213 _ _ t236 1 t237 _ ?side1 ?side2 A40.out).mono ?_); (case side1 => repeat (first | exact (Kd.R_reads' HO216.out).2.2 | (with_reducible refine Kd.C_alloc ?_ _) | (with_reducible refine Kd.C_drewN ?_ _) | (with_reducible refine Kd.C_drew ?_))); (case side2 => rw [show t236.length = t214.length from (Kd.R_reads' HO216.out).1.symm]; exact (Kd.R_reads' HO216.out).2.1); rintro e w119 ⟨rfl, hb⟩; refine ⟨_, rfl, ?_⟩; have n0_ := am (Kd.R_below (rz HO192.out) hb); have n1_ := am (Kd.R_below (rz HO196.out) hb); have n2_ := am (Kd.R_below (rz HO200.out) hb); have n3_ := am (Kd.R_below (rz HO206.out) hb); have n4_ := am (Kd.R_below (rz HO211.out) hb); have n5_ := am (Kd.R_below (rz HO216.out) hb); have n6_ := am (Kd.R_below (rz HO223.out) hb); have n7_ := am (Kd.R_below (rz HO228.out) hb); have n8_ := bk BK185 hb; have n9_ := bk BK186 hb; have n10_ := bk BK202 hb; have n11_ := bk BK207 hb; have n12_ := bk BK212 hb; have n13_ := bk BK218 hb; have n14_ := am (below_step (bw HB.out) hb); clear HO192 HO196 HO200 HO206 HO211 HO216 HO223 HO228 BK185 BK186 BK202 BK207 BK212 BK218 HB; revert n0_ n1_ n2_ n3_ n4_ n5_ n6_ n7_ n8_ n9_ n10_ n11_ n12_ n13_ n14_; intro HO192 HO196 HO200 HO206 HO211 HO216 HO223 HO228 BK185 BK186 BK202 BK207 BK212 BK218 HB; (try clear hb); (try clear hb2); (try clear hk); (try clear hi)))
               have n0_ := am (Kd.R_drew HO192.out)
               have n1_ := am (Kd.R_drew HO196.out)
               have n2_ := am (Kd.R_drew HO200.out)
               have n3_ := am (Kd.R_drew HO206.out)
               have n4_ := am (Kd.R_drew HO211.out)
               have n5_ := am (Kd.R_drew HO216.out)
               have n6_ := am (Kd.R_drew HO223.out)
               have n7_ := am (Kd.R_drew HO228.out)
               have n8_ := am (blk_drew BK185.out)
               have n9_ := am (blk_drew BK186.out)
               have n10_ := am (blk_drew BK202.out)
               have n11_ := am (blk_drew BK207.out)
               have n12_ := am (blk_drew BK212.out)
               have n13_ := am (blk_drew BK218.out)
               have n14_ := am (below_drew1 HB.out)
               clear HO192 HO196 HO200 HO206 HO211 HO216 HO223 HO228 BK185 BK186 BK202 BK207 BK212 BK218 HB
               revert n0_ n1_ n2_ n3_ n4_ n5_ n6_ n7_ n8_ n9_ n10_ n11_ n12_ n13_ n14_; intro HO192 HO196 HO200 HO206 HO211 HO216 HO223 HO228 BK185 BK186 BK202 BK207 BK212 BK218 HB
               refine start_ (n := 11) (S := fun w' => w'.cell? ⟨gb185, 0, none⟩ = some (.int .i64 a0_0) ∧ w'.cell? ⟨gb185, 1, none⟩ = some (.slice A0_1 l0_1.length c0_1) ∧ w'.cell? ⟨gb186, 0, none⟩ = some (.int .i64 a1_0) ∧ w'.cell? ⟨gb186, 1, none⟩ = some (.slice A1_1 l1_1.length c1_1)) (ds := []) (mk 11 0) (by kernel_rfl) rfl rfl ⟨(blk_cell BK185.out 0).trans rfl, (blk_cell BK185.out 1).trans rfl, (blk_cell BK186.out 0).trans rfl, (blk_cell BK186.out 1).trans rfl⟩ (fun hHeld => ?_); refine with_tabW laws_FnExactMinMatrix.tab31 laws_FnExactMinMatrix.bits31 (fun HT_ HW_ => ?_)
               generalize w119.drew = w120 at HO192 HO196 HO200 HO206 HO211 HO216 HO223 HO228 BK185 BK186 BK202 BK207 BK212 BK218 HB hHeld ⊢
               refine take_ (i := 0) (N := some 95) (v := ?_) (a' := ?_) (mk 11 1) rfl rfl (take_ofW HT_.out HW_.out (by kernel_rfl)) (fun _ _ _ h => h) (Or.inl ⟨by rfl, ?_⟩) hHeld ?_ ?_
               rotate_left
               ·rintro w' ⟨s0, s1, s2, s3⟩
                go_simp
                with_reducible rfl
               rotate_left
               ·simp only [Act.put, List.setIfInBounds_toArray, List.set_cons_zero, List.set_cons_succ, i64_w, i32_w]
                rfl
               refine take_ (i := 2) (N := some 97) (v := ?_) (a' := ?_) (mk 11 5) rfl rfl (take_ofW HT_.out HW_.out (by kernel_rfl)) (fun _ _ _ h => h) (Or.inl ⟨by rfl, ?_⟩) hHeld ?_ ?_
               rotate_left
               ·rintro w' ⟨s0, s1, s2, s3⟩
                go_simp
                with_reducible rfl
               rotate_left
               ·simp only [Act.put, List.setIfInBounds_toArray, List.set_cons_zero, List.set_cons_succ, i64_w, i32_w]
                rfl
               refine join_ (σ := Value × Value × Value × Nat) 2 (mk 11 511) (fun s_ => [(96, .agg #[.int .i64 t238, s_.1]), (98, .agg #[.int .i64 t242, s_.2.1]), (99, .tuple #[.agg #[.int .i64 t246, s_.2.2.1], .bool t250]), (15, .pointer (some ⟨s_.2.2.2, 0, none⟩)), (94, .tuple #[.agg #[.int .i64 t246, s_.2.2.1], .bool t250]), (100, .agg #[.int .i64 t246, s_.2.2.1]), (101, .bool t250)]) (fun s_ w' => (w'.cell? ⟨gb185, 0, none⟩ = some (.int .i64 a0_0) ∧ w'.cell? ⟨gb185, 1, none⟩ = some (.slice A0_1 l0_1.length c0_1) ∧ w'.cell? ⟨gb186, 0, none⟩ = some (.int .i64 a1_0) ∧ w'.cell? ⟨gb186, 1, none⟩ = some (.slice A1_1 l1_1.length c1_1)) ∧ (Kd.R (Kd.int .i64) 3 w' w.heap.size (fun k_ => some k_ ≠ (v195 : Value).ownBlock ∧ NS Ao68 t198 co68 k_ ∧ NS Ao78 t204 co78 k_ ∧ NS Ao88 t209 co88 k_ ∧ NS Ao98 t214 co98 k_ ∧ NS Ao103 t221 co103 k_ ∧ NS Ao107 t226 co107 k_ ∧ some k_ ≠ (s_.1 : Value).ownBlock ∧ some k_ ≠ (s_.2.1 : Value).ownBlock ∧ some k_ ≠ (s_.2.2.1 : Value).ownBlock) v191 t190) ∧ (Kd.R (Kd.int .i64) 3 w' w.heap.size (fun k_ => some k_ ≠ (v191 : Value).ownBlock ∧ NS Ao68 t198 co68 k_ ∧ NS Ao78 t204 co78 k_ ∧ NS Ao88 t209 co88 k_ ∧ NS Ao98 t214 co98 k_ ∧ NS Ao103 t221 co103 k_ ∧ NS Ao107 t226 co107 k_ ∧ some k_ ≠ (s_.1 : Value).ownBlock ∧ some k_ ≠ (s_.2.1 : Value).ownBlock ∧ some k_ ≠ (s_.2.2.1 : Value).ownBlock) v195 t194) ∧ (Kd.R (Kd.int .i64) 3 w' w.heap.size (fun k_ => some k_ ≠ (v191 : Value).ownBlock ∧ some k_ ≠ (v195 : Value).ownBlock ∧ NS Ao78 t204 co78 k_ ∧ NS Ao88 t209 co88 k_ ∧ NS Ao98 t214 co98 k_ ∧ NS Ao103 t221 co103 k_ ∧ NS Ao107 t226 co107 k_ ∧ some k_ ≠ (s_.1 : Value).ownBlock ∧ some k_ ≠ (s_.2.1 : Value).ownBlock ∧ some k_ ≠ (s_.2.2.1 : Value).ownBlock) (.slice Ao68 t198.length co68) t198) ∧ (Kd.R (Kd.int .i64) 3 w' w.heap.size (fun k_ => some k_ ≠ (v191 : Value).ownBlock ∧ some k_ ≠ (v195 : Value).ownBlock ∧ NS Ao68 t198 co68 k_ ∧ NS Ao88 t209 co88 k_ ∧ NS Ao98 t214 co98 k_ ∧ NS Ao103 t221 co103 k_ ∧ NS Ao107 t226 co107 k_ ∧ some k_ ≠ (s_.1 : Value).ownBlock ∧ some k_ ≠ (s_.2.1 : Value).ownBlock ∧ some k_ ≠ (s_.2.2.1 : Value).ownBlock) (.slice Ao78 t204.length co78) t231) ∧ (Kd.R (Kd.int .i64) 3 w' w.heap.size (fun k_ => some k_ ≠ (v191 : Value).ownBlock ∧ some k_ ≠ (v195 : Value).ownBlock ∧ NS Ao68 t198 co68 k_ ∧ NS Ao78 t204 co78 k_ ∧ NS Ao98 t214 co98 k_ ∧ NS Ao103 t221 co103 k_ ∧ NS Ao107 t226 co107 k_ ∧ some k_ ≠ (s_.1 : Value).ownBlock ∧ some k_ ≠ (s_.2.1 : Value).ownBlock ∧ some k_ ≠ (s_.2.2.1 : Value).ownBlock) (.slice Ao88 t209.length co88) t233) ∧ (Kd.R (Kd.int .i64) 3 w' w.heap.size (fun k_ => some k_ ≠ (v191 : Value).ownBlock ∧ some k_ ≠ (v195 : Value).ownBlock ∧ NS Ao68 t198 co68 k_ ∧ NS Ao78 t204 co78 k_ ∧ NS Ao88 t209 co88 k_ ∧ NS Ao103 t221 co103 k_ ∧ NS Ao107 t226 co107 k_ ∧ some k_ ≠ (s_.1 : Value).ownBlock ∧ some k_ ≠ (s_.2.1 : Value).ownBlock ∧ some k_ ≠ (s_.2.2.1 : Value).ownBlock) (.slice Ao98 t214.length co98) t236) ∧ (Kd.R (Kd.int .i64) 3 w' w.heap.size (fun k_ => some k_ ≠ (v191 : Value).ownBlock ∧ some k_ ≠ (v195 : Value).ownBlock ∧ NS Ao68 t198 co68 k_ ∧ NS Ao78 t204 co78 k_ ∧ NS Ao88 t209 co88 k_ ∧ NS Ao98 t214 co98 k_ ∧ NS Ao107 t226 co107 k_ ∧ some k_ ≠ (s_.1 : Value).ownBlock ∧ some k_ ≠ (s_.2.1 : Value).ownBlock ∧ some k_ ≠ (s_.2.2.1 : Value).ownBlock) (.slice Ao103 t221.length co103) t221) ∧ (Kd.R (Kd.int .i64) 3 w' w.heap.size (fun k_ => some k_ ≠ (v191 : Value).ownBlock ∧ some k_ ≠ (v195 : Value).ownBlock ∧ NS Ao68 t198 co68 k_ ∧ NS Ao78 t204 co78 k_ ∧ NS Ao88 t209 co88 k_ ∧ NS Ao98 t214 co98 k_ ∧ NS Ao103 t221 co103 k_ ∧ some k_ ≠ (s_.1 : Value).ownBlock ∧ some k_ ≠ (s_.2.1 : Value).ownBlock ∧ some k_ ≠ (s_.2.2.1 : Value).ownBlock) (.slice Ao107 t226.length co107) t226) ∧ (Kd.R (Kd.int .i64) 3 w' w.heap.size (fun k_ => some k_ ≠ (v191 : Value).ownBlock ∧ some k_ ≠ (v195 : Value).ownBlock ∧ NS Ao68 t198 co68 k_ ∧ NS Ao78 t204 co78 k_ ∧ NS Ao88 t209 co88 k_ ∧ NS Ao98 t214 co98 k_ ∧ NS Ao103 t221 co103 k_ ∧ NS Ao107 t226 co107 k_ ∧ some k_ ≠ (s_.2.1 : Value).ownBlock ∧ some k_ ≠ (s_.2.2.1 : Value).ownBlock) s_.1 t239) ∧ (Kd.R (Kd.int .i64) 3 w' w.heap.size (fun k_ => some k_ ≠ (v191 : Value).ownBlock ∧ some k_ ≠ (v195 : Value).ownBlock ∧ NS Ao68 t198 co68 k_ ∧ NS Ao78 t204 co78 k_ ∧ NS Ao88 t209 co88 k_ ∧ NS Ao98 t214 co98 k_ ∧ NS Ao103 t221 co103 k_ ∧ NS Ao107 t226 co107 k_ ∧ some k_ ≠ (s_.1 : Value).ownBlock ∧ some k_ ≠ (s_.2.2.1 : Value).ownBlock) s_.2.1 t243) ∧ (Kd.R (Kd.int .i64) 3 w' w.heap.size (fun k_ => some k_ ≠ (v191 : Value).ownBlock ∧ some k_ ≠ (v195 : Value).ownBlock ∧ NS Ao68 t198 co68 k_ ∧ NS Ao78 t204 co78 k_ ∧ NS Ao88 t209 co88 k_ ∧ NS Ao98 t214 co98 k_ ∧ NS Ao103 t221 co103 k_ ∧ NS Ao107 t226 co107 k_ ∧ some k_ ≠ (s_.1 : Value).ownBlock ∧ some k_ ≠ (s_.2.1 : Value).ownBlock) s_.2.2.1 t247) ∧ (w'.heap[gb185]? = some (.cells #[.int .i64 a0_0, .slice A0_1 l0_1.length c0_1] 24 (0, 0))) ∧ (w'.heap[gb186]? = some (.cells #[.int .i64 a1_0, .slice A1_1 l1_1.length c1_1] 24 (0, 0))) ∧ (w'.heap[gb202]? = some (.cells #[.int .i64 t197, .slice Ao68 t198.length co68] 27 (0, 0))) ∧ (w'.heap[gb207]? = some (.cells #[.int .i64 t203, .slice Ao78 t204.length co78] 27 (0, 0))) ∧ (w'.heap[gb212]? = some (.cells #[.int .i64 t208, .slice Ao88 t209.length co88] 27 (0, 0))) ∧ (w'.heap[gb218]? = some (.cells #[.int .i64 t213, .slice Ao98 t214.length co98] 27 (0, 0))) ∧ (w'.heap[s_.2.2.2]? = some (.cells #[.int .i64 0, .slice none 0 0] 27 (0, 0))) ∧ (w.heap.size ≤ s_.2.2.2) ∧ (w.heap.size ≤ s_.2.2.2) ∧ (gb185 ≠ s_.2.2.2) ∧ (s_.2.2.2 ≠ gb185) ∧ (gb186 ≠ s_.2.2.2) ∧ (s_.2.2.2 ≠ gb186) ∧ (gb202 ≠ s_.2.2.2) ∧ (s_.2.2.2 ≠ gb202) ∧ (gb207 ≠ s_.2.2.2) ∧ (s_.2.2.2 ≠ gb207) ∧ (gb212 ≠ s_.2.2.2) ∧ (s_.2.2.2 ≠ gb212) ∧ (gb218 ≠ s_.2.2.2) ∧ (s_.2.2.2 ≠ gb218) ∧ (Below w.heap.size w w')) ?_ ?_
               rotate_left
               ·intro hCont
                refine two_ (i := 1) (j := 8) (Ni := some 96) (Nj := some 15) (mk 11 7) (mk 11 261) rfl rfl rfl rfl (two_of HT_.out (by kernel_rfl)) (by decide) (by decide) (fun K hK => ?_) (fun K hK => ?_)
                ·skip
                 refine goes_ Try.func16 (by kernel_rfl) rfl #[.agg #[.int .i64 a0_0, .slice A0_1 l0_1.length c0_1]] (by rfl) rfl rfl (by (try simp only [List.map_toArray, List.map_cons, List.map_nil]); first | done | rfl | (simp only [List.length_drop, List.length_take]; rfl)) ?_
                 with_reducible refine (laws_toMatrix.calls k a0_0 _ _ l0_1 t238 t239 _ ?side1 ?side2 A43.out).mono ?_
                 (case side1 => repeat (first | exact (Kd.C_below HR0_1.out HB.out) | (with_reducible refine Kd.C_alloc ?_ _) | (with_reducible refine Kd.C_drewN ?_ _) | (with_reducible refine Kd.C_drew ?_)))
                 (case side2 => exact HC0_1.out)
                 rintro e w121 ⟨v240, rfl, ho0, hb⟩
                 refine ⟨_, rfl, ?_⟩
                 have n0_ := el HO192 (Kd.R_base ho0) hb
                 have n1_ := el HO196 (Kd.R_base ho0) hb
                 have n2_ := el HO200 (Kd.R_base ho0) hb
                 have n3_ := el HO206 (Kd.R_base ho0) hb
                 have n4_ := el HO211 (Kd.R_base ho0) hb
                 have n5_ := el HO216 (Kd.R_base ho0) hb
                 have n6_ := el HO223 (Kd.R_base ho0) hb
                 have n7_ := el HO228 (Kd.R_base ho0) hb
                 have n8_ := am (Kd.R_lower (Kd.R_new' (Kd.R_new' (Kd.R_new' (Kd.R_new' (Kd.R_new' (Kd.R_new' (Kd.R_new' (Kd.R_new' ho0 (Kd.R_lt (rz HO192.out))) (Kd.R_lt (rz HO196.out))) (Kd.R_lt (rz HO200.out))) (Kd.R_lt (rz HO206.out))) (Kd.R_lt (rz HO211.out))) (Kd.R_lt (rz HO216.out))) (Kd.R_lt (rz HO223.out))) (Kd.R_lt (rz HO228.out))) (below_size (bw HB.out)))
                 have n9_ := bk BK185 hb
                 have n10_ := bk BK186 hb
                 have n11_ := bk BK202 hb
                 have n12_ := bk BK207 hb
                 have n13_ := bk BK212 hb
                 have n14_ := bk BK218 hb
                 have n15_ := am (below_step (bw HB.out) hb)
                 clear HO192 HO196 HO200 HO206 HO211 HO216 HO223 HO228 BK185 BK186 BK202 BK207 BK212 BK218 HB
                 revert n0_ n1_ n2_ n3_ n4_ n5_ n6_ n7_ n8_ n9_ n10_ n11_ n12_ n13_ n14_ n15_; intro HO192 HO196 HO200 HO206 HO211 HO216 HO223 HO228 HO241 BK185 BK186 BK202 BK207 BK212 BK218 HB
                 (try clear hb)
                 (try clear hb2)
                 (try clear hk)
                 (try clear hi)
                 (try clear ho0)
                 refine hK.out _ _ ⟨(blk_cell BK185.out 0).trans rfl, (blk_cell BK185.out 1).trans rfl, (blk_cell BK186.out 0).trans rfl, (blk_cell BK186.out 1).trans rfl⟩ (fun hHeld => ?_)
                 clear hK K
                 refine norm_ (a' := ?_) ?_ ?_
                 rotate_left
                 ·show Act.put _ (some 96) _ = _
                  simp only [Act.put, List.setIfInBounds_toArray, List.set_cons_zero, List.set_cons_succ, i64_w, i32_w]
                  rfl
                 refine two_ (i := 3) (j := 8) (Ni := some 98) (Nj := some 15) (mk 11 15) (mk 11 263) rfl rfl rfl rfl (two_of HT_.out (by kernel_rfl)) (by decide) (by decide) (fun K hK => ?_) (fun K hK => ?_)
                 ·skip
                  refine goes_ Try.func16 (by kernel_rfl) rfl #[.agg #[.int .i64 a1_0, .slice A1_1 l1_1.length c1_1]] (by rfl) rfl rfl (by (try simp only [List.map_toArray, List.map_cons, List.map_nil]); first | done | rfl | (simp only [List.length_drop, List.length_take]; rfl)) ?_
                  with_reducible refine (laws_toMatrix.calls k a1_0 _ _ l1_1 t242 t243 _ ?side1 ?side2 A44.out).mono ?_
                  (case side1 => repeat (first | exact (Kd.C_below HR1_1.out HB.out) | (with_reducible refine Kd.C_alloc ?_ _) | (with_reducible refine Kd.C_drewN ?_ _) | (with_reducible refine Kd.C_drew ?_)))
                  (case side2 => exact HC1_1.out)
                  rintro e w122 ⟨v244, rfl, ho0, hb⟩
                  refine ⟨_, rfl, ?_⟩
                  have n0_ := el HO192 (Kd.R_base ho0) hb
                  have n1_ := el HO196 (Kd.R_base ho0) hb
                  have n2_ := el HO200 (Kd.R_base ho0) hb
                  have n3_ := el HO206 (Kd.R_base ho0) hb
                  have n4_ := el HO211 (Kd.R_base ho0) hb
                  have n5_ := el HO216 (Kd.R_base ho0) hb
                  have n6_ := el HO223 (Kd.R_base ho0) hb
                  have n7_ := el HO228 (Kd.R_base ho0) hb
                  have n8_ := el HO241 (Kd.R_base ho0) hb
                  have n9_ := am (Kd.R_lower (Kd.R_new' (Kd.R_new' (Kd.R_new' (Kd.R_new' (Kd.R_new' (Kd.R_new' (Kd.R_new' (Kd.R_new' (Kd.R_new' ho0 (Kd.R_lt (rz HO192.out))) (Kd.R_lt (rz HO196.out))) (Kd.R_lt (rz HO200.out))) (Kd.R_lt (rz HO206.out))) (Kd.R_lt (rz HO211.out))) (Kd.R_lt (rz HO216.out))) (Kd.R_lt (rz HO223.out))) (Kd.R_lt (rz HO228.out))) (Kd.R_lt (rz HO241.out))) (below_size (bw HB.out)))
                  have n10_ := bk BK185 hb
                  have n11_ := bk BK186 hb
                  have n12_ := bk BK202 hb
                  have n13_ := bk BK207 hb
                  have n14_ := bk BK212 hb
                  have n15_ := bk BK218 hb
                  have n16_ := am (below_step (bw HB.out) hb)
                  clear HO192 HO196 HO200 HO206 HO211 HO216 HO223 HO228 HO241 BK185 BK186 BK202 BK207 BK212 BK218 HB
                  revert n0_ n1_ n2_ n3_ n4_ n5_ n6_ n7_ n8_ n9_ n10_ n11_ n12_ n13_ n14_ n15_ n16_; intro HO192 HO196 HO200 HO206 HO211 HO216 HO223 HO228 HO241 HO245 BK185 BK186 BK202 BK207 BK212 BK218 HB
                  (try clear hb)
                  (try clear hb2)
                  (try clear hk)
                  (try clear hi)
                  (try clear ho0)
                  obtain ⟨Ao123, co123, eo123⟩ := Kd.R_slice HO241.out
                  (first | subst eo123 | (injection eo123 with f1_ f2_ f3_; have f4_ := f1_.symm; have f5_ := f3_.symm; clear f1_ f2_ f3_; subst f4_; subst f5_))
                  obtain ⟨Ao124, co124, eo124⟩ := Kd.R_slice HO245.out
                  (first | subst eo124 | (injection eo124 with f1_ f2_ f3_; have f4_ := f1_.symm; have f5_ := f3_.symm; clear f1_ f2_ f3_; subst f4_; subst f5_))
                  refine hK.out _ _ ⟨(blk_cell BK185.out 0).trans rfl, (blk_cell BK185.out 1).trans rfl, (blk_cell BK186.out 0).trans rfl, (blk_cell BK186.out 1).trans rfl⟩ (fun hHeld => ?_)
                  clear hK K
                  refine norm_ (a' := ?_) ?_ ?_
                  rotate_left
                  ·show Act.put _ (some 98) _ = _
                   simp only [Act.put, List.setIfInBounds_toArray, List.set_cons_zero, List.set_cons_succ, i64_w, i32_w]
                   rfl
                  refine two_ (i := 4) (j := 8) (Ni := some 99) (Nj := some 15) (mk 11 31) (mk 11 271) rfl rfl rfl rfl (two_of HT_.out (by kernel_rfl)) (by decide) (by decide) (fun K hK => ?_) (fun K hK => ?_)
                  ·skip
                   refine goes_ Try.func26 (by kernel_rfl) rfl #[.agg #[.int .i64 t238, .slice Ao123 t239.length co123], .agg #[.int .i64 t242, .slice Ao124 t243.length co124]] (by rfl) rfl rfl (by (try simp only [List.map_toArray, List.map_cons, List.map_nil]); first | done | rfl | (simp only [List.length_drop, List.length_take]; rfl)) ?_
                   with_reducible refine (impl_MinMatrix.calls k t238 _ _ t239 t242 _ _ t243 t246 t247 t250 _ ?side1 ?side2 ?side3 ?side4 A45.out).mono ?_
                   (case side1 => repeat (first | exact (Kd.R_reads' HO241.out).2.2 | (with_reducible refine Kd.C_alloc ?_ _) | (with_reducible refine Kd.C_drewN ?_ _) | (with_reducible refine Kd.C_drew ?_)))
                   (case side2 => exact (Kd.R_reads' HO241.out).2.1)
                   (case side3 => repeat (first | exact (Kd.R_reads' HO245.out).2.2 | (with_reducible refine Kd.C_alloc ?_ _) | (with_reducible refine Kd.C_drewN ?_ _) | (with_reducible refine Kd.C_drew ?_)))
                   (case side4 => exact (Kd.R_reads' HO245.out).2.1)
                   rintro e w125 ⟨v248, rfl, ho0, hb⟩
                   refine ⟨_, rfl, ?_⟩
                   have n0_ := el HO192 (Kd.R_base ho0) hb
                   have n1_ := el HO196 (Kd.R_base ho0) hb
                   have n2_ := el HO200 (Kd.R_base ho0) hb
                   have n3_ := el HO206 (Kd.R_base ho0) hb
                   have n4_ := el HO211 (Kd.R_base ho0) hb
                   have n5_ := el HO216 (Kd.R_base ho0) hb
                   have n6_ := el HO223 (Kd.R_base ho0) hb
                   have n7_ := el HO228 (Kd.R_base ho0) hb
                   have n8_ := el HO241 (Kd.R_base ho0) hb
                   have n9_ := el HO245 (Kd.R_base ho0) hb
                   have n10_ := am (Kd.R_lower (Kd.R_new' (Kd.R_new' (Kd.R_new' (Kd.R_new' (Kd.R_new' (Kd.R_new' (Kd.R_new' (Kd.R_new' (Kd.R_new' (Kd.R_new' ho0 (Kd.R_lt (rz HO192.out))) (Kd.R_lt (rz HO196.out))) (Kd.R_lt (rz HO200.out))) (Kd.R_lt (rz HO206.out))) (Kd.R_lt (rz HO211.out))) (Kd.R_lt (rz HO216.out))) (Kd.R_lt (rz HO223.out))) (Kd.R_lt (rz HO228.out))) (Kd.R_lt (rz HO241.out))) (Kd.R_lt (rz HO245.out))) (below_size (bw HB.out)))
                   have n11_ := bk BK185 hb
                   have n12_ := bk BK186 hb
                   have n13_ := bk BK202 hb
                   have n14_ := bk BK207 hb
                   have n15_ := bk BK212 hb
                   have n16_ := bk BK218 hb
                   have n17_ := am (below_step (bw HB.out) hb)
                   clear HO192 HO196 HO200 HO206 HO211 HO216 HO223 HO228 HO241 HO245 BK185 BK186 BK202 BK207 BK212 BK218 HB
                   revert n0_ n1_ n2_ n3_ n4_ n5_ n6_ n7_ n8_ n9_ n10_ n11_ n12_ n13_ n14_ n15_ n16_ n17_; intro HO192 HO196 HO200 HO206 HO211 HO216 HO223 HO228 HO241 HO245 HO249 BK185 BK186 BK202 BK207 BK212 BK218 HB
                   (try clear hb)
                   (try clear hb2)
                   (try clear hk)
                   (try clear hi)
                   (try clear ho0)
                   refine hK.out _ _ ⟨(blk_cell BK185.out 0).trans rfl, (blk_cell BK185.out 1).trans rfl, (blk_cell BK186.out 0).trans rfl, (blk_cell BK186.out 1).trans rfl⟩ (fun hHeld => ?_)
                   clear hK K
                   refine norm_ (a' := ?_) ?_ ?_
                   rotate_left
                   ·show Act.put _ (some 99) _ = _
                    simp only [Act.put, List.setIfInBounds_toArray, List.set_cons_zero, List.set_cons_succ, i64_w, i32_w]
                    rfl
                   refine pv 5 94 11 63 HT_ ?_
                   refine pv 6 100 11 127 HT_ ?_
                   refine pv 7 101 11 255 HT_ ?_
                   refine one_ (i := 8) (N := some 15) (mk 11 511) rfl rfl (one_of HT_.out (by kernel_rfl)) (by decide) (fun K hK => ?_)
                   refine box_step ?hg (N := 15) ?hd (cs := #[.int .i64 0, .slice none 0 0]) (t := 27) ?hr ?_; (case hd => rfl); (case hg => rfl); (case hr => first | (go_simp; done) | (go_simp; rfl))
                   intro gb251 hg w126 hbox hb
                   have n0_ := am (Kd.R_below (rz HO192.out) hb)
                   have n1_ := am (Kd.R_below (rz HO196.out) hb)
                   have n2_ := am (Kd.R_below (rz HO200.out) hb)
                   have n3_ := am (Kd.R_below (rz HO206.out) hb)
                   have n4_ := am (Kd.R_below (rz HO211.out) hb)
                   have n5_ := am (Kd.R_below (rz HO216.out) hb)
                   have n6_ := am (Kd.R_below (rz HO223.out) hb)
                   have n7_ := am (Kd.R_below (rz HO228.out) hb)
                   have n8_ := am (Kd.R_below (rz HO241.out) hb)
                   have n9_ := am (Kd.R_below (rz HO245.out) hb)
                   have n10_ := am (Kd.R_below (rz HO249.out) hb)
                   have n11_ := bk BK185 hb
                   have n12_ := bk BK186 hb
                   have n13_ := bk BK202 hb
                   have n14_ := bk BK207 hb
                   have n15_ := bk BK212 hb
                   have n16_ := bk BK218 hb
                   have n17_ := am (below_step (bw HB.out) hb)
                   have n18_ := am (hbox)
                   have n19_ := am ((by rw [hg]; exact (below_size (bw HB.out)) : w.heap.size ≤ gb251))
                   have n20_ := am ((by rw [hg]; exact (below_size (bw HB.out)) : w.heap.size ≤ gb251))
                   have n21_ := am ((by rw [hg]; exact Nat.ne_of_lt (blk_lt (kz BK185.out)) : gb185 ≠ gb251))
                   have n22_ := am ((by rw [hg]; exact Nat.ne_of_gt (blk_lt (kz BK185.out)) : gb251 ≠ gb185))
                   have n23_ := am ((by rw [hg]; exact Nat.ne_of_lt (blk_lt (kz BK186.out)) : gb186 ≠ gb251))
                   have n24_ := am ((by rw [hg]; exact Nat.ne_of_gt (blk_lt (kz BK186.out)) : gb251 ≠ gb186))
                   have n25_ := am ((by rw [hg]; exact Nat.ne_of_lt (blk_lt (kz BK202.out)) : gb202 ≠ gb251))
                   have n26_ := am ((by rw [hg]; exact Nat.ne_of_gt (blk_lt (kz BK202.out)) : gb251 ≠ gb202))
                   have n27_ := am ((by rw [hg]; exact Nat.ne_of_lt (blk_lt (kz BK207.out)) : gb207 ≠ gb251))
                   have n28_ := am ((by rw [hg]; exact Nat.ne_of_gt (blk_lt (kz BK207.out)) : gb251 ≠ gb207))
                   have n29_ := am ((by rw [hg]; exact Nat.ne_of_lt (blk_lt (kz BK212.out)) : gb212 ≠ gb251))
                   have n30_ := am ((by rw [hg]; exact Nat.ne_of_gt (blk_lt (kz BK212.out)) : gb251 ≠ gb212))
                   have n31_ := am ((by rw [hg]; exact Nat.ne_of_lt (blk_lt (kz BK218.out)) : gb218 ≠ gb251))
                   have n32_ := am ((by rw [hg]; exact Nat.ne_of_gt (blk_lt (kz BK218.out)) : gb251 ≠ gb218))
                   clear HO192 HO196 HO200 HO206 HO211 HO216 HO223 HO228 HO241 HO245 HO249 BK185 BK186 BK202 BK207 BK212 BK218 HB
                   revert n0_ n1_ n2_ n3_ n4_ n5_ n6_ n7_ n8_ n9_ n10_ n11_ n12_ n13_ n14_ n15_ n16_ n17_ n18_ n19_ n20_ n21_ n22_ n23_ n24_ n25_ n26_ n27_ n28_ n29_ n30_ n31_ n32_; intro HO192 HO196 HO200 HO206 HO211 HO216 HO223 HO228 HO241 HO245 HO249 BK185 BK186 BK202 BK207 BK212 BK218 HB BK251 GW251 GE251 NB185_251 NB251_185 NB186_251 NB251_186 NB202_251 NB251_202 NB207_251 NB251_207 NB212_251 NB251_212 NB218_251 NB251_218; clear hb hbox hg
                   refine hK.out _ _ ⟨(blk_cell BK185.out 0).trans rfl, (blk_cell BK185.out 1).trans rfl, (blk_cell BK186.out 0).trans rfl, (blk_cell BK186.out 1).trans rfl⟩ (fun hHeld => ?_)
                   clear hK K
                   refine norm_ (a' := ?_) ?_ ?_
                   rotate_left
                   ·show Act.put _ (some 15) _ = _
                    simp only [Act.put, List.setIfInBounds_toArray, List.set_cons_zero, List.set_cons_succ, i64_w, i32_w]
                    rfl
                   exact norm_ (by simp only [putAll, Act.put, List.setIfInBounds_toArray, List.set_cons_zero, List.set_cons_succ]) (hCont (.slice Ao123 t239.length co123, .slice Ao124 t243.length co124, v248, gb251) _ ⟨hHeld, (by (with_reducible repeat (first | apply ra | apply rn | apply rw_)); exact Kd.R_mono HO192.out (fun _ hk => ⟨hk.1.1.1.1, ⟨hk.1.1.1.2.1, ⟨hk.1.1.1.2.2.1, ⟨hk.1.1.1.2.2.2.1, ⟨hk.1.1.1.2.2.2.2.1, ⟨hk.1.1.1.2.2.2.2.2.1, ⟨hk.1.1.1.2.2.2.2.2.2, ⟨hk.1.1.2, ⟨hk.1.2, hk.2⟩⟩⟩⟩⟩⟩⟩⟩⟩)), (by (with_reducible repeat (first | apply ra | apply rn | apply rw_)); exact Kd.R_mono HO196.out (fun _ hk => ⟨hk.1.1.1.1, ⟨hk.1.1.1.2.1, ⟨hk.1.1.1.2.2.1, ⟨hk.1.1.1.2.2.2.1, ⟨hk.1.1.1.2.2.2.2.1, ⟨hk.1.1.1.2.2.2.2.2.1, ⟨hk.1.1.1.2.2.2.2.2.2, ⟨hk.1.1.2, ⟨hk.1.2, hk.2⟩⟩⟩⟩⟩⟩⟩⟩⟩)), (by (with_reducible repeat (first | apply ra | apply rn | apply rw_)); exact Kd.R_mono HO200.out (fun _ hk => ⟨hk.1.1.1.1, ⟨hk.1.1.1.2.1, ⟨hk.1.1.1.2.2.1, ⟨hk.1.1.1.2.2.2.1, ⟨hk.1.1.1.2.2.2.2.1, ⟨hk.1.1.1.2.2.2.2.2.1, ⟨hk.1.1.1.2.2.2.2.2.2, ⟨hk.1.1.2, ⟨hk.1.2, hk.2⟩⟩⟩⟩⟩⟩⟩⟩⟩)), (by (with_reducible repeat (first | apply ra | apply rn | apply rw_)); exact Kd.R_mono HO206.out (fun _ hk => ⟨hk.1.1.1.1, ⟨hk.1.1.1.2.1, ⟨hk.1.1.1.2.2.1, ⟨hk.1.1.1.2.2.2.1, ⟨hk.1.1.1.2.2.2.2.1, ⟨hk.1.1.1.2.2.2.2.2.1, ⟨hk.1.1.1.2.2.2.2.2.2, ⟨hk.1.1.2, ⟨hk.1.2, hk.2⟩⟩⟩⟩⟩⟩⟩⟩⟩)), (by (with_reducible repeat (first | apply ra | apply rn | apply rw_)); exact Kd.R_mono HO211.out (fun _ hk => ⟨hk.1.1.1.1, ⟨hk.1.1.1.2.1, ⟨hk.1.1.1.2.2.1, ⟨hk.1.1.1.2.2.2.1, ⟨hk.1.1.1.2.2.2.2.1, ⟨hk.1.1.1.2.2.2.2.2.1, ⟨hk.1.1.1.2.2.2.2.2.2, ⟨hk.1.1.2, ⟨hk.1.2, hk.2⟩⟩⟩⟩⟩⟩⟩⟩⟩)), (by (with_reducible repeat (first | apply ra | apply rn | apply rw_)); exact Kd.R_mono HO216.out (fun _ hk => ⟨hk.1.1.1.1, ⟨hk.1.1.1.2.1, ⟨hk.1.1.1.2.2.1, ⟨hk.1.1.1.2.2.2.1, ⟨hk.1.1.1.2.2.2.2.1, ⟨hk.1.1.1.2.2.2.2.2.1, ⟨hk.1.1.1.2.2.2.2.2.2, ⟨hk.1.1.2, ⟨hk.1.2, hk.2⟩⟩⟩⟩⟩⟩⟩⟩⟩)), (by (with_reducible repeat (first | apply ra | apply rn | apply rw_)); exact Kd.R_mono HO223.out (fun _ hk => ⟨hk.1.1.1.1, ⟨hk.1.1.1.2.1, ⟨hk.1.1.1.2.2.1, ⟨hk.1.1.1.2.2.2.1, ⟨hk.1.1.1.2.2.2.2.1, ⟨hk.1.1.1.2.2.2.2.2.1, ⟨hk.1.1.1.2.2.2.2.2.2, ⟨hk.1.1.2, ⟨hk.1.2, hk.2⟩⟩⟩⟩⟩⟩⟩⟩⟩)), (by (with_reducible repeat (first | apply ra | apply rn | apply rw_)); exact Kd.R_mono HO228.out (fun _ hk => ⟨hk.1.1.1.1, ⟨hk.1.1.1.2.1, ⟨hk.1.1.1.2.2.1, ⟨hk.1.1.1.2.2.2.1, ⟨hk.1.1.1.2.2.2.2.1, ⟨hk.1.1.1.2.2.2.2.2.1, ⟨hk.1.1.1.2.2.2.2.2.2, ⟨hk.1.1.2, ⟨hk.1.2, hk.2⟩⟩⟩⟩⟩⟩⟩⟩⟩)), (by (with_reducible repeat (first | apply ra | apply rn | apply rw_)); exact Kd.R_mono HO241.out (fun _ hk => ⟨hk.1.1.1.1.1.1.1.1.1.2, ⟨hk.1.1.1.1.1.1.1.1.2, ⟨hk.1.1.1.1.1.1.1.2, ⟨hk.1.1.1.1.1.1.2, ⟨hk.1.1.1.1.1.2, ⟨hk.1.1.1.1.2, ⟨hk.1.1.1.2, ⟨hk.1.1.2, ⟨hk.1.2, hk.2⟩⟩⟩⟩⟩⟩⟩⟩⟩)), (by (with_reducible repeat (first | apply ra | apply rn | apply rw_)); exact Kd.R_mono HO245.out (fun _ hk => ⟨hk.1.1.1.1.1.1.1.1.1.2, ⟨hk.1.1.1.1.1.1.1.1.2, ⟨hk.1.1.1.1.1.1.1.2, ⟨hk.1.1.1.1.1.1.2, ⟨hk.1.1.1.1.1.2, ⟨hk.1.1.1.1.2, ⟨hk.1.1.1.2, ⟨hk.1.1.2, ⟨hk.1.2, hk.2⟩⟩⟩⟩⟩⟩⟩⟩⟩)), (by (with_reducible repeat (first | apply ra | apply rn | apply rw_)); exact Kd.R_mono HO249.out (fun _ hk => ⟨hk.1.1.1.1.1.1.1.1.1.2, ⟨hk.1.1.1.1.1.1.1.1.2, ⟨hk.1.1.1.1.1.1.1.2, ⟨hk.1.1.1.1.1.1.2, ⟨hk.1.1.1.1.1.2, ⟨hk.1.1.1.1.2, ⟨hk.1.1.1.2, ⟨hk.1.1.2, ⟨hk.1.2, hk.2⟩⟩⟩⟩⟩⟩⟩⟩⟩)), (kz BK185.out), (kz BK186.out), (kz BK202.out), (kz BK207.out), (kz BK212.out), (kz BK218.out), (kz BK251.out), GW251.out, GE251.out, NB185_251.out, NB251_185.out, NB186_251.out, NB251_186.out, NB202_251.out, NB251_202.out, NB207_251.out, NB251_207.out, NB212_251.out, NB251_212.out, NB218_251.out, NB251_218.out, (bw HB.out)⟩)
                  ·skip
                   refine box_step ?hg (N := 15) ?hd (cs := #[.int .i64 0, .slice none 0 0]) (t := 27) ?hr ?_; (case hd => rfl); (case hg => rfl); (case hr => first | (go_simp; done) | (go_simp; rfl))
                   intro gb251 hg w123 hbox hb
                   have n0_ := am (Kd.R_below (rz HO192.out) hb)
                   have n1_ := am (Kd.R_below (rz HO196.out) hb)
                   have n2_ := am (Kd.R_below (rz HO200.out) hb)
                   have n3_ := am (Kd.R_below (rz HO206.out) hb)
                   have n4_ := am (Kd.R_below (rz HO211.out) hb)
                   have n5_ := am (Kd.R_below (rz HO216.out) hb)
                   have n6_ := am (Kd.R_below (rz HO223.out) hb)
                   have n7_ := am (Kd.R_below (rz HO228.out) hb)
                   have n8_ := am (Kd.R_below (rz HO241.out) hb)
                   have n9_ := am (Kd.R_below (rz HO245.out) hb)
                   have n10_ := bk BK185 hb
                   have n11_ := bk BK186 hb
                   have n12_ := bk BK202 hb
                   have n13_ := bk BK207 hb
                   have n14_ := bk BK212 hb
                   have n15_ := bk BK218 hb
                   have n16_ := am (below_step (bw HB.out) hb)
                   have n17_ := am (hbox)
                   have n18_ := am ((by rw [hg]; exact (below_size (bw HB.out)) : w.heap.size ≤ gb251))
                   have n19_ := am ((by rw [hg]; exact (below_size (bw HB.out)) : w.heap.size ≤ gb251))
                   have n20_ := am ((by rw [hg]; exact Nat.ne_of_lt (blk_lt (kz BK185.out)) : gb185 ≠ gb251))
                   have n21_ := am ((by rw [hg]; exact Nat.ne_of_gt (blk_lt (kz BK185.out)) : gb251 ≠ gb185))
                   have n22_ := am ((by rw [hg]; exact Nat.ne_of_lt (blk_lt (kz BK186.out)) : gb186 ≠ gb251))
                   have n23_ := am ((by rw [hg]; exact Nat.ne_of_gt (blk_lt (kz BK186.out)) : gb251 ≠ gb186))
                   have n24_ := am ((by rw [hg]; exact Nat.ne_of_lt (blk_lt (kz BK202.out)) : gb202 ≠ gb251))
                   have n25_ := am ((by rw [hg]; exact Nat.ne_of_gt (blk_lt (kz BK202.out)) : gb251 ≠ gb202))
                   have n26_ := am ((by rw [hg]; exact Nat.ne_of_lt (blk_lt (kz BK207.out)) : gb207 ≠ gb251))
                   have n27_ := am ((by rw [hg]; exact Nat.ne_of_gt (blk_lt (kz BK207.out)) : gb251 ≠ gb207))
                   have n28_ := am ((by rw [hg]; exact Nat.ne_of_lt (blk_lt (kz BK212.out)) : gb212 ≠ gb251))
                   have n29_ := am ((by rw [hg]; exact Nat.ne_of_gt (blk_lt (kz BK212.out)) : gb251 ≠ gb212))
                   have n30_ := am ((by rw [hg]; exact Nat.ne_of_lt (blk_lt (kz BK218.out)) : gb218 ≠ gb251))
                   have n31_ := am ((by rw [hg]; exact Nat.ne_of_gt (blk_lt (kz BK218.out)) : gb251 ≠ gb218))
                   clear HO192 HO196 HO200 HO206 HO211 HO216 HO223 HO228 HO241 HO245 BK185 BK186 BK202 BK207 BK212 BK218 HB
                   revert n0_ n1_ n2_ n3_ n4_ n5_ n6_ n7_ n8_ n9_ n10_ n11_ n12_ n13_ n14_ n15_ n16_ n17_ n18_ n19_ n20_ n21_ n22_ n23_ n24_ n25_ n26_ n27_ n28_ n29_ n30_ n31_; intro HO192 HO196 HO200 HO206 HO211 HO216 HO223 HO228 HO241 HO245 BK185 BK186 BK202 BK207 BK212 BK218 HB BK251 GW251 GE251 NB185_251 NB251_185 NB186_251 NB251_186 NB202_251 NB251_202 NB207_251 NB251_207 NB212_251 NB251_212 NB218_251 NB251_218; clear hb hbox hg
                   obtain ⟨Ao124, co124, eo124⟩ := Kd.R_slice HO241.out
                   (first | subst eo124 | (injection eo124 with f1_ f2_ f3_; have f4_ := f1_.symm; have f5_ := f3_.symm; clear f1_ f2_ f3_; subst f4_; subst f5_))
                   obtain ⟨Ao125, co125, eo125⟩ := Kd.R_slice HO245.out
                   (first | subst eo125 | (injection eo125 with f1_ f2_ f3_; have f4_ := f1_.symm; have f5_ := f3_.symm; clear f1_ f2_ f3_; subst f4_; subst f5_))
                   refine hK.out _ _ ⟨(blk_cell BK185.out 0).trans rfl, (blk_cell BK185.out 1).trans rfl, (blk_cell BK186.out 0).trans rfl, (blk_cell BK186.out 1).trans rfl⟩ (fun hHeld => ?_)
                   clear hK K
                   refine norm_ (a' := ?_) ?_ ?_
                   rotate_left
                   ·show Act.put _ (some 15) _ = _
                    simp only [Act.put, List.setIfInBounds_toArray, List.set_cons_zero, List.set_cons_succ, i64_w, i32_w]
                    rfl
                   refine one_ (i := 4) (N := some 99) (mk 11 287) rfl rfl (one_of HT_.out (by kernel_rfl)) (by decide) (fun K hK => ?_)
                   refine goes_ Try.func26 (by kernel_rfl) rfl #[.agg #[.int .i64 t238, .slice Ao124 t239.length co124], .agg #[.int .i64 t242, .slice Ao125 t243.length co125]] (by rfl) rfl rfl (by (try simp only [List.map_toArray, List.map_cons, List.map_nil]); first | done | rfl | (simp only [List.length_drop, List.length_take]; rfl)) ?_
                   with_reducible refine (impl_MinMatrix.calls k t238 _ _ t239 t242 _ _ t243 t246 t247 t250 _ ?side1 ?side2 ?side3 ?side4 A45.out).mono ?_
                   (case side1 => repeat (first | exact (Kd.R_reads' HO241.out).2.2 | (with_reducible refine Kd.C_alloc ?_ _) | (with_reducible refine Kd.C_drewN ?_ _) | (with_reducible refine Kd.C_drew ?_)))
                   (case side2 => exact (Kd.R_reads' HO241.out).2.1)
                   (case side3 => repeat (first | exact (Kd.R_reads' HO245.out).2.2 | (with_reducible refine Kd.C_alloc ?_ _) | (with_reducible refine Kd.C_drewN ?_ _) | (with_reducible refine Kd.C_drew ?_)))
                   (case side4 => exact (Kd.R_reads' HO245.out).2.1)
                   rintro e w126 ⟨v248, rfl, ho0, hb⟩
                   refine ⟨_, rfl, ?_⟩
                   have n0_ := el HO192 (Kd.R_base ho0) hb
                   have n1_ := el HO196 (Kd.R_base ho0) hb
                   have n2_ := el HO200 (Kd.R_base ho0) hb
                   have n3_ := el HO206 (Kd.R_base ho0) hb
                   have n4_ := el HO211 (Kd.R_base ho0) hb
                   have n5_ := el HO216 (Kd.R_base ho0) hb
                   have n6_ := el HO223 (Kd.R_base ho0) hb
                   have n7_ := el HO228 (Kd.R_base ho0) hb
                   have n8_ := el HO241 (Kd.R_base ho0) hb
                   have n9_ := el HO245 (Kd.R_base ho0) hb
                   have n10_ := am (Kd.R_lower (Kd.R_new' (Kd.R_new' (Kd.R_new' (Kd.R_new' (Kd.R_new' (Kd.R_new' (Kd.R_new' (Kd.R_new' (Kd.R_new' (Kd.R_new' ho0 (Kd.R_lt (rz HO192.out))) (Kd.R_lt (rz HO196.out))) (Kd.R_lt (rz HO200.out))) (Kd.R_lt (rz HO206.out))) (Kd.R_lt (rz HO211.out))) (Kd.R_lt (rz HO216.out))) (Kd.R_lt (rz HO223.out))) (Kd.R_lt (rz HO228.out))) (Kd.R_lt (rz HO241.out))) (Kd.R_lt (rz HO245.out))) (below_size (bw HB.out)))
                   have n11_ := bk BK185 hb
                   have n12_ := bk BK186 hb
                   have n13_ := bk BK202 hb
                   have n14_ := bk BK207 hb
                   have n15_ := bk BK212 hb
                   have n16_ := bk BK218 hb
                   have n17_ := bk BK251 hb
                   have n18_ := am (below_step (bw HB.out) hb)
                   clear HO192 HO196 HO200 HO206 HO211 HO216 HO223 HO228 HO241 HO245 BK185 BK186 BK202 BK207 BK212 BK218 BK251 HB
                   revert n0_ n1_ n2_ n3_ n4_ n5_ n6_ n7_ n8_ n9_ n10_ n11_ n12_ n13_ n14_ n15_ n16_ n17_ n18_; intro HO192 HO196 HO200 HO206 HO211 HO216 HO223 HO228 HO241 HO245 HO249 BK185 BK186 BK202 BK207 BK212 BK218 BK251 HB
                   (try clear hb)
                   (try clear hb2)
                   (try clear hk)
                   (try clear hi)
                   (try clear ho0)
                   refine hK.out _ _ ⟨(blk_cell BK185.out 0).trans rfl, (blk_cell BK185.out 1).trans rfl, (blk_cell BK186.out 0).trans rfl, (blk_cell BK186.out 1).trans rfl⟩ (fun hHeld => ?_)
                   clear hK K
                   refine norm_ (a' := ?_) ?_ ?_
                   rotate_left
                   ·show Act.put _ (some 99) _ = _
                    simp only [Act.put, List.setIfInBounds_toArray, List.set_cons_zero, List.set_cons_succ, i64_w, i32_w]
                    rfl
                   refine pv 5 94 11 319 HT_ ?_
                   refine pv 6 100 11 383 HT_ ?_
                   refine pv 7 101 11 511 HT_ ?_
                   exact norm_ (by simp only [putAll, Act.put, List.setIfInBounds_toArray, List.set_cons_zero, List.set_cons_succ]) (hCont (.slice Ao124 t239.length co124, .slice Ao125 t243.length co125, v248, gb251) _ ⟨hHeld, (by (with_reducible repeat (first | apply ra | apply rn | apply rw_)); exact Kd.R_mono HO192.out (fun _ hk => ⟨hk.1.1.1.1, ⟨hk.1.1.1.2.1, ⟨hk.1.1.1.2.2.1, ⟨hk.1.1.1.2.2.2.1, ⟨hk.1.1.1.2.2.2.2.1, ⟨hk.1.1.1.2.2.2.2.2.1, ⟨hk.1.1.1.2.2.2.2.2.2, ⟨hk.1.1.2, ⟨hk.1.2, hk.2⟩⟩⟩⟩⟩⟩⟩⟩⟩)), (by (with_reducible repeat (first | apply ra | apply rn | apply rw_)); exact Kd.R_mono HO196.out (fun _ hk => ⟨hk.1.1.1.1, ⟨hk.1.1.1.2.1, ⟨hk.1.1.1.2.2.1, ⟨hk.1.1.1.2.2.2.1, ⟨hk.1.1.1.2.2.2.2.1, ⟨hk.1.1.1.2.2.2.2.2.1, ⟨hk.1.1.1.2.2.2.2.2.2, ⟨hk.1.1.2, ⟨hk.1.2, hk.2⟩⟩⟩⟩⟩⟩⟩⟩⟩)), (by (with_reducible repeat (first | apply ra | apply rn | apply rw_)); exact Kd.R_mono HO200.out (fun _ hk => ⟨hk.1.1.1.1, ⟨hk.1.1.1.2.1, ⟨hk.1.1.1.2.2.1, ⟨hk.1.1.1.2.2.2.1, ⟨hk.1.1.1.2.2.2.2.1, ⟨hk.1.1.1.2.2.2.2.2.1, ⟨hk.1.1.1.2.2.2.2.2.2, ⟨hk.1.1.2, ⟨hk.1.2, hk.2⟩⟩⟩⟩⟩⟩⟩⟩⟩)), (by (with_reducible repeat (first | apply ra | apply rn | apply rw_)); exact Kd.R_mono HO206.out (fun _ hk => ⟨hk.1.1.1.1, ⟨hk.1.1.1.2.1, ⟨hk.1.1.1.2.2.1, ⟨hk.1.1.1.2.2.2.1, ⟨hk.1.1.1.2.2.2.2.1, ⟨hk.1.1.1.2.2.2.2.2.1, ⟨hk.1.1.1.2.2.2.2.2.2, ⟨hk.1.1.2, ⟨hk.1.2, hk.2⟩⟩⟩⟩⟩⟩⟩⟩⟩)), (by (with_reducible repeat (first | apply ra | apply rn | apply rw_)); exact Kd.R_mono HO211.out (fun _ hk => ⟨hk.1.1.1.1, ⟨hk.1.1.1.2.1, ⟨hk.1.1.1.2.2.1, ⟨hk.1.1.1.2.2.2.1, ⟨hk.1.1.1.2.2.2.2.1, ⟨hk.1.1.1.2.2.2.2.2.1, ⟨hk.1.1.1.2.2.2.2.2.2, ⟨hk.1.1.2, ⟨hk.1.2, hk.2⟩⟩⟩⟩⟩⟩⟩⟩⟩)), (by (with_reducible repeat (first | apply ra | apply rn | apply rw_)); exact Kd.R_mono HO216.out (fun _ hk => ⟨hk.1.1.1.1, ⟨hk.1.1.1.2.1, ⟨hk.1.1.1.2.2.1, ⟨hk.1.1.1.2.2.2.1, ⟨hk.1.1.1.2.2.2.2.1, ⟨hk.1.1.1.2.2.2.2.2.1, ⟨hk.1.1.1.2.2.2.2.2.2, ⟨hk.1.1.2, ⟨hk.1.2, hk.2⟩⟩⟩⟩⟩⟩⟩⟩⟩)), (by (with_reducible repeat (first | apply ra | apply rn | apply rw_)); exact Kd.R_mono HO223.out (fun _ hk => ⟨hk.1.1.1.1, ⟨hk.1.1.1.2.1, ⟨hk.1.1.1.2.2.1, ⟨hk.1.1.1.2.2.2.1, ⟨hk.1.1.1.2.2.2.2.1, ⟨hk.1.1.1.2.2.2.2.2.1, ⟨hk.1.1.1.2.2.2.2.2.2, ⟨hk.1.1.2, ⟨hk.1.2, hk.2⟩⟩⟩⟩⟩⟩⟩⟩⟩)), (by (with_reducible repeat (first | apply ra | apply rn | apply rw_)); exact Kd.R_mono HO228.out (fun _ hk => ⟨hk.1.1.1.1, ⟨hk.1.1.1.2.1, ⟨hk.1.1.1.2.2.1, ⟨hk.1.1.1.2.2.2.1, ⟨hk.1.1.1.2.2.2.2.1, ⟨hk.1.1.1.2.2.2.2.2.1, ⟨hk.1.1.1.2.2.2.2.2.2, ⟨hk.1.1.2, ⟨hk.1.2, hk.2⟩⟩⟩⟩⟩⟩⟩⟩⟩)), (by (with_reducible repeat (first | apply ra | apply rn | apply rw_)); exact Kd.R_mono HO241.out (fun _ hk => ⟨hk.1.1.1.1.1.1.1.1.1.2, ⟨hk.1.1.1.1.1.1.1.1.2, ⟨hk.1.1.1.1.1.1.1.2, ⟨hk.1.1.1.1.1.1.2, ⟨hk.1.1.1.1.1.2, ⟨hk.1.1.1.1.2, ⟨hk.1.1.1.2, ⟨hk.1.1.2, ⟨hk.1.2, hk.2⟩⟩⟩⟩⟩⟩⟩⟩⟩)), (by (with_reducible repeat (first | apply ra | apply rn | apply rw_)); exact Kd.R_mono HO245.out (fun _ hk => ⟨hk.1.1.1.1.1.1.1.1.1.2, ⟨hk.1.1.1.1.1.1.1.1.2, ⟨hk.1.1.1.1.1.1.1.2, ⟨hk.1.1.1.1.1.1.2, ⟨hk.1.1.1.1.1.2, ⟨hk.1.1.1.1.2, ⟨hk.1.1.1.2, ⟨hk.1.1.2, ⟨hk.1.2, hk.2⟩⟩⟩⟩⟩⟩⟩⟩⟩)), (by (with_reducible repeat (first | apply ra | apply rn | apply rw_)); exact Kd.R_mono HO249.out (fun _ hk => ⟨hk.1.1.1.1.1.1.1.1.1.2, ⟨hk.1.1.1.1.1.1.1.1.2, ⟨hk.1.1.1.1.1.1.1.2, ⟨hk.1.1.1.1.1.1.2, ⟨hk.1.1.1.1.1.2, ⟨hk.1.1.1.1.2, ⟨hk.1.1.1.2, ⟨hk.1.1.2, ⟨hk.1.2, hk.2⟩⟩⟩⟩⟩⟩⟩⟩⟩)), (kz BK185.out), (kz BK186.out), (kz BK202.out), (kz BK207.out), (kz BK212.out), (kz BK218.out), (kz BK251.out), GW251.out, GE251.out, NB185_251.out, NB251_185.out, NB186_251.out, NB251_186.out, NB202_251.out, NB251_202.out, NB207_251.out, NB251_207.out, NB212_251.out, NB251_212.out, NB218_251.out, NB251_218.out, (bw HB.out)⟩)
                 ·skip
                  refine box_step ?hg (N := 15) ?hd (cs := #[.int .i64 0, .slice none 0 0]) (t := 27) ?hr ?_; (case hd => rfl); (case hg => rfl); (case hr => first | (go_simp; done) | (go_simp; rfl))
                  intro gb251 hg w122 hbox hb
                  have n0_ := am (Kd.R_below (rz HO192.out) hb)
                  have n1_ := am (Kd.R_below (rz HO196.out) hb)
                  have n2_ := am (Kd.R_below (rz HO200.out) hb)
                  have n3_ := am (Kd.R_below (rz HO206.out) hb)
                  have n4_ := am (Kd.R_below (rz HO211.out) hb)
                  have n5_ := am (Kd.R_below (rz HO216.out) hb)
                  have n6_ := am (Kd.R_below (rz HO223.out) hb)
                  have n7_ := am (Kd.R_below (rz HO228.out) hb)
                  have n8_ := am (Kd.R_below (rz HO241.out) hb)
                  have n9_ := bk BK185 hb
                  have n10_ := bk BK186 hb
                  have n11_ := bk BK202 hb
                  have n12_ := bk BK207 hb
                  have n13_ := bk BK212 hb
                  have n14_ := bk BK218 hb
                  have n15_ := am (below_step (bw HB.out) hb)
                  have n16_ := am (hbox)
                  have n17_ := am ((by rw [hg]; exact (below_size (bw HB.out)) : w.heap.size ≤ gb251))
                  have n18_ := am ((by rw [hg]; exact (below_size (bw HB.out)) : w.heap.size ≤ gb251))
                  have n19_ := am ((by rw [hg]; exact Nat.ne_of_lt (blk_lt (kz BK185.out)) : gb185 ≠ gb251))
                  have n20_ := am ((by rw [hg]; exact Nat.ne_of_gt (blk_lt (kz BK185.out)) : gb251 ≠ gb185))
                  have n21_ := am ((by rw [hg]; exact Nat.ne_of_lt (blk_lt (kz BK186.out)) : gb186 ≠ gb251))
                  have n22_ := am ((by rw [hg]; exact Nat.ne_of_gt (blk_lt (kz BK186.out)) : gb251 ≠ gb186))
                  have n23_ := am ((by rw [hg]; exact Nat.ne_of_lt (blk_lt (kz BK202.out)) : gb202 ≠ gb251))
                  have n24_ := am ((by rw [hg]; exact Nat.ne_of_gt (blk_lt (kz BK202.out)) : gb251 ≠ gb202))
                  have n25_ := am ((by rw [hg]; exact Nat.ne_of_lt (blk_lt (kz BK207.out)) : gb207 ≠ gb251))
                  have n26_ := am ((by rw [hg]; exact Nat.ne_of_gt (blk_lt (kz BK207.out)) : gb251 ≠ gb207))
                  have n27_ := am ((by rw [hg]; exact Nat.ne_of_lt (blk_lt (kz BK212.out)) : gb212 ≠ gb251))
                  have n28_ := am ((by rw [hg]; exact Nat.ne_of_gt (blk_lt (kz BK212.out)) : gb251 ≠ gb212))
                  have n29_ := am ((by rw [hg]; exact Nat.ne_of_lt (blk_lt (kz BK218.out)) : gb218 ≠ gb251))
                  have n30_ := am ((by rw [hg]; exact Nat.ne_of_gt (blk_lt (kz BK218.out)) : gb251 ≠ gb218))
                  clear HO192 HO196 HO200 HO206 HO211 HO216 HO223 HO228 HO241 BK185 BK186 BK202 BK207 BK212 BK218 HB
                  revert n0_ n1_ n2_ n3_ n4_ n5_ n6_ n7_ n8_ n9_ n10_ n11_ n12_ n13_ n14_ n15_ n16_ n17_ n18_ n19_ n20_ n21_ n22_ n23_ n24_ n25_ n26_ n27_ n28_ n29_ n30_; intro HO192 HO196 HO200 HO206 HO211 HO216 HO223 HO228 HO241 BK185 BK186 BK202 BK207 BK212 BK218 HB BK251 GW251 GE251 NB185_251 NB251_185 NB186_251 NB251_186 NB202_251 NB251_202 NB207_251 NB251_207 NB212_251 NB251_212 NB218_251 NB251_218; clear hb hbox hg
                  refine hK.out _ _ ⟨(blk_cell BK185.out 0).trans rfl, (blk_cell BK185.out 1).trans rfl, (blk_cell BK186.out 0).trans rfl, (blk_cell BK186.out 1).trans rfl⟩ (fun hHeld => ?_)
                  clear hK K
                  refine norm_ (a' := ?_) ?_ ?_
                  rotate_left
                  ·show Act.put _ (some 15) _ = _
                   simp only [Act.put, List.setIfInBounds_toArray, List.set_cons_zero, List.set_cons_succ, i64_w, i32_w]
                   rfl
                  refine one_ (i := 3) (N := some 98) (mk 11 271) rfl rfl (one_of HT_.out (by kernel_rfl)) (by decide) (fun K hK => ?_)
                  refine goes_ Try.func16 (by kernel_rfl) rfl #[.agg #[.int .i64 a1_0, .slice A1_1 l1_1.length c1_1]] (by rfl) rfl rfl (by (try simp only [List.map_toArray, List.map_cons, List.map_nil]); first | done | rfl | (simp only [List.length_drop, List.length_take]; rfl)) ?_
                  with_reducible refine (laws_toMatrix.calls k a1_0 _ _ l1_1 t242 t243 _ ?side1 ?side2 A44.out).mono ?_
                  (case side1 => repeat (first | exact (Kd.C_below HR1_1.out HB.out) | (with_reducible refine Kd.C_alloc ?_ _) | (with_reducible refine Kd.C_drewN ?_ _) | (with_reducible refine Kd.C_drew ?_)))
                  (case side2 => exact HC1_1.out)
                  rintro e w123 ⟨v244, rfl, ho0, hb⟩
                  refine ⟨_, rfl, ?_⟩
                  have n0_ := el HO192 (Kd.R_base ho0) hb
                  have n1_ := el HO196 (Kd.R_base ho0) hb
                  have n2_ := el HO200 (Kd.R_base ho0) hb
                  have n3_ := el HO206 (Kd.R_base ho0) hb
                  have n4_ := el HO211 (Kd.R_base ho0) hb
                  have n5_ := el HO216 (Kd.R_base ho0) hb
                  have n6_ := el HO223 (Kd.R_base ho0) hb
                  have n7_ := el HO228 (Kd.R_base ho0) hb
                  have n8_ := el HO241 (Kd.R_base ho0) hb
                  have n9_ := am (Kd.R_lower (Kd.R_new' (Kd.R_new' (Kd.R_new' (Kd.R_new' (Kd.R_new' (Kd.R_new' (Kd.R_new' (Kd.R_new' (Kd.R_new' ho0 (Kd.R_lt (rz HO192.out))) (Kd.R_lt (rz HO196.out))) (Kd.R_lt (rz HO200.out))) (Kd.R_lt (rz HO206.out))) (Kd.R_lt (rz HO211.out))) (Kd.R_lt (rz HO216.out))) (Kd.R_lt (rz HO223.out))) (Kd.R_lt (rz HO228.out))) (Kd.R_lt (rz HO241.out))) (below_size (bw HB.out)))
                  have n10_ := bk BK185 hb
                  have n11_ := bk BK186 hb
                  have n12_ := bk BK202 hb
                  have n13_ := bk BK207 hb
                  have n14_ := bk BK212 hb
                  have n15_ := bk BK218 hb
                  have n16_ := bk BK251 hb
                  have n17_ := am (below_step (bw HB.out) hb)
                  clear HO192 HO196 HO200 HO206 HO211 HO216 HO223 HO228 HO241 BK185 BK186 BK202 BK207 BK212 BK218 BK251 HB
                  revert n0_ n1_ n2_ n3_ n4_ n5_ n6_ n7_ n8_ n9_ n10_ n11_ n12_ n13_ n14_ n15_ n16_ n17_; intro HO192 HO196 HO200 HO206 HO211 HO216 HO223 HO228 HO241 HO245 BK185 BK186 BK202 BK207 BK212 BK218 BK251 HB
                  (try clear hb)
                  (try clear hb2)
                  (try clear hk)
                  (try clear hi)
                  (try clear ho0)
                  obtain ⟨Ao124, co124, eo124⟩ := Kd.R_slice HO241.out
                  (first | subst eo124 | (injection eo124 with f1_ f2_ f3_; have f4_ := f1_.symm; have f5_ := f3_.symm; clear f1_ f2_ f3_; subst f4_; subst f5_))
                  obtain ⟨Ao125, co125, eo125⟩ := Kd.R_slice HO245.out
                  (first | subst eo125 | (injection eo125 with f1_ f2_ f3_; have f4_ := f1_.symm; have f5_ := f3_.symm; clear f1_ f2_ f3_; subst f4_; subst f5_))
                  refine hK.out _ _ ⟨(blk_cell BK185.out 0).trans rfl, (blk_cell BK185.out 1).trans rfl, (blk_cell BK186.out 0).trans rfl, (blk_cell BK186.out 1).trans rfl⟩ (fun hHeld => ?_)
                  clear hK K
                  refine norm_ (a' := ?_) ?_ ?_
                  rotate_left
                  ·show Act.put _ (some 98) _ = _
                   simp only [Act.put, List.setIfInBounds_toArray, List.set_cons_zero, List.set_cons_succ, i64_w, i32_w]
                   rfl
                  refine one_ (i := 4) (N := some 99) (mk 11 287) rfl rfl (one_of HT_.out (by kernel_rfl)) (by decide) (fun K hK => ?_)
                  refine goes_ Try.func26 (by kernel_rfl) rfl #[.agg #[.int .i64 t238, .slice Ao124 t239.length co124], .agg #[.int .i64 t242, .slice Ao125 t243.length co125]] (by rfl) rfl rfl (by (try simp only [List.map_toArray, List.map_cons, List.map_nil]); first | done | rfl | (simp only [List.length_drop, List.length_take]; rfl)) ?_
                  with_reducible refine (impl_MinMatrix.calls k t238 _ _ t239 t242 _ _ t243 t246 t247 t250 _ ?side1 ?side2 ?side3 ?side4 A45.out).mono ?_
                  (case side1 => repeat (first | exact (Kd.R_reads' HO241.out).2.2 | (with_reducible refine Kd.C_alloc ?_ _) | (with_reducible refine Kd.C_drewN ?_ _) | (with_reducible refine Kd.C_drew ?_)))
                  (case side2 => exact (Kd.R_reads' HO241.out).2.1)
                  (case side3 => repeat (first | exact (Kd.R_reads' HO245.out).2.2 | (with_reducible refine Kd.C_alloc ?_ _) | (with_reducible refine Kd.C_drewN ?_ _) | (with_reducible refine Kd.C_drew ?_)))
                  (case side4 => exact (Kd.R_reads' HO245.out).2.1)
                  rintro e w126 ⟨v248, rfl, ho0, hb⟩
                  refine ⟨_, rfl, ?_⟩
                  have n0_ := el HO192 (Kd.R_base ho0) hb
                  have n1_ := el HO196 (Kd.R_base ho0) hb
                  have n2_ := el HO200 (Kd.R_base ho0) hb
                  have n3_ := el HO206 (Kd.R_base ho0) hb
                  have n4_ := el HO211 (Kd.R_base ho0) hb
                  have n5_ := el HO216 (Kd.R_base ho0) hb
                  have n6_ := el HO223 (Kd.R_base ho0) hb
                  have n7_ := el HO228 (Kd.R_base ho0) hb
                  have n8_ := el HO241 (Kd.R_base ho0) hb
                  have n9_ := el HO245 (Kd.R_base ho0) hb
                  have n10_ := am (Kd.R_lower (Kd.R_new' (Kd.R_new' (Kd.R_new' (Kd.R_new' (Kd.R_new' (Kd.R_new' (Kd.R_new' (Kd.R_new' (Kd.R_new' (Kd.R_new' ho0 (Kd.R_lt (rz HO192.out))) (Kd.R_lt (rz HO196.out))) (Kd.R_lt (rz HO200.out))) (Kd.R_lt (rz HO206.out))) (Kd.R_lt (rz HO211.out))) (Kd.R_lt (rz HO216.out))) (Kd.R_lt (rz HO223.out))) (Kd.R_lt (rz HO228.out))) (Kd.R_lt (rz HO241.out))) (Kd.R_lt (rz HO245.out))) (below_size (bw HB.out)))
                  have n11_ := bk BK185 hb
                  have n12_ := bk BK186 hb
                  have n13_ := bk BK202 hb
                  have n14_ := bk BK207 hb
                  have n15_ := bk BK212 hb
                  have n16_ := bk BK218 hb
                  have n17_ := bk BK251 hb
                  have n18_ := am (below_step (bw HB.out) hb)
                  clear HO192 HO196 HO200 HO206 HO211 HO216 HO223 HO228 HO241 HO245 BK185 BK186 BK202 BK207 BK212 BK218 BK251 HB
                  revert n0_ n1_ n2_ n3_ n4_ n5_ n6_ n7_ n8_ n9_ n10_ n11_ n12_ n13_ n14_ n15_ n16_ n17_ n18_; intro HO192 HO196 HO200 HO206 HO211 HO216 HO223 HO228 HO241 HO245 HO249 BK185 BK186 BK202 BK207 BK212 BK218 BK251 HB
                  (try clear hb)
                  (try clear hb2)
                  (try clear hk)
                  (try clear hi)
                  (try clear ho0)
                  refine hK.out _ _ ⟨(blk_cell BK185.out 0).trans rfl, (blk_cell BK185.out 1).trans rfl, (blk_cell BK186.out 0).trans rfl, (blk_cell BK186.out 1).trans rfl⟩ (fun hHeld => ?_)
                  clear hK K
                  refine norm_ (a' := ?_) ?_ ?_
                  rotate_left
                  ·show Act.put _ (some 99) _ = _
                   simp only [Act.put, List.setIfInBounds_toArray, List.set_cons_zero, List.set_cons_succ, i64_w, i32_w]
                   rfl
                  refine pv 5 94 11 319 HT_ ?_
                  refine pv 6 100 11 383 HT_ ?_
                  refine pv 7 101 11 511 HT_ ?_
                  exact norm_ (by simp only [putAll, Act.put, List.setIfInBounds_toArray, List.set_cons_zero, List.set_cons_succ]) (hCont (.slice Ao124 t239.length co124, .slice Ao125 t243.length co125, v248, gb251) _ ⟨hHeld, (by (with_reducible repeat (first | apply ra | apply rn | apply rw_)); exact Kd.R_mono HO192.out (fun _ hk => ⟨hk.1.1.1.1, ⟨hk.1.1.1.2.1, ⟨hk.1.1.1.2.2.1, ⟨hk.1.1.1.2.2.2.1, ⟨hk.1.1.1.2.2.2.2.1, ⟨hk.1.1.1.2.2.2.2.2.1, ⟨hk.1.1.1.2.2.2.2.2.2, ⟨hk.1.1.2, ⟨hk.1.2, hk.2⟩⟩⟩⟩⟩⟩⟩⟩⟩)), (by (with_reducible repeat (first | apply ra | apply rn | apply rw_)); exact Kd.R_mono HO196.out (fun _ hk => ⟨hk.1.1.1.1, ⟨hk.1.1.1.2.1, ⟨hk.1.1.1.2.2.1, ⟨hk.1.1.1.2.2.2.1, ⟨hk.1.1.1.2.2.2.2.1, ⟨hk.1.1.1.2.2.2.2.2.1, ⟨hk.1.1.1.2.2.2.2.2.2, ⟨hk.1.1.2, ⟨hk.1.2, hk.2⟩⟩⟩⟩⟩⟩⟩⟩⟩)), (by (with_reducible repeat (first | apply ra | apply rn | apply rw_)); exact Kd.R_mono HO200.out (fun _ hk => ⟨hk.1.1.1.1, ⟨hk.1.1.1.2.1, ⟨hk.1.1.1.2.2.1, ⟨hk.1.1.1.2.2.2.1, ⟨hk.1.1.1.2.2.2.2.1, ⟨hk.1.1.1.2.2.2.2.2.1, ⟨hk.1.1.1.2.2.2.2.2.2, ⟨hk.1.1.2, ⟨hk.1.2, hk.2⟩⟩⟩⟩⟩⟩⟩⟩⟩)), (by (with_reducible repeat (first | apply ra | apply rn | apply rw_)); exact Kd.R_mono HO206.out (fun _ hk => ⟨hk.1.1.1.1, ⟨hk.1.1.1.2.1, ⟨hk.1.1.1.2.2.1, ⟨hk.1.1.1.2.2.2.1, ⟨hk.1.1.1.2.2.2.2.1, ⟨hk.1.1.1.2.2.2.2.2.1, ⟨hk.1.1.1.2.2.2.2.2.2, ⟨hk.1.1.2, ⟨hk.1.2, hk.2⟩⟩⟩⟩⟩⟩⟩⟩⟩)), (by (with_reducible repeat (first | apply ra | apply rn | apply rw_)); exact Kd.R_mono HO211.out (fun _ hk => ⟨hk.1.1.1.1, ⟨hk.1.1.1.2.1, ⟨hk.1.1.1.2.2.1, ⟨hk.1.1.1.2.2.2.1, ⟨hk.1.1.1.2.2.2.2.1, ⟨hk.1.1.1.2.2.2.2.2.1, ⟨hk.1.1.1.2.2.2.2.2.2, ⟨hk.1.1.2, ⟨hk.1.2, hk.2⟩⟩⟩⟩⟩⟩⟩⟩⟩)), (by (with_reducible repeat (first | apply ra | apply rn | apply rw_)); exact Kd.R_mono HO216.out (fun _ hk => ⟨hk.1.1.1.1, ⟨hk.1.1.1.2.1, ⟨hk.1.1.1.2.2.1, ⟨hk.1.1.1.2.2.2.1, ⟨hk.1.1.1.2.2.2.2.1, ⟨hk.1.1.1.2.2.2.2.2.1, ⟨hk.1.1.1.2.2.2.2.2.2, ⟨hk.1.1.2, ⟨hk.1.2, hk.2⟩⟩⟩⟩⟩⟩⟩⟩⟩)), (by (with_reducible repeat (first | apply ra | apply rn | apply rw_)); exact Kd.R_mono HO223.out (fun _ hk => ⟨hk.1.1.1.1, ⟨hk.1.1.1.2.1, ⟨hk.1.1.1.2.2.1, ⟨hk.1.1.1.2.2.2.1, ⟨hk.1.1.1.2.2.2.2.1, ⟨hk.1.1.1.2.2.2.2.2.1, ⟨hk.1.1.1.2.2.2.2.2.2, ⟨hk.1.1.2, ⟨hk.1.2, hk.2⟩⟩⟩⟩⟩⟩⟩⟩⟩)), (by (with_reducible repeat (first | apply ra | apply rn | apply rw_)); exact Kd.R_mono HO228.out (fun _ hk => ⟨hk.1.1.1.1, ⟨hk.1.1.1.2.1, ⟨hk.1.1.1.2.2.1, ⟨hk.1.1.1.2.2.2.1, ⟨hk.1.1.1.2.2.2.2.1, ⟨hk.1.1.1.2.2.2.2.2.1, ⟨hk.1.1.1.2.2.2.2.2.2, ⟨hk.1.1.2, ⟨hk.1.2, hk.2⟩⟩⟩⟩⟩⟩⟩⟩⟩)), (by (with_reducible repeat (first | apply ra | apply rn | apply rw_)); exact Kd.R_mono HO241.out (fun _ hk => ⟨hk.1.1.1.1.1.1.1.1.1.2, ⟨hk.1.1.1.1.1.1.1.1.2, ⟨hk.1.1.1.1.1.1.1.2, ⟨hk.1.1.1.1.1.1.2, ⟨hk.1.1.1.1.1.2, ⟨hk.1.1.1.1.2, ⟨hk.1.1.1.2, ⟨hk.1.1.2, ⟨hk.1.2, hk.2⟩⟩⟩⟩⟩⟩⟩⟩⟩)), (by (with_reducible repeat (first | apply ra | apply rn | apply rw_)); exact Kd.R_mono HO245.out (fun _ hk => ⟨hk.1.1.1.1.1.1.1.1.1.2, ⟨hk.1.1.1.1.1.1.1.1.2, ⟨hk.1.1.1.1.1.1.1.2, ⟨hk.1.1.1.1.1.1.2, ⟨hk.1.1.1.1.1.2, ⟨hk.1.1.1.1.2, ⟨hk.1.1.1.2, ⟨hk.1.1.2, ⟨hk.1.2, hk.2⟩⟩⟩⟩⟩⟩⟩⟩⟩)), (by (with_reducible repeat (first | apply ra | apply rn | apply rw_)); exact Kd.R_mono HO249.out (fun _ hk => ⟨hk.1.1.1.1.1.1.1.1.1.2, ⟨hk.1.1.1.1.1.1.1.1.2, ⟨hk.1.1.1.1.1.1.1.2, ⟨hk.1.1.1.1.1.1.2, ⟨hk.1.1.1.1.1.2, ⟨hk.1.1.1.1.2, ⟨hk.1.1.1.2, ⟨hk.1.1.2, ⟨hk.1.2, hk.2⟩⟩⟩⟩⟩⟩⟩⟩⟩)), (kz BK185.out), (kz BK186.out), (kz BK202.out), (kz BK207.out), (kz BK212.out), (kz BK218.out), (kz BK251.out), GW251.out, GE251.out, NB185_251.out, NB251_185.out, NB186_251.out, NB251_186.out, NB202_251.out, NB251_202.out, NB207_251.out, NB251_207.out, NB212_251.out, NB251_212.out, NB218_251.out, NB251_218.out, (bw HB.out)⟩)
                ·skip
                 refine box_step ?hg (N := 15) ?hd (cs := #[.int .i64 0, .slice none 0 0]) (t := 27) ?hr ?_; (case hd => rfl); (case hg => rfl); (case hr => first | (go_simp; done) | (go_simp; rfl))
                 intro gb251 hg w121 hbox hb
                 have n0_ := am (Kd.R_below (rz HO192.out) hb)
                 have n1_ := am (Kd.R_below (rz HO196.out) hb)
                 have n2_ := am (Kd.R_below (rz HO200.out) hb)
                 have n3_ := am (Kd.R_below (rz HO206.out) hb)
                 have n4_ := am (Kd.R_below (rz HO211.out) hb)
                 have n5_ := am (Kd.R_below (rz HO216.out) hb)
                 have n6_ := am (Kd.R_below (rz HO223.out) hb)
                 have n7_ := am (Kd.R_below (rz HO228.out) hb)
                 have n8_ := bk BK185 hb
                 have n9_ := bk BK186 hb
                 have n10_ := bk BK202 hb
                 have n11_ := bk BK207 hb
                 have n12_ := bk BK212 hb
                 have n13_ := bk BK218 hb
                 have n14_ := am (below_step (bw HB.out) hb)
                 have n15_ := am (hbox)
                 have n16_ := am ((by rw [hg]; exact (below_size (bw HB.out)) : w.heap.size ≤ gb251))
                 have n17_ := am ((by rw [hg]; exact (below_size (bw HB.out)) : w.heap.size ≤ gb251))
                 have n18_ := am ((by rw [hg]; exact Nat.ne_of_lt (blk_lt (kz BK185.out)) : gb185 ≠ gb251))
                 have n19_ := am ((by rw [hg]; exact Nat.ne_of_gt (blk_lt (kz BK185.out)) : gb251 ≠ gb185))
                 have n20_ := am ((by rw [hg]; exact Nat.ne_of_lt (blk_lt (kz BK186.out)) : gb186 ≠ gb251))
                 have n21_ := am ((by rw [hg]; exact Nat.ne_of_gt (blk_lt (kz BK186.out)) : gb251 ≠ gb186))
                 have n22_ := am ((by rw [hg]; exact Nat.ne_of_lt (blk_lt (kz BK202.out)) : gb202 ≠ gb251))
                 have n23_ := am ((by rw [hg]; exact Nat.ne_of_gt (blk_lt (kz BK202.out)) : gb251 ≠ gb202))
                 have n24_ := am ((by rw [hg]; exact Nat.ne_of_lt (blk_lt (kz BK207.out)) : gb207 ≠ gb251))
                 have n25_ := am ((by rw [hg]; exact Nat.ne_of_gt (blk_lt (kz BK207.out)) : gb251 ≠ gb207))
                 have n26_ := am ((by rw [hg]; exact Nat.ne_of_lt (blk_lt (kz BK212.out)) : gb212 ≠ gb251))
                 have n27_ := am ((by rw [hg]; exact Nat.ne_of_gt (blk_lt (kz BK212.out)) : gb251 ≠ gb212))
                 have n28_ := am ((by rw [hg]; exact Nat.ne_of_lt (blk_lt (kz BK218.out)) : gb218 ≠ gb251))
                 have n29_ := am ((by rw [hg]; exact Nat.ne_of_gt (blk_lt (kz BK218.out)) : gb251 ≠ gb218))
                 clear HO192 HO196 HO200 HO206 HO211 HO216 HO223 HO228 BK185 BK186 BK202 BK207 BK212 BK218 HB
                 revert n0_ n1_ n2_ n3_ n4_ n5_ n6_ n7_ n8_ n9_ n10_ n11_ n12_ n13_ n14_ n15_ n16_ n17_ n18_ n19_ n20_ n21_ n22_ n23_ n24_ n25_ n26_ n27_ n28_ n29_; intro HO192 HO196 HO200 HO206 HO211 HO216 HO223 HO228 BK185 BK186 BK202 BK207 BK212 BK218 HB BK251 GW251 GE251 NB185_251 NB251_185 NB186_251 NB251_186 NB202_251 NB251_202 NB207_251 NB251_207 NB212_251 NB251_212 NB218_251 NB251_218; clear hb hbox hg
                 refine hK.out _ _ ⟨(blk_cell BK185.out 0).trans rfl, (blk_cell BK185.out 1).trans rfl, (blk_cell BK186.out 0).trans rfl, (blk_cell BK186.out 1).trans rfl⟩ (fun hHeld => ?_)
                 clear hK K
                 refine norm_ (a' := ?_) ?_ ?_
                 rotate_left
                 ·show Act.put _ (some 15) _ = _
                  simp only [Act.put, List.setIfInBounds_toArray, List.set_cons_zero, List.set_cons_succ, i64_w, i32_w]
                  rfl
                 refine one_ (i := 1) (N := some 96) (mk 11 263) rfl rfl (one_of HT_.out (by kernel_rfl)) (by decide) (fun K hK => ?_)
                 refine goes_ Try.func16 (by kernel_rfl) rfl #[.agg #[.int .i64 a0_0, .slice A0_1 l0_1.length c0_1]] (by rfl) rfl rfl (by (try simp only [List.map_toArray, List.map_cons, List.map_nil]); first | done | rfl | (simp only [List.length_drop, List.length_take]; rfl)) ?_
                 with_reducible refine (laws_toMatrix.calls k a0_0 _ _ l0_1 t238 t239 _ ?side1 ?side2 A43.out).mono ?_
                 (case side1 => repeat (first | exact (Kd.C_below HR0_1.out HB.out) | (with_reducible refine Kd.C_alloc ?_ _) | (with_reducible refine Kd.C_drewN ?_ _) | (with_reducible refine Kd.C_drew ?_)))
                 (case side2 => exact HC0_1.out)
                 rintro e w122 ⟨v240, rfl, ho0, hb⟩
                 refine ⟨_, rfl, ?_⟩
                 have n0_ := el HO192 (Kd.R_base ho0) hb
                 have n1_ := el HO196 (Kd.R_base ho0) hb
                 have n2_ := el HO200 (Kd.R_base ho0) hb
                 have n3_ := el HO206 (Kd.R_base ho0) hb
                 have n4_ := el HO211 (Kd.R_base ho0) hb
                 have n5_ := el HO216 (Kd.R_base ho0) hb
                 have n6_ := el HO223 (Kd.R_base ho0) hb
                 have n7_ := el HO228 (Kd.R_base ho0) hb
                 have n8_ := am (Kd.R_lower (Kd.R_new' (Kd.R_new' (Kd.R_new' (Kd.R_new' (Kd.R_new' (Kd.R_new' (Kd.R_new' (Kd.R_new' ho0 (Kd.R_lt (rz HO192.out))) (Kd.R_lt (rz HO196.out))) (Kd.R_lt (rz HO200.out))) (Kd.R_lt (rz HO206.out))) (Kd.R_lt (rz HO211.out))) (Kd.R_lt (rz HO216.out))) (Kd.R_lt (rz HO223.out))) (Kd.R_lt (rz HO228.out))) (below_size (bw HB.out)))
                 have n9_ := bk BK185 hb
                 have n10_ := bk BK186 hb
                 have n11_ := bk BK202 hb
                 have n12_ := bk BK207 hb
                 have n13_ := bk BK212 hb
                 have n14_ := bk BK218 hb
                 have n15_ := bk BK251 hb
                 have n16_ := am (below_step (bw HB.out) hb)
                 clear HO192 HO196 HO200 HO206 HO211 HO216 HO223 HO228 BK185 BK186 BK202 BK207 BK212 BK218 BK251 HB
                 revert n0_ n1_ n2_ n3_ n4_ n5_ n6_ n7_ n8_ n9_ n10_ n11_ n12_ n13_ n14_ n15_ n16_; intro HO192 HO196 HO200 HO206 HO211 HO216 HO223 HO228 HO241 BK185 BK186 BK202 BK207 BK212 BK218 BK251 HB
                 (try clear hb)
                 (try clear hb2)
                 (try clear hk)
                 (try clear hi)
                 (try clear ho0)
                 refine hK.out _ _ ⟨(blk_cell BK185.out 0).trans rfl, (blk_cell BK185.out 1).trans rfl, (blk_cell BK186.out 0).trans rfl, (blk_cell BK186.out 1).trans rfl⟩ (fun hHeld => ?_)
                 clear hK K
                 refine norm_ (a' := ?_) ?_ ?_
                 rotate_left
                 ·show Act.put _ (some 96) _ = _
                  simp only [Act.put, List.setIfInBounds_toArray, List.set_cons_zero, List.set_cons_succ, i64_w, i32_w]
                  rfl
                 refine one_ (i := 3) (N := some 98) (mk 11 271) rfl rfl (one_of HT_.out (by kernel_rfl)) (by decide) (fun K hK => ?_)
                 refine goes_ Try.func16 (by kernel_rfl) rfl #[.agg #[.int .i64 a1_0, .slice A1_1 l1_1.length c1_1]] (by rfl) rfl rfl (by (try simp only [List.map_toArray, List.map_cons, List.map_nil]); first | done | rfl | (simp only [List.length_drop, List.length_take]; rfl)) ?_
                 with_reducible refine (laws_toMatrix.calls k a1_0 _ _ l1_1 t242 t243 _ ?side1 ?side2 A44.out).mono ?_
                 (case side1 => repeat (first | exact (Kd.C_below HR1_1.out HB.out) | (with_reducible refine Kd.C_alloc ?_ _) | (with_reducible refine Kd.C_drewN ?_ _) | (with_reducible refine Kd.C_drew ?_)))
                 (case side2 => exact HC1_1.out)
                 rintro e w123 ⟨v244, rfl, ho0, hb⟩
                 refine ⟨_, rfl, ?_⟩
                 have n0_ := el HO192 (Kd.R_base ho0) hb
                 have n1_ := el HO196 (Kd.R_base ho0) hb
                 have n2_ := el HO200 (Kd.R_base ho0) hb
                 have n3_ := el HO206 (Kd.R_base ho0) hb
                 have n4_ := el HO211 (Kd.R_base ho0) hb
                 have n5_ := el HO216 (Kd.R_base ho0) hb
                 have n6_ := el HO223 (Kd.R_base ho0) hb
                 have n7_ := el HO228 (Kd.R_base ho0) hb
                 have n8_ := el HO241 (Kd.R_base ho0) hb
                 have n9_ := am (Kd.R_lower (Kd.R_new' (Kd.R_new' (Kd.R_new' (Kd.R_new' (Kd.R_new' (Kd.R_new' (Kd.R_new' (Kd.R_new' (Kd.R_new' ho0 (Kd.R_lt (rz HO192.out))) (Kd.R_lt (rz HO196.out))) (Kd.R_lt (rz HO200.out))) (Kd.R_lt (rz HO206.out))) (Kd.R_lt (rz HO211.out))) (Kd.R_lt (rz HO216.out))) (Kd.R_lt (rz HO223.out))) (Kd.R_lt (rz HO228.out))) (Kd.R_lt (rz HO241.out))) (below_size (bw HB.out)))
                 have n10_ := bk BK185 hb
                 have n11_ := bk BK186 hb
                 have n12_ := bk BK202 hb
                 have n13_ := bk BK207 hb
                 have n14_ := bk BK212 hb
                 have n15_ := bk BK218 hb
                 have n16_ := bk BK251 hb
                 have n17_ := am (below_step (bw HB.out) hb)
                 clear HO192 HO196 HO200 HO206 HO211 HO216 HO223 HO228 HO241 BK185 BK186 BK202 BK207 BK212 BK218 BK251 HB
                 revert n0_ n1_ n2_ n3_ n4_ n5_ n6_ n7_ n8_ n9_ n10_ n11_ n12_ n13_ n14_ n15_ n16_ n17_; intro HO192 HO196 HO200 HO206 HO211 HO216 HO223 HO228 HO241 HO245 BK185 BK186 BK202 BK207 BK212 BK218 BK251 HB
                 (try clear hb)
                 (try clear hb2)
                 (try clear hk)
                 (try clear hi)
                 (try clear ho0)
                 obtain ⟨Ao124, co124, eo124⟩ := Kd.R_slice HO241.out
                 (first | subst eo124 | (injection eo124 with f1_ f2_ f3_; have f4_ := f1_.symm; have f5_ := f3_.symm; clear f1_ f2_ f3_; subst f4_; subst f5_))
                 obtain ⟨Ao125, co125, eo125⟩ := Kd.R_slice HO245.out
                 (first | subst eo125 | (injection eo125 with f1_ f2_ f3_; have f4_ := f1_.symm; have f5_ := f3_.symm; clear f1_ f2_ f3_; subst f4_; subst f5_))
                 refine hK.out _ _ ⟨(blk_cell BK185.out 0).trans rfl, (blk_cell BK185.out 1).trans rfl, (blk_cell BK186.out 0).trans rfl, (blk_cell BK186.out 1).trans rfl⟩ (fun hHeld => ?_)
                 clear hK K
                 refine norm_ (a' := ?_) ?_ ?_
                 rotate_left
                 ·show Act.put _ (some 98) _ = _
                  simp only [Act.put, List.setIfInBounds_toArray, List.set_cons_zero, List.set_cons_succ, i64_w, i32_w]
                  rfl
                 refine one_ (i := 4) (N := some 99) (mk 11 287) rfl rfl (one_of HT_.out (by kernel_rfl)) (by decide) (fun K hK => ?_)
                 refine goes_ Try.func26 (by kernel_rfl) rfl #[.agg #[.int .i64 t238, .slice Ao124 t239.length co124], .agg #[.int .i64 t242, .slice Ao125 t243.length co125]] (by rfl) rfl rfl (by (try simp only [List.map_toArray, List.map_cons, List.map_nil]); first | done | rfl | (simp only [List.length_drop, List.length_take]; rfl)) ?_
                 with_reducible refine (impl_MinMatrix.calls k t238 _ _ t239 t242 _ _ t243 t246 t247 t250 _ ?side1 ?side2 ?side3 ?side4 A45.out).mono ?_
                 (case side1 => repeat (first | exact (Kd.R_reads' HO241.out).2.2 | (with_reducible refine Kd.C_alloc ?_ _) | (with_reducible refine Kd.C_drewN ?_ _) | (with_reducible refine Kd.C_drew ?_)))
                 (case side2 => exact (Kd.R_reads' HO241.out).2.1)
                 (case side3 => repeat (first | exact (Kd.R_reads' HO245.out).2.2 | (with_reducible refine Kd.C_alloc ?_ _) | (with_reducible refine Kd.C_drewN ?_ _) | (with_reducible refine Kd.C_drew ?_)))
                 (case side4 => exact (Kd.R_reads' HO245.out).2.1)
                 rintro e w126 ⟨v248, rfl, ho0, hb⟩
                 refine ⟨_, rfl, ?_⟩
                 have n0_ := el HO192 (Kd.R_base ho0) hb
                 have n1_ := el HO196 (Kd.R_base ho0) hb
                 have n2_ := el HO200 (Kd.R_base ho0) hb
                 have n3_ := el HO206 (Kd.R_base ho0) hb
                 have n4_ := el HO211 (Kd.R_base ho0) hb
                 have n5_ := el HO216 (Kd.R_base ho0) hb
                 have n6_ := el HO223 (Kd.R_base ho0) hb
                 have n7_ := el HO228 (Kd.R_base ho0) hb
                 have n8_ := el HO241 (Kd.R_base ho0) hb
                 have n9_ := el HO245 (Kd.R_base ho0) hb
                 have n10_ := am (Kd.R_lower (Kd.R_new' (Kd.R_new' (Kd.R_new' (Kd.R_new' (Kd.R_new' (Kd.R_new' (Kd.R_new' (Kd.R_new' (Kd.R_new' (Kd.R_new' ho0 (Kd.R_lt (rz HO192.out))) (Kd.R_lt (rz HO196.out))) (Kd.R_lt (rz HO200.out))) (Kd.R_lt (rz HO206.out))) (Kd.R_lt (rz HO211.out))) (Kd.R_lt (rz HO216.out))) (Kd.R_lt (rz HO223.out))) (Kd.R_lt (rz HO228.out))) (Kd.R_lt (rz HO241.out))) (Kd.R_lt (rz HO245.out))) (below_size (bw HB.out)))
                 have n11_ := bk BK185 hb
                 have n12_ := bk BK186 hb
                 have n13_ := bk BK202 hb
                 have n14_ := bk BK207 hb
                 have n15_ := bk BK212 hb
                 have n16_ := bk BK218 hb
                 have n17_ := bk BK251 hb
                 have n18_ := am (below_step (bw HB.out) hb)
                 clear HO192 HO196 HO200 HO206 HO211 HO216 HO223 HO228 HO241 HO245 BK185 BK186 BK202 BK207 BK212 BK218 BK251 HB
                 revert n0_ n1_ n2_ n3_ n4_ n5_ n6_ n7_ n8_ n9_ n10_ n11_ n12_ n13_ n14_ n15_ n16_ n17_ n18_; intro HO192 HO196 HO200 HO206 HO211 HO216 HO223 HO228 HO241 HO245 HO249 BK185 BK186 BK202 BK207 BK212 BK218 BK251 HB
                 (try clear hb)
                 (try clear hb2)
                 (try clear hk)
                 (try clear hi)
                 (try clear ho0)
                 refine hK.out _ _ ⟨(blk_cell BK185.out 0).trans rfl, (blk_cell BK185.out 1).trans rfl, (blk_cell BK186.out 0).trans rfl, (blk_cell BK186.out 1).trans rfl⟩ (fun hHeld => ?_)
                 clear hK K
                 refine norm_ (a' := ?_) ?_ ?_
                 rotate_left
                 ·show Act.put _ (some 99) _ = _
                  simp only [Act.put, List.setIfInBounds_toArray, List.set_cons_zero, List.set_cons_succ, i64_w, i32_w]
                  rfl
                 refine pv 5 94 11 319 HT_ ?_
                 refine pv 6 100 11 383 HT_ ?_
                 refine pv 7 101 11 511 HT_ ?_
                 exact norm_ (by simp only [putAll, Act.put, List.setIfInBounds_toArray, List.set_cons_zero, List.set_cons_succ]) (hCont (.slice Ao124 t239.length co124, .slice Ao125 t243.length co125, v248, gb251) _ ⟨hHeld, (by (with_reducible repeat (first | apply ra | apply rn | apply rw_)); exact Kd.R_mono HO192.out (fun _ hk => ⟨hk.1.1.1.1, ⟨hk.1.1.1.2.1, ⟨hk.1.1.1.2.2.1, ⟨hk.1.1.1.2.2.2.1, ⟨hk.1.1.1.2.2.2.2.1, ⟨hk.1.1.1.2.2.2.2.2.1, ⟨hk.1.1.1.2.2.2.2.2.2, ⟨hk.1.1.2, ⟨hk.1.2, hk.2⟩⟩⟩⟩⟩⟩⟩⟩⟩)), (by (with_reducible repeat (first | apply ra | apply rn | apply rw_)); exact Kd.R_mono HO196.out (fun _ hk => ⟨hk.1.1.1.1, ⟨hk.1.1.1.2.1, ⟨hk.1.1.1.2.2.1, ⟨hk.1.1.1.2.2.2.1, ⟨hk.1.1.1.2.2.2.2.1, ⟨hk.1.1.1.2.2.2.2.2.1, ⟨hk.1.1.1.2.2.2.2.2.2, ⟨hk.1.1.2, ⟨hk.1.2, hk.2⟩⟩⟩⟩⟩⟩⟩⟩⟩)), (by (with_reducible repeat (first | apply ra | apply rn | apply rw_)); exact Kd.R_mono HO200.out (fun _ hk => ⟨hk.1.1.1.1, ⟨hk.1.1.1.2.1, ⟨hk.1.1.1.2.2.1, ⟨hk.1.1.1.2.2.2.1, ⟨hk.1.1.1.2.2.2.2.1, ⟨hk.1.1.1.2.2.2.2.2.1, ⟨hk.1.1.1.2.2.2.2.2.2, ⟨hk.1.1.2, ⟨hk.1.2, hk.2⟩⟩⟩⟩⟩⟩⟩⟩⟩)), (by (with_reducible repeat (first | apply ra | apply rn | apply rw_)); exact Kd.R_mono HO206.out (fun _ hk => ⟨hk.1.1.1.1, ⟨hk.1.1.1.2.1, ⟨hk.1.1.1.2.2.1, ⟨hk.1.1.1.2.2.2.1, ⟨hk.1.1.1.2.2.2.2.1, ⟨hk.1.1.1.2.2.2.2.2.1, ⟨hk.1.1.1.2.2.2.2.2.2, ⟨hk.1.1.2, ⟨hk.1.2, hk.2⟩⟩⟩⟩⟩⟩⟩⟩⟩)), (by (with_reducible repeat (first | apply ra | apply rn | apply rw_)); exact Kd.R_mono HO211.out (fun _ hk => ⟨hk.1.1.1.1, ⟨hk.1.1.1.2.1, ⟨hk.1.1.1.2.2.1, ⟨hk.1.1.1.2.2.2.1, ⟨hk.1.1.1.2.2.2.2.1, ⟨hk.1.1.1.2.2.2.2.2.1, ⟨hk.1.1.1.2.2.2.2.2.2, ⟨hk.1.1.2, ⟨hk.1.2, hk.2⟩⟩⟩⟩⟩⟩⟩⟩⟩)), (by (with_reducible repeat (first | apply ra | apply rn | apply rw_)); exact Kd.R_mono HO216.out (fun _ hk => ⟨hk.1.1.1.1, ⟨hk.1.1.1.2.1, ⟨hk.1.1.1.2.2.1, ⟨hk.1.1.1.2.2.2.1, ⟨hk.1.1.1.2.2.2.2.1, ⟨hk.1.1.1.2.2.2.2.2.1, ⟨hk.1.1.1.2.2.2.2.2.2, ⟨hk.1.1.2, ⟨hk.1.2, hk.2⟩⟩⟩⟩⟩⟩⟩⟩⟩)), (by (with_reducible repeat (first | apply ra | apply rn | apply rw_)); exact Kd.R_mono HO223.out (fun _ hk => ⟨hk.1.1.1.1, ⟨hk.1.1.1.2.1, ⟨hk.1.1.1.2.2.1, ⟨hk.1.1.1.2.2.2.1, ⟨hk.1.1.1.2.2.2.2.1, ⟨hk.1.1.1.2.2.2.2.2.1, ⟨hk.1.1.1.2.2.2.2.2.2, ⟨hk.1.1.2, ⟨hk.1.2, hk.2⟩⟩⟩⟩⟩⟩⟩⟩⟩)), (by (with_reducible repeat (first | apply ra | apply rn | apply rw_)); exact Kd.R_mono HO228.out (fun _ hk => ⟨hk.1.1.1.1, ⟨hk.1.1.1.2.1, ⟨hk.1.1.1.2.2.1, ⟨hk.1.1.1.2.2.2.1, ⟨hk.1.1.1.2.2.2.2.1, ⟨hk.1.1.1.2.2.2.2.2.1, ⟨hk.1.1.1.2.2.2.2.2.2, ⟨hk.1.1.2, ⟨hk.1.2, hk.2⟩⟩⟩⟩⟩⟩⟩⟩⟩)), (by (with_reducible repeat (first | apply ra | apply rn | apply rw_)); exact Kd.R_mono HO241.out (fun _ hk => ⟨hk.1.1.1.1.1.1.1.1.1.2, ⟨hk.1.1.1.1.1.1.1.1.2, ⟨hk.1.1.1.1.1.1.1.2, ⟨hk.1.1.1.1.1.1.2, ⟨hk.1.1.1.1.1.2, ⟨hk.1.1.1.1.2, ⟨hk.1.1.1.2, ⟨hk.1.1.2, ⟨hk.1.2, hk.2⟩⟩⟩⟩⟩⟩⟩⟩⟩)), (by (with_reducible repeat (first | apply ra | apply rn | apply rw_)); exact Kd.R_mono HO245.out (fun _ hk => ⟨hk.1.1.1.1.1.1.1.1.1.2, ⟨hk.1.1.1.1.1.1.1.1.2, ⟨hk.1.1.1.1.1.1.1.2, ⟨hk.1.1.1.1.1.1.2, ⟨hk.1.1.1.1.1.2, ⟨hk.1.1.1.1.2, ⟨hk.1.1.1.2, ⟨hk.1.1.2, ⟨hk.1.2, hk.2⟩⟩⟩⟩⟩⟩⟩⟩⟩)), (by (with_reducible repeat (first | apply ra | apply rn | apply rw_)); exact Kd.R_mono HO249.out (fun _ hk => ⟨hk.1.1.1.1.1.1.1.1.1.2, ⟨hk.1.1.1.1.1.1.1.1.2, ⟨hk.1.1.1.1.1.1.1.2, ⟨hk.1.1.1.1.1.1.2, ⟨hk.1.1.1.1.1.2, ⟨hk.1.1.1.1.2, ⟨hk.1.1.1.2, ⟨hk.1.1.2, ⟨hk.1.2, hk.2⟩⟩⟩⟩⟩⟩⟩⟩⟩)), (kz BK185.out), (kz BK186.out), (kz BK202.out), (kz BK207.out), (kz BK212.out), (kz BK218.out), (kz BK251.out), GW251.out, GE251.out, NB185_251.out, NB251_185.out, NB186_251.out, NB251_186.out, NB202_251.out, NB251_202.out, NB207_251.out, NB251_207.out, NB212_251.out, NB251_212.out, NB218_251.out, NB251_218.out, (bw HB.out)⟩)
               rintro ⟨v240, v244, v248, gb251⟩ w127 ⟨hS_, h0_, h1_, h2_, h3_, h4_, h5_, h6_, h7_, h8_, h9_, h10_, h11_, h12_, h13_, h14_, h15_, h16_, h17_, h18_, h19_, h20_, h21_, h22_, h23_, h24_, h25_, h26_, h27_, h28_, h29_, h30_, h31_, h32_⟩
               have n0_ : Aside0 (Kd.R (Kd.int .i64) 3 w127 w.heap.size (fun k_ => some k_ ≠ (v195 : Value).ownBlock ∧ NS Ao68 t198 co68 k_ ∧ NS Ao78 t204 co78 k_ ∧ NS Ao88 t209 co88 k_ ∧ NS Ao98 t214 co98 k_ ∧ NS Ao103 t221 co103 k_ ∧ NS Ao107 t226 co107 k_ ∧ some k_ ≠ (v240 : Value).ownBlock ∧ some k_ ≠ (v244 : Value).ownBlock ∧ some k_ ≠ (v248 : Value).ownBlock) v191 t190) := ⟨h0_⟩
               have n1_ : Aside0 (Kd.R (Kd.int .i64) 3 w127 w.heap.size (fun k_ => some k_ ≠ (v191 : Value).ownBlock ∧ NS Ao68 t198 co68 k_ ∧ NS Ao78 t204 co78 k_ ∧ NS Ao88 t209 co88 k_ ∧ NS Ao98 t214 co98 k_ ∧ NS Ao103 t221 co103 k_ ∧ NS Ao107 t226 co107 k_ ∧ some k_ ≠ (v240 : Value).ownBlock ∧ some k_ ≠ (v244 : Value).ownBlock ∧ some k_ ≠ (v248 : Value).ownBlock) v195 t194) := ⟨h1_⟩
               have n2_ : Aside0 (Kd.R (Kd.int .i64) 3 w127 w.heap.size (fun k_ => some k_ ≠ (v191 : Value).ownBlock ∧ some k_ ≠ (v195 : Value).ownBlock ∧ NS Ao78 t204 co78 k_ ∧ NS Ao88 t209 co88 k_ ∧ NS Ao98 t214 co98 k_ ∧ NS Ao103 t221 co103 k_ ∧ NS Ao107 t226 co107 k_ ∧ some k_ ≠ (v240 : Value).ownBlock ∧ some k_ ≠ (v244 : Value).ownBlock ∧ some k_ ≠ (v248 : Value).ownBlock) (.slice Ao68 t198.length co68) t198) := ⟨h2_⟩
               have n3_ : Aside0 (Kd.R (Kd.int .i64) 3 w127 w.heap.size (fun k_ => some k_ ≠ (v191 : Value).ownBlock ∧ some k_ ≠ (v195 : Value).ownBlock ∧ NS Ao68 t198 co68 k_ ∧ NS Ao88 t209 co88 k_ ∧ NS Ao98 t214 co98 k_ ∧ NS Ao103 t221 co103 k_ ∧ NS Ao107 t226 co107 k_ ∧ some k_ ≠ (v240 : Value).ownBlock ∧ some k_ ≠ (v244 : Value).ownBlock ∧ some k_ ≠ (v248 : Value).ownBlock) (.slice Ao78 t204.length co78) t231) := ⟨h3_⟩
               have n4_ : Aside0 (Kd.R (Kd.int .i64) 3 w127 w.heap.size (fun k_ => some k_ ≠ (v191 : Value).ownBlock ∧ some k_ ≠ (v195 : Value).ownBlock ∧ NS Ao68 t198 co68 k_ ∧ NS Ao78 t204 co78 k_ ∧ NS Ao98 t214 co98 k_ ∧ NS Ao103 t221 co103 k_ ∧ NS Ao107 t226 co107 k_ ∧ some k_ ≠ (v240 : Value).ownBlock ∧ some k_ ≠ (v244 : Value).ownBlock ∧ some k_ ≠ (v248 : Value).ownBlock) (.slice Ao88 t209.length co88) t233) := ⟨h4_⟩
               have n5_ : Aside0 (Kd.R (Kd.int .i64) 3 w127 w.heap.size (fun k_ => some k_ ≠ (v191 : Value).ownBlock ∧ some k_ ≠ (v195 : Value).ownBlock ∧ NS Ao68 t198 co68 k_ ∧ NS Ao78 t204 co78 k_ ∧ NS Ao88 t209 co88 k_ ∧ NS Ao103 t221 co103 k_ ∧ NS Ao107 t226 co107 k_ ∧ some k_ ≠ (v240 : Value).ownBlock ∧ some k_ ≠ (v244 : Value).ownBlock ∧ some k_ ≠ (v248 : Value).ownBlock) (.slice Ao98 t214.length co98) t236) := ⟨h5_⟩
               have n6_ : Aside0 (Kd.R (Kd.int .i64) 3 w127 w.heap.size (fun k_ => some k_ ≠ (v191 : Value).ownBlock ∧ some k_ ≠ (v195 : Value).ownBlock ∧ NS Ao68 t198 co68 k_ ∧ NS Ao78 t204 co78 k_ ∧ NS Ao88 t209 co88 k_ ∧ NS Ao98 t214 co98 k_ ∧ NS Ao107 t226 co107 k_ ∧ some k_ ≠ (v240 : Value).ownBlock ∧ some k_ ≠ (v244 : Value).ownBlock ∧ some k_ ≠ (v248 : Value).ownBlock) (.slice Ao103 t221.length co103) t221) := ⟨h6_⟩
               have n7_ : Aside0 (Kd.R (Kd.int .i64) 3 w127 w.heap.size (fun k_ => some k_ ≠ (v191 : Value).ownBlock ∧ some k_ ≠ (v195 : Value).ownBlock ∧ NS Ao68 t198 co68 k_ ∧ NS Ao78 t204 co78 k_ ∧ NS Ao88 t209 co88 k_ ∧ NS Ao98 t214 co98 k_ ∧ NS Ao103 t221 co103 k_ ∧ some k_ ≠ (v240 : Value).ownBlock ∧ some k_ ≠ (v244 : Value).ownBlock ∧ some k_ ≠ (v248 : Value).ownBlock) (.slice Ao107 t226.length co107) t226) := ⟨h7_⟩
               have n8_ : Aside0 (Kd.R (Kd.int .i64) 3 w127 w.heap.size (fun k_ => some k_ ≠ (v191 : Value).ownBlock ∧ some k_ ≠ (v195 : Value).ownBlock ∧ NS Ao68 t198 co68 k_ ∧ NS Ao78 t204 co78 k_ ∧ NS Ao88 t209 co88 k_ ∧ NS Ao98 t214 co98 k_ ∧ NS Ao103 t221 co103 k_ ∧ NS Ao107 t226 co107 k_ ∧ some k_ ≠ (v244 : Value).ownBlock ∧ some k_ ≠ (v248 : Value).ownBlock) v240 t239) := ⟨h8_⟩
               have n9_ : Aside0 (Kd.R (Kd.int .i64) 3 w127 w.heap.size (fun k_ => some k_ ≠ (v191 : Value).ownBlock ∧ some k_ ≠ (v195 : Value).ownBlock ∧ NS Ao68 t198 co68 k_ ∧ NS Ao78 t204 co78 k_ ∧ NS Ao88 t209 co88 k_ ∧ NS Ao98 t214 co98 k_ ∧ NS Ao103 t221 co103 k_ ∧ NS Ao107 t226 co107 k_ ∧ some k_ ≠ (v240 : Value).ownBlock ∧ some k_ ≠ (v248 : Value).ownBlock) v244 t243) := ⟨h9_⟩
               have n10_ : Aside0 (Kd.R (Kd.int .i64) 3 w127 w.heap.size (fun k_ => some k_ ≠ (v191 : Value).ownBlock ∧ some k_ ≠ (v195 : Value).ownBlock ∧ NS Ao68 t198 co68 k_ ∧ NS Ao78 t204 co78 k_ ∧ NS Ao88 t209 co88 k_ ∧ NS Ao98 t214 co98 k_ ∧ NS Ao103 t221 co103 k_ ∧ NS Ao107 t226 co107 k_ ∧ some k_ ≠ (v240 : Value).ownBlock ∧ some k_ ≠ (v244 : Value).ownBlock) v248 t247) := ⟨h10_⟩
               have n11_ : Aside0 (w127.heap[gb185]? = some (.cells #[.int .i64 a0_0, .slice A0_1 l0_1.length c0_1] 24 (0, 0))) := ⟨h11_⟩
               have n12_ : Aside0 (w127.heap[gb186]? = some (.cells #[.int .i64 a1_0, .slice A1_1 l1_1.length c1_1] 24 (0, 0))) := ⟨h12_⟩
               have n13_ : Aside0 (w127.heap[gb202]? = some (.cells #[.int .i64 t197, .slice Ao68 t198.length co68] 27 (0, 0))) := ⟨h13_⟩
               have n14_ : Aside0 (w127.heap[gb207]? = some (.cells #[.int .i64 t203, .slice Ao78 t204.length co78] 27 (0, 0))) := ⟨h14_⟩
               have n15_ : Aside0 (w127.heap[gb212]? = some (.cells #[.int .i64 t208, .slice Ao88 t209.length co88] 27 (0, 0))) := ⟨h15_⟩
               have n16_ : Aside0 (w127.heap[gb218]? = some (.cells #[.int .i64 t213, .slice Ao98 t214.length co98] 27 (0, 0))) := ⟨h16_⟩
               have n17_ : Aside0 (w127.heap[gb251]? = some (.cells #[.int .i64 0, .slice none 0 0] 27 (0, 0))) := ⟨h17_⟩
               have n18_ : Aside0 (w.heap.size ≤ gb251) := ⟨h18_⟩
               have n19_ : Aside0 (w.heap.size ≤ gb251) := ⟨h19_⟩
               have n20_ : Aside0 (gb185 ≠ gb251) := ⟨h20_⟩
               have n21_ : Aside0 (gb251 ≠ gb185) := ⟨h21_⟩
               have n22_ : Aside0 (gb186 ≠ gb251) := ⟨h22_⟩
               have n23_ : Aside0 (gb251 ≠ gb186) := ⟨h23_⟩
               have n24_ : Aside0 (gb202 ≠ gb251) := ⟨h24_⟩
               have n25_ : Aside0 (gb251 ≠ gb202) := ⟨h25_⟩
               have n26_ : Aside0 (gb207 ≠ gb251) := ⟨h26_⟩
               have n27_ : Aside0 (gb251 ≠ gb207) := ⟨h27_⟩
               have n28_ : Aside0 (gb212 ≠ gb251) := ⟨h28_⟩
               have n29_ : Aside0 (gb251 ≠ gb212) := ⟨h29_⟩
               have n30_ : Aside0 (gb218 ≠ gb251) := ⟨h30_⟩
               have n31_ : Aside0 (gb251 ≠ gb218) := ⟨h31_⟩
               have n32_ : Aside0 (Below w.heap.size w w127) := ⟨h32_⟩
               clear HO192 HO196 HO200 HO206 HO211 HO216 HO223 HO228 BK185 BK186 BK202 BK207 BK212 BK218 HB h0_ h1_ h2_ h3_ h4_ h5_ h6_ h7_ h8_ h9_ h10_ h11_ h12_ h13_ h14_ h15_ h16_ h17_ h18_ h19_ h20_ h21_ h22_ h23_ h24_ h25_ h26_ h27_ h28_ h29_ h30_ h31_ h32_
               revert n0_ n1_ n2_ n3_ n4_ n5_ n6_ n7_ n8_ n9_ n10_ n11_ n12_ n13_ n14_ n15_ n16_ n17_ n18_ n19_ n20_ n21_ n22_ n23_ n24_ n25_ n26_ n27_ n28_ n29_ n30_ n31_ n32_; intro HO192 HO196 HO200 HO206 HO211 HO216 HO223 HO228 HO241 HO245 HO249 BK185 BK186 BK202 BK207 BK212 BK218 BK251 GW251 GE251 NB185_251 NB251_185 NB186_251 NB251_186 NB202_251 NB251_202 NB207_251 NB251_207 NB212_251 NB251_212 NB218_251 NB251_218 HB
               have hHeld : w127.cell? ⟨gb185, 0, none⟩ = some (.int .i64 a0_0) ∧ w127.cell? ⟨gb185, 1, none⟩ = some (.slice A0_1 l0_1.length c0_1) ∧ w127.cell? ⟨gb186, 0, none⟩ = some (.int .i64 a1_0) ∧ w127.cell? ⟨gb186, 1, none⟩ = some (.slice A1_1 l1_1.length c1_1) := hS_
               obtain ⟨Ao129, co129, eo129⟩ := Kd.R_slice HO249.out
               (first | subst eo129 | (injection eo129 with f1_ f2_ f3_; have f4_ := f1_.symm; have f5_ := f3_.symm; clear f1_ f2_ f3_; subst f4_; subst f5_))
               refine norm_ (a' := ?_) ?_ ?_
               rotate_left
               ·simp only [putAll, Act.put, List.setIfInBounds_toArray, List.set_cons_zero, List.set_cons_succ]
                rfl
               refine one_ (i := 9) (N := none) (mk 11 1023) rfl rfl (one_of HT_.out (by kernel_rfl)) (by decide) (fun K hK => ?_)
               have hs128 : w127.cell? ⟨gb251, 0, none⟩ = some (.int .i64 0) := (blk_cell BK251.out 0).trans rfl
               have hfs128 := blk_frozen BK251.out 0
               have hns128_0 := NB185_251.out
               have hns128_1 := NB186_251.out
               have hns128_2 := NB202_251.out
               have hns128_3 := NB207_251.out
               have hns128_4 := NB212_251.out
               have hns128_5 := NB218_251.out
               have hms128_0 := NB251_185.out
               have hms128_1 := NB251_186.out
               have hms128_2 := NB251_202.out
               have hms128_3 := NB251_207.out
               have hms128_4 := NB251_212.out
               have hms128_5 := NB251_218.out
               have hs130 : w127.cell? ⟨gb251, 1, none⟩ = some (.slice none 0 0) := (blk_cell BK251.out 1).trans rfl
               have hfs130 := blk_frozen BK251.out 1
               have hns130_0 := NB185_251.out
               have hns130_1 := NB186_251.out
               have hns130_2 := NB202_251.out
               have hns130_3 := NB207_251.out
               have hns130_4 := NB212_251.out
               have hns130_5 := NB218_251.out
               have hms130_0 := NB251_185.out
               have hms130_1 := NB251_186.out
               have hms130_2 := NB251_202.out
               have hms130_3 := NB251_207.out
               have hms130_4 := NB251_212.out
               have hms130_5 := NB251_218.out
               refine skip_ (w1 := ?_) (by rfl) rfl ?_ ?_
               rotate_left
               ·go_simp
                rfl
               refine hK.out _ _ ⟨((cell_far (p := ⟨gb251, _, none⟩) NB185_251.out _).trans (((cell_far (p := ⟨gb251, _, none⟩) NB185_251.out _).trans (hHeld.1)))), ((cell_far (p := ⟨gb251, _, none⟩) NB185_251.out _).trans (((cell_far (p := ⟨gb251, _, none⟩) NB185_251.out _).trans (hHeld.2.1)))), ((cell_far (p := ⟨gb251, _, none⟩) NB186_251.out _).trans (((cell_far (p := ⟨gb251, _, none⟩) NB186_251.out _).trans (hHeld.2.2.1)))), ((cell_far (p := ⟨gb251, _, none⟩) NB186_251.out _).trans (((cell_far (p := ⟨gb251, _, none⟩) NB186_251.out _).trans (hHeld.2.2.2))))⟩ (fun hHeld => ?_)
               clear hK K
               refine pv 10 16 11 2047 HT_ ?_
               refine done_ (done_of HT_.out (by kernel_rfl)) ?_
               have hnb131 := NB251_185.out
               have hnc131 := NB185_251.out
               have hnb132 := NB251_186.out
               have hnc132 := NB186_251.out
               have hnb133 := NB251_202.out
               have hnc133 := NB202_251.out
               have hnb134 := NB251_207.out
               have hnc134 := NB207_251.out
               have hnb135 := NB251_212.out
               have hnc135 := NB212_251.out
               have hnb136 := NB251_218.out
               have hnc136 := NB218_251.out
               have hcz137_0 : w127.cell? ⟨gb251, 0, none⟩ = some (.int .i64 0) := (blk_cell BK251.out 0).trans rfl
               have hcz137_1 : w127.cell? ⟨gb251, 1, none⟩ = some (.slice none 0 0) := (blk_cell BK251.out 1).trans rfl
               have hfz137_0 := blk_frozen BK251.out 0
               have hfz137_1 := blk_frozen BK251.out 1
               have hcz138_0 : w127.cell? ⟨gb202, 0, none⟩ = some (.int .i64 t197) := (blk_cell BK202.out 0).trans rfl
               have hcz138_1 : w127.cell? ⟨gb202, 1, none⟩ = some (.slice Ao68 t198.length co68) := (blk_cell BK202.out 1).trans rfl
               have hfz138_0 := blk_frozen BK202.out 0
               have hfz138_1 := blk_frozen BK202.out 1
               try go_wp2_with (first | ((with_reducible refine gate_callee (f := 18) rfl ?_); refine goesL_ (some 104) rfl rfl Try.func18 (by kernel_rfl) rfl #[.agg #[.int .i64 t246, .slice Ao129 t247.length co129], .agg #[.int .i64 t197, .slice Ao68 t198.length co68]] rfl (by (try simp only [List.map_toArray, List.map_cons, List.map_nil]); first | done | rfl | (simp only [List.length_drop, List.length_take]; rfl)) ?_; (with_reducible refine (laws_eqMatrix.calls k t246 _ _ t247 t197 _ _ t198 true _ ?side1 ?side2 ?side3 ?side4 A46.out).mono ?_); (case side1 => refine (Kd.R_reads' (e := 3) (base := w.heap.size) (ok := fun k_ => (some k_ ≠ (v191 : Value).ownBlock ∧ (some k_ ≠ (v195 : Value).ownBlock ∧ (NS Ao68 t198 co68 k_ ∧ (NS Ao78 t204 co78 k_ ∧ (NS Ao88 t209 co88 k_ ∧ (NS Ao98 t214 co98 k_ ∧ (NS Ao103 t221 co103 k_ ∧ (NS Ao107 t226 co107 k_ ∧ (some k_ ≠ (v240 : Value).ownBlock ∧ some k_ ≠ (v244 : Value).ownBlock)))))))))) (n := t247.length) (c := co129) ?_).2.2; exact (r2z HO249 BK251 (by decide))); (case side2 => exact (Kd.R_reads' HO249.out).2.1); (case side3 => refine (Kd.R_reads' (e := 3) (base := w.heap.size) (ok := fun k_ => (some k_ ≠ (v191 : Value).ownBlock ∧ (some k_ ≠ (v195 : Value).ownBlock ∧ (NS Ao78 t204 co78 k_ ∧ (NS Ao88 t209 co88 k_ ∧ (NS Ao98 t214 co98 k_ ∧ (NS Ao103 t221 co103 k_ ∧ (NS Ao107 t226 co107 k_ ∧ (some k_ ≠ (v240 : Value).ownBlock ∧ (some k_ ≠ (v244 : Value).ownBlock ∧ NS Ao129 t247 co129 k_)))))))))) (n := t198.length) (c := co68) ?_).2.2; exact (r2z HO200 BK251 (by decide))); (case side4 => exact (Kd.R_reads' HO200.out).2.1); rintro e w139 ⟨rfl, hb⟩; refine ⟨_, rfl, ?_⟩; have n0_ := am (Kd.R_below (r2z HO192 BK251 (by decide)) hb); have n1_ := am (Kd.R_below (r2z HO196 BK251 (by decide)) hb); have n2_ := am (Kd.R_below (r2z HO200 BK251 (by decide)) hb); have n3_ := am (Kd.R_below (r2z HO206 BK251 (by decide)) hb); have n4_ := am (Kd.R_below (r2z HO211 BK251 (by decide)) hb); have n5_ := am (Kd.R_below (r2z HO216 BK251 (by decide)) hb); have n6_ := am (Kd.R_below (r2z HO223 BK251 (by decide)) hb); have n7_ := am (Kd.R_below (r2z HO228 BK251 (by decide)) hb); have n8_ := am (Kd.R_below (r2z HO241 BK251 (by decide)) hb); have n9_ := am (Kd.R_below (r2z HO245 BK251 (by decide)) hb); have n10_ := am (Kd.R_below (r2z HO249 BK251 (by decide)) hb); have n11_ := am (blk_below (kf BK185.out) hb); have n12_ := am (blk_below (kf BK186.out) hb); have n13_ := am (blk_below (kf BK202.out) hb); have n14_ := am (blk_below (kf BK207.out) hb); have n15_ := am (blk_below (kf BK212.out) hb); have n16_ := am (blk_below (kf BK218.out) hb); have n17_ := am (blk_below (g := gb251) (o := .cells #[.int .i64 t246, .slice Ao129 t247.length co129] 27 (0, 0)) (by (with_reducible repeat (first | refine kn ?_ _ | refine kd ?_ | refine ka ?_ _)); refine blk_put (cs := #[.int .i64 t246, .slice none 0 0]) ?_ 1 _ rfl; (with_reducible repeat (first | refine kn ?_ _ | refine kd ?_ | refine ka ?_ _)); refine blk_put (cs := #[.int .i64 0, .slice none 0 0]) ?_ 0 _ rfl; (with_reducible repeat (first | refine kn ?_ _ | refine kd ?_ | refine ka ?_ _)); exact BK251.out) hb); have n18_ := am (below_step (bw HB.out) hb); clear HO192 HO196 HO200 HO206 HO211 HO216 HO223 HO228 HO241 HO245 HO249 BK185 BK186 BK202 BK207 BK212 BK218 BK251 HB; revert n0_ n1_ n2_ n3_ n4_ n5_ n6_ n7_ n8_ n9_ n10_ n11_ n12_ n13_ n14_ n15_ n16_ n17_ n18_; intro HO192 HO196 HO200 HO206 HO211 HO216 HO223 HO228 HO241 HO245 HO249 BK185 BK186 BK202 BK207 BK212 BK218 BK251 HB; (try clear hb); (try clear hb2); (try clear hk); (try clear hi); have hcz140_0 := cz20 BK218.out; have hcz140_1 := cz21 BK218.out; have hfz140_0 := blk_frozen BK218.out 0; have hfz140_1 := blk_frozen BK218.out 1) | ((with_reducible refine gate_callee (f := 22) rfl ?_); refine goesL_ (some 113) rfl rfl Try.func22 (by kernel_rfl) rfl #[.agg #[.int .i64 t213, .slice Ao98 t236.length co98], .int .i64 1] rfl (by (try simp only [List.map_toArray, List.map_cons, List.map_nil]); first | done | (rw [show t236.length = t214.length from (Kd.R_reads' HO216.out).1.symm] <;> rfl) | rfl | (simp only [List.length_drop, List.length_take]; rfl)) ?_; (with_reducible refine (laws_heldMatrix.calls k t213 _ _ t236 1 t253 _ ?side1 ?side2 A49.out).mono ?_); (case side1 => repeat (first | exact (Kd.R_reads' HO216.out).2.2 | (with_reducible refine Kd.C_alloc ?_ _) | (with_reducible refine Kd.C_drewN ?_ _) | (with_reducible refine Kd.C_drew ?_))); (case side2 => rw [show t236.length = t214.length from (Kd.R_reads' HO216.out).1.symm]; exact (Kd.R_reads' HO216.out).2.1); rintro e w141 ⟨rfl, hb⟩; refine ⟨_, rfl, ?_⟩; have n0_ := am (Kd.R_below (rz HO192.out) hb); have n1_ := am (Kd.R_below (rz HO196.out) hb); have n2_ := am (Kd.R_below (rz HO200.out) hb); have n3_ := am (Kd.R_below (rz HO206.out) hb); have n4_ := am (Kd.R_below (rz HO211.out) hb); have n5_ := am (Kd.R_below (rz HO216.out) hb); have n6_ := am (Kd.R_below (rz HO223.out) hb); have n7_ := am (Kd.R_below (rz HO228.out) hb); have n8_ := am (Kd.R_below (rz HO241.out) hb); have n9_ := am (Kd.R_below (rz HO245.out) hb); have n10_ := am (Kd.R_below (rz HO249.out) hb); have n11_ := bk BK185 hb; have n12_ := bk BK186 hb; have n13_ := bk BK202 hb; have n14_ := bk BK207 hb; have n15_ := bk BK212 hb; have n16_ := bk BK218 hb; have n17_ := bk BK251 hb; have n18_ := am (below_step (bw HB.out) hb); clear HO192 HO196 HO200 HO206 HO211 HO216 HO223 HO228 HO241 HO245 HO249 BK185 BK186 BK202 BK207 BK212 BK218 BK251 HB; revert n0_ n1_ n2_ n3_ n4_ n5_ n6_ n7_ n8_ n9_ n10_ n11_ n12_ n13_ n14_ n15_ n16_ n17_ n18_; intro HO192 HO196 HO200 HO206 HO211 HO216 HO223 HO228 HO241 HO245 HO249 BK185 BK186 BK202 BK207 BK212 BK218 BK251 HB; (try clear hb); (try clear hb2); (try clear hk); (try clear hi)))
               go_ret
               exact ⟨by first | rfl | (simp [errW_none, errW_some] <;> rfl) | (simp [*, errW_none, errW_some] <;> rfl), by exact bw HB.out⟩
              ·rw [if_neg c51] at H
               exact absurd H (by simp)
           ·replace c47 := Bool.eq_false_iff.mpr c47
            subst c47
            have H1 : (none) = some r := by rw [if_neg (show ¬ (false = true) by decide)] at H; exact H
            clear H
            have H := H1
            clear H1
            exact absurd H (by simp)
          ·rw [if_neg c42] at H
           exact absurd H (by simp)
        ·replace c38 := Bool.eq_false_iff.mpr c38
         subst c38
         have H1 : (none) = some r := by rw [if_neg (show ¬ (false = true) by decide)] at H; exact H
         clear H
         have H := H1
         clear H1
         exact absurd H (by simp)
      ·replace c33 := Bool.eq_false_iff.mpr c33
       subst c33
       have H1 : (none) = some r := by rw [if_neg (show ¬ (false = true) by decide)] at H; exact H
       clear H
       have H := H1
       clear H1
       exact absurd H (by simp)
     ·replace c30 := Bool.eq_false_iff.mpr c30
      subst c30
      have H1 : (none) = some r := by rw [if_neg (show ¬ (false = true) by decide)] at H; exact H
      clear H
      have H := H1
      clear H1
      exact absurd H (by simp)
   ·replace c26 := Bool.eq_false_iff.mpr c26
    subst c26
    have H1 : (none) = some r := by rw [if_neg (show ¬ (false = true) by decide)] at H; exact H
    clear H
    have H := H1
    clear H1
    exact absurd H (by simp)

/-- THE ONE PURE STATEMENT of laws_FnExactMinMatrix. -/
def laws_FnExactMinMatrix.Pure : Prop := ∀ (a0_0 : Int) (l0_1 : List Int) (a1_0 : Int) (l1_1 : List Int), (Lit.int .i64 a0_0).wf = true → l0_1.length ≤ maxLen → (∀ x ∈ l0_1, (Lit.int .i64 x).wf = true) → (Lit.int .i64 a1_0).wf = true → l1_1.length ≤ maxLen → (∀ x ∈ l1_1, (Lit.int .i64 x).wf = true) → ∃ k, laws_FnExactMinMatrix.f k a0_0 l0_1 a1_0 l1_1 = some true
theorem laws_FnExactMinMatrix.walk (P : laws_FnExactMinMatrix.Pure) (a0_0 : Int) (a0_1 : Option Addr) (len0_1 cap0_1 : Nat) (z0_1 : List Int) (a1_0 : Int) (a1_1 : Option Addr) (len1_1 cap1_1 : Nat) (z1_1 : List Int) (w : World) (w0_0 : (Lit.int .i64 a0_0).wf = true) (w0_1 : (a0_1 = none ∧ len0_1 = 0 ∧ cap0_1 = 0 ∧ z0_1 = []) ∨ ∃ x, a0_1 = some x ∧ len0_1 ≤ cap0_1 ∧ cap0_1 ≤ maxLen ∧ z0_1.length = cap0_1 ∧ (∀ i, i < z0_1.length → w.cell? (x.add i) = some (.int .i64 (z0_1.getD i 0))) ∧ ∀ n ∈ z0_1, (Lit.int .i64 n).wf = true) (w1_0 : (Lit.int .i64 a1_0).wf = true) (w1_1 : (a1_1 = none ∧ len1_1 = 0 ∧ cap1_1 = 0 ∧ z1_1 = []) ∨ ∃ x, a1_1 = some x ∧ len1_1 ≤ cap1_1 ∧ cap1_1 ≤ maxLen ∧ z1_1.length = cap1_1 ∧ (∀ i, i < z1_1.length → w.cell? (x.add i) = some (.int .i64 (z1_1.getD i 0))) ∧ ∀ n ∈ z1_1, (Lit.int .i64 n).wf = true) :
  Calls Try.prog 6 #[.agg #[.int .i64 a0_0, .slice a0_1 len0_1 cap0_1], .agg #[.int .i64 a1_0, .slice a1_1 len1_1 cap1_1]] w fun e w' => e = .returned (.bool true) ∧ Below w.heap.size w w' := by
 obtain ⟨l0_1, rfl, hr0_1, hm0_1, hw0_1, hc0_1⟩ := ReadsInt.ofRowC w0_1
 obtain ⟨l1_1, rfl, hr1_1, hm1_1, hw1_1, hc1_1⟩ := ReadsInt.ofRowC w1_1
 obtain ⟨k, h⟩ := P a0_0 l0_1 a1_0 l1_1 w0_0 hm0_1 hw0_1 w1_0 hm1_1 hw1_1
 refine (laws_FnExactMinMatrix.calls k a0_0 _ _ l0_1 a1_0 _ _ l1_1 true w (Kd.C_of_reads (d := (0 : Int)) (h1 := fun _ => rfl) hr0_1) hc0_1 (Kd.C_of_reads (d := (0 : Int)) (h1 := fun _ => rfl) hr1_1) hc1_1 h).mono ?_
 rintro e w' ⟨rfl, hd⟩
 exact ⟨rfl, hd⟩

end Go.Proofs.Ythojienhgeiknaa.PFnExactMinMatrix
