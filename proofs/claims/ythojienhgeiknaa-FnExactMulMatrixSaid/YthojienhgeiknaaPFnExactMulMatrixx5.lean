-- Written by a program (wip/myprint.py): the machine side of one law: each function that it reaches, as a plain function, and the proof that a call comes to just that.
import Derived.Test.YthojienhgeiknaaPFnExactMulMatrixx0
import Derived.Test.YthojienhgeiknaaPFnExactMulMatrixx1
import Derived.Test.YthojienhgeiknaaPFnExactMulMatrixx2
import Derived.Test.YthojienhgeiknaaPFnExactMulMatrixx4
namespace Go.Proofs.Ythojienhgeiknaa.PFnExactMulMatrix
open Go.RowKit Go.Proofs.YthojienhgeiknaaW.PrintWords Go.Proofs.YthojienhgeiknaaW.PrintLast Go.Proofs.YthojienhgeiknaaW.PrintMore
attribute [local go_sem] max2_int min2_int max_two min_two max_three min_three max_four min_four   -- for this text's walks alone
set_option linter.unusedVariables false
set_option linter.unusedSimpArgs false

/-! ### laws_FnExactMulMatrix: function 7 -/
def laws_FnExactMulMatrix.f (k : Nat) (a0_0 : Int) (l0_1 : List Int) (a1_0 : Int) (l1_1 : List Int) : Option (Bool) := (laws_szMatrix.f a0_0 l0_1 1048576).bind fun t191 => (if t191 < 0 then (some true) else ((laws_szMatrix.f a1_0 l1_1 t191).bind fun t192 => (if t192 < 0 then (some true) else ((laws_toMatrix.f k a0_0 l0_1).bind fun bt193 => ((laws_toMatrix.f k a1_0 l1_1).bind fun bt197 => ((spec_MulMatrix.f k bt193.1 bt193.2 bt197.1 bt197.2).bind fun bt201 => ((laws_toMatrix.f k a0_0 l0_1).bind fun bt207 => ((laws_toMatrix.f k a1_0 l1_1).bind fun bt212 => ((impl_MulMatrix.f k bt207.1 bt207.2 bt212.1 bt212.2).bind fun bt217 => ((laws_eqMatrix.f k bt217.1 bt217.2.1 bt201.1 bt201.2.1).bind fun t223 => (if t223 = true then (if (bt217.2.2 != bt201.2.2) = true then (none) else ((laws_toMatrix.f k a0_0 l0_1).bind fun bt224 => ((laws_eqMatrix.f k bt207.1 bt207.2 bt224.1 bt224.2).bind fun t228 => (if t228 = true then ((laws_toMatrix.f k a1_0 l1_1).bind fun bt229 => ((laws_eqMatrix.f k bt212.1 bt212.2 bt229.1 bt229.2).bind fun t233 => (if t233 = true then ((laws_markMatrix.f k bt207.1 bt207.2 1).bind fun bt234 => ((laws_markMatrix.f k bt212.1 bt212.2 bt234.1).bind fun bt236 => (if bt236.1 < 0 then (none) else ((laws_eqMatrix.f k bt217.1 bt217.2.1 bt201.1 bt201.2.1).bind fun t238 => (if t238 = true then ((laws_markMatrix.f k bt217.1 bt217.2.1 1).bind fun bt239 => ((laws_heldMatrix.f k bt217.1 bt239.2 1).bind fun t241 => (if t241 < 0 then (none) else (if t241 = bt239.1 then ((laws_toMatrix.f k a0_0 l0_1).bind fun bt242 => ((laws_toMatrix.f k a1_0 l1_1).bind fun bt246 => ((impl_MulMatrix.f k bt242.1 bt242.2 bt246.1 bt246.2).bind fun bt250 => ((laws_eqMatrix.f k bt250.1 bt250.2.1 bt201.1 bt201.2.1).bind fun t256 => (if t256 = true then (if (bt250.2.2 != bt201.2.2) = true then (none) else ((laws_heldMatrix.f k bt217.1 bt239.2 1).bind fun t257 => (if t257 < 0 then (none) else (if t257 = bt239.1 then (some true) else (none))))) else (none)))))) else (none))))) else (none)))))) else (none)))) else (none))))) else (none))))))))))))
theorem laws_FnExactMulMatrix.mono : ∀ a0 a1 a2 a3 k, LeO (laws_FnExactMulMatrix.f k a0 a1 a2 a3) (laws_FnExactMulMatrix.f (k + 1) a0 a1 a2 a3) := by
 intro a0 a1 a2 a3 k
 unfold laws_FnExactMulMatrix.f
 repeat' first
   | (with_reducible exact impl_MulMatrix.mono _ _ _ _ _)
   | (with_reducible exact laws_eqMatrix.mono _ _ _ _ _)
   | (with_reducible exact laws_heldMatrix.mono _ _ _ _)
   | (with_reducible exact laws_markMatrix.mono _ _ _ _)
   | (with_reducible exact laws_toMatrix.mono _ _ _)
   | (with_reducible exact spec_MulMatrix.mono _ _ _ _ _)
   | (with_reducible exact LeO.refl _)
   | (with_reducible exact LeO.none _)
   | (with_reducible refine LeO.ite ?_ ?_)
   | (with_reducible refine LeO.bind ?_ (fun _ => ?_))
   | exact impl_MulMatrix.mono _ _ _ _ _
   | exact laws_eqMatrix.mono _ _ _ _ _
   | exact laws_heldMatrix.mono _ _ _ _
   | exact laws_markMatrix.mono _ _ _ _
   | exact laws_toMatrix.mono _ _ _
   | exact spec_MulMatrix.mono _ _ _ _ _
   | exact LeO.none _
   | refine LeO.ite ?_ ?_
   | refine LeO.bind ?_ (fun _ => ?_)
def laws_FnExactMulMatrix.T8 : Bool × List (List Nat × List Nat) := (true, [([], []), ([0], [0]), ([], []), ([2, 1], [2]), ([1, 3, 3], [1, 3]), ([4], [4]), ([5], [5]), ([5], [5]), ([], []), ([8, 6, 4, 0, 1, 2, 3, 4, 5, 6, 8], [6, 8]), ([7, 9, 0, 1, 2, 3, 4, 5, 6, 7, 8, 9], [7])])
def laws_FnExactMulMatrix.B8 : List Nat := [0, 1, 0, 7, 15, 31, 63, 63, 0, 383, 1023]
theorem laws_FnExactMulMatrix.tab8 : rtab .any (opsOf Try.f7 8) = laws_FnExactMulMatrix.T8 := by kernel_rfl
theorem laws_FnExactMulMatrix.bits8 : waitsOk laws_FnExactMulMatrix.T8.2 laws_FnExactMulMatrix.B8 = true := by kernel_rfl
def laws_FnExactMulMatrix.T31 : Bool × List (List Nat × List Nat) := (true, [([], []), ([0], [0]), ([], []), ([2, 1], [2]), ([1, 3, 3], [1, 3]), ([4], [4]), ([5], [5]), ([5], [5]), ([], []), ([8, 6, 4, 0, 1, 2, 3, 4, 5, 6, 8], [6, 8]), ([7, 9, 0, 1, 2, 3, 4, 5, 6, 7, 8, 9], [7])])
def laws_FnExactMulMatrix.B31 : List Nat := [0, 1, 0, 7, 15, 31, 63, 63, 0, 383, 1023]
theorem laws_FnExactMulMatrix.tab31 : rtab .any (opsOf Try.f7 31) = laws_FnExactMulMatrix.T31 := by kernel_rfl
theorem laws_FnExactMulMatrix.bits31 : waitsOk laws_FnExactMulMatrix.T31.2 laws_FnExactMulMatrix.B31 = true := by kernel_rfl
set_option maxHeartbeats 8000000 in
set_option maxRecDepth 100000 in
theorem laws_FnExactMulMatrix.calls (k : Nat) (a0_0 : Int) (A0_1 : Option Addr) (c0_1 : Nat) (l0_1 : List Int) (a1_0 : Int) (A1_1 : Option Addr) (c1_1 : Nat) (l1_1 : List Int) (r : Bool) (w : World) (hr0_1 : Kd.C (Kd.int .i64) w A0_1 l0_1.length l0_1) (hc0_1 : l0_1.length ≤ c0_1) (hr1_1 : Kd.C (Kd.int .i64) w A1_1 l1_1.length l1_1) (hc1_1 : l1_1.length ≤ c1_1) (h : laws_FnExactMulMatrix.f k a0_0 l0_1 a1_0 l1_1 = some r) :
  Calls Try.prog 7 #[.agg #[.int .i64 a0_0, .slice A0_1 l0_1.length c0_1], .agg #[.int .i64 a1_0, .slice A1_1 l1_1.length c1_1]] w fun e w' => e = .returned (.bool r) ∧ Below w.heap.size w w' := by
 have hu24 := Try.underlying24
 have hu27 := Try.underlying27
 have HR0_1 := am hr0_1
 have HC0_1 := am hc0_1
 clear hr0_1 hc0_1
 have HR1_1 := am hr1_1
 have HC1_1 := am hc1_1
 clear hr1_1 hc1_1
 have HB := am (Below.refl w.heap.size w)
 have H : ((laws_szMatrix.f a0_0 l0_1 1048576).bind fun t191 => (if t191 < 0 then (some true) else ((laws_szMatrix.f a1_0 l1_1 t191).bind fun t192 => (if t192 < 0 then (some true) else ((laws_toMatrix.f k a0_0 l0_1).bind fun bt193 => ((laws_toMatrix.f k a1_0 l1_1).bind fun bt197 => ((spec_MulMatrix.f k bt193.1 bt193.2 bt197.1 bt197.2).bind fun bt201 => ((laws_toMatrix.f k a0_0 l0_1).bind fun bt207 => ((laws_toMatrix.f k a1_0 l1_1).bind fun bt212 => ((impl_MulMatrix.f k bt207.1 bt207.2 bt212.1 bt212.2).bind fun bt217 => ((laws_eqMatrix.f k bt217.1 bt217.2.1 bt201.1 bt201.2.1).bind fun t223 => (if t223 = true then (if (bt217.2.2 != bt201.2.2) = true then (none) else ((laws_toMatrix.f k a0_0 l0_1).bind fun bt224 => ((laws_eqMatrix.f k bt207.1 bt207.2 bt224.1 bt224.2).bind fun t228 => (if t228 = true then ((laws_toMatrix.f k a1_0 l1_1).bind fun bt229 => ((laws_eqMatrix.f k bt212.1 bt212.2 bt229.1 bt229.2).bind fun t233 => (if t233 = true then ((laws_markMatrix.f k bt207.1 bt207.2 1).bind fun bt234 => ((laws_markMatrix.f k bt212.1 bt212.2 bt234.1).bind fun bt236 => (if bt236.1 < 0 then (none) else ((laws_eqMatrix.f k bt217.1 bt217.2.1 bt201.1 bt201.2.1).bind fun t238 => (if t238 = true then ((laws_markMatrix.f k bt217.1 bt217.2.1 1).bind fun bt239 => ((laws_heldMatrix.f k bt217.1 bt239.2 1).bind fun t241 => (if t241 < 0 then (none) else (if t241 = bt239.1 then ((laws_toMatrix.f k a0_0 l0_1).bind fun bt242 => ((laws_toMatrix.f k a1_0 l1_1).bind fun bt246 => ((impl_MulMatrix.f k bt242.1 bt242.2 bt246.1 bt246.2).bind fun bt250 => ((laws_eqMatrix.f k bt250.1 bt250.2.1 bt201.1 bt201.2.1).bind fun t256 => (if t256 = true then (if (bt250.2.2 != bt201.2.2) = true then (none) else ((laws_heldMatrix.f k bt217.1 bt239.2 1).bind fun t257 => (if t257 < 0 then (none) else (if t257 = bt239.1 then (some true) else (none))))) else (none)))))) else (none))))) else (none)))))) else (none)))) else (none))))) else (none))))))))))))) = some r := h
 clear h
 replace H := Option.bind_eq_some_iff.mp H
 obtain ⟨t191, A30, H⟩ := H
 (try dsimp only at H)
 have A3 := am A30
 clear A30
 by_cases c4 : t191 < 0
 ·rw [if_pos c4] at H
  have c4b0 : decide (t191 < 0) = true := decide_eq_true c4
  clear c4
  obtain rfl := Option.some.inj H
  go_enter Try.func7, Try.ntmps7
  go_wp2_with (first | ((with_reducible refine gate_dst (N := 2) rfl ?_); refine box_event ?hg (N := 2) ?hd (cs := #[.int .i64 a0_0, .slice A0_1 l0_1.length c0_1]) (t := 24) ?hr ?_; (case hd => rfl); (case hg => rfl); (case hr => first | (go_simp; done) | (go_simp; rfl)); intro gb189 hg w5 hbox hb; have n0_ := am (below_step (bz HB.out) hb); have n1_ := am (hbox); have n2_ := am ((by rw [hg]; exact (below_size (bz HB.out)) : w.heap.size ≤ gb189)); have n3_ := am ((by rw [hg]; exact (below_size (bz HB.out)) : w.heap.size ≤ gb189)); clear HB; revert n0_ n1_ n2_ n3_; intro HB BK189 GW189 GE189; clear hb hbox hg) | ((with_reducible refine gate_dst (N := 3) rfl ?_); refine box_event ?hg (N := 3) ?hd (cs := #[.int .i64 a1_0, .slice A1_1 l1_1.length c1_1]) (t := 24) ?hr ?_; (case hd => rfl); (case hg => rfl); (case hr => first | (go_simp; done) | (go_simp; rfl)); intro gb190 hg w6 hbox hb; have n0_ := bk BK189 hb; have n1_ := am (below_step (bw HB.out) hb); have n2_ := am (hbox); have n3_ := am ((by rw [hg]; exact (below_size (bw HB.out)) : w.heap.size ≤ gb190)); have n4_ := am ((by rw [hg]; exact (below_size (bw HB.out)) : w.heap.size ≤ gb190)); have n5_ := am ((by rw [hg]; exact Nat.ne_of_lt (blk_lt (kz BK189.out)) : gb189 ≠ gb190)); have n6_ := am ((by rw [hg]; exact Nat.ne_of_gt (blk_lt (kz BK189.out)) : gb190 ≠ gb189)); clear BK189 HB; revert n0_ n1_ n2_ n3_ n4_ n5_ n6_; intro BK189 HB BK190 GW190 GE190 NB189_190 NB190_189; clear hb hbox hg; have hnb7 := NB189_190.out; have hnc7 := NB190_189.out; have hcz8_0 := cz20 BK189.out; have hcz8_1 := cz21 BK189.out; have hfz8_0 := blk_frozen BK189.out 0; have hfz8_1 := blk_frozen BK189.out 1) | ((with_reducible refine gate_callee (f := 14) rfl ?_); refine goesL_ (some 19) rfl rfl Try.func14 (by kernel_rfl) rfl #[.agg #[.int .i64 a0_0, .slice A0_1 l0_1.length c0_1], .int .i64 1048576] rfl (by (try simp only [List.map_toArray, List.map_cons, List.map_nil]); first | done | rfl | (simp only [List.length_drop, List.length_take]; rfl)) ?_; (with_reducible refine (laws_szMatrix.calls a0_0 _ _ l0_1 1048576 t191 _ ?side1 ?side2 A3.out).mono ?_); (case side1 => repeat (first | exact (Kd.C_below HR0_1.out HB.out) | (with_reducible refine Kd.C_alloc ?_ _) | (with_reducible refine Kd.C_drewN ?_ _) | (with_reducible refine Kd.C_drew ?_))); (case side2 => exact HC0_1.out); rintro e w9 ⟨rfl, hb⟩; refine ⟨_, rfl, ?_⟩; have n0_ := bk BK189 hb; have n1_ := bk BK190 hb; have n2_ := am (below_step (bw HB.out) hb); clear BK189 BK190 HB; revert n0_ n1_ n2_; intro BK189 BK190 HB; (try clear hb); (try clear hb2); (try clear hk); (try clear hi)))
  go_ret
  exact ⟨by first | rfl | (simp [errW_none, errW_some] <;> rfl) | (simp [*, errW_none, errW_some] <;> rfl), by exact bw HB.out⟩
 ·rw [if_neg c4] at H
  have c4b0 : decide (t191 < 0) = false := decide_eq_false c4
  clear c4
  replace H := Option.bind_eq_some_iff.mp H
  obtain ⟨t192, A100, H⟩ := H
  (try dsimp only at H)
  have A10 := am A100
  clear A100
  by_cases c11 : t192 < 0
  ·rw [if_pos c11] at H
   have c11b0 : decide (t192 < 0) = true := decide_eq_true c11
   clear c11
   obtain rfl := Option.some.inj H
   go_enter Try.func7, Try.ntmps7
   go_wp2_with (first | ((with_reducible refine gate_dst (N := 2) rfl ?_); refine box_event ?hg (N := 2) ?hd (cs := #[.int .i64 a0_0, .slice A0_1 l0_1.length c0_1]) (t := 24) ?hr ?_; (case hd => rfl); (case hg => rfl); (case hr => first | (go_simp; done) | (go_simp; rfl)); intro gb189 hg w12 hbox hb; have n0_ := am (below_step (bz HB.out) hb); have n1_ := am (hbox); have n2_ := am ((by rw [hg]; exact (below_size (bz HB.out)) : w.heap.size ≤ gb189)); have n3_ := am ((by rw [hg]; exact (below_size (bz HB.out)) : w.heap.size ≤ gb189)); clear HB; revert n0_ n1_ n2_ n3_; intro HB BK189 GW189 GE189; clear hb hbox hg) | ((with_reducible refine gate_dst (N := 3) rfl ?_); refine box_event ?hg (N := 3) ?hd (cs := #[.int .i64 a1_0, .slice A1_1 l1_1.length c1_1]) (t := 24) ?hr ?_; (case hd => rfl); (case hg => rfl); (case hr => first | (go_simp; done) | (go_simp; rfl)); intro gb190 hg w13 hbox hb; have n0_ := bk BK189 hb; have n1_ := am (below_step (bw HB.out) hb); have n2_ := am (hbox); have n3_ := am ((by rw [hg]; exact (below_size (bw HB.out)) : w.heap.size ≤ gb190)); have n4_ := am ((by rw [hg]; exact (below_size (bw HB.out)) : w.heap.size ≤ gb190)); have n5_ := am ((by rw [hg]; exact Nat.ne_of_lt (blk_lt (kz BK189.out)) : gb189 ≠ gb190)); have n6_ := am ((by rw [hg]; exact Nat.ne_of_gt (blk_lt (kz BK189.out)) : gb190 ≠ gb189)); clear BK189 HB; revert n0_ n1_ n2_ n3_ n4_ n5_ n6_; intro BK189 HB BK190 GW190 GE190 NB189_190 NB190_189; clear hb hbox hg; have hnb14 := NB189_190.out; have hnc14 := NB190_189.out; have hcz15_0 := cz20 BK189.out; have hcz15_1 := cz21 BK189.out; have hfz15_0 := blk_frozen BK189.out 0; have hfz15_1 := blk_frozen BK189.out 1) | ((with_reducible refine gate_callee (f := 14) rfl ?_); refine goesL_ (some 19) rfl rfl Try.func14 (by kernel_rfl) rfl #[.agg #[.int .i64 a0_0, .slice A0_1 l0_1.length c0_1], .int .i64 1048576] rfl (by (try simp only [List.map_toArray, List.map_cons, List.map_nil]); first | done | rfl | (simp only [List.length_drop, List.length_take]; rfl)) ?_; (with_reducible refine (laws_szMatrix.calls a0_0 _ _ l0_1 1048576 t191 _ ?side1 ?side2 A3.out).mono ?_); (case side1 => repeat (first | exact (Kd.C_below HR0_1.out HB.out) | (with_reducible refine Kd.C_alloc ?_ _) | (with_reducible refine Kd.C_drewN ?_ _) | (with_reducible refine Kd.C_drew ?_))); (case side2 => exact HC0_1.out); rintro e w16 ⟨rfl, hb⟩; refine ⟨_, rfl, ?_⟩; have n0_ := bk BK189 hb; have n1_ := bk BK190 hb; have n2_ := am (below_step (bw HB.out) hb); clear BK189 BK190 HB; revert n0_ n1_ n2_; intro BK189 BK190 HB; (try clear hb); (try clear hb2); (try clear hk); (try clear hi); have hcz17_0 := cz20 BK190.out; have hcz17_1 := cz21 BK190.out; have hfz17_0 := blk_frozen BK190.out 0; have hfz17_1 := blk_frozen BK190.out 1) | ((with_reducible refine gate_callee (f := 14) rfl ?_); refine goesL_ (some 24) rfl rfl Try.func14 (by kernel_rfl) rfl #[.agg #[.int .i64 a1_0, .slice A1_1 l1_1.length c1_1], .int .i64 t191] rfl (by (try simp only [List.map_toArray, List.map_cons, List.map_nil]); first | done | rfl | (simp only [List.length_drop, List.length_take]; rfl)) ?_; (with_reducible refine (laws_szMatrix.calls a1_0 _ _ l1_1 t191 t192 _ ?side1 ?side2 A10.out).mono ?_); (case side1 => repeat (first | exact (Kd.C_below HR1_1.out HB.out) | (with_reducible refine Kd.C_alloc ?_ _) | (with_reducible refine Kd.C_drewN ?_ _) | (with_reducible refine Kd.C_drew ?_))); (case side2 => exact HC1_1.out); rintro e w18 ⟨rfl, hb⟩; refine ⟨_, rfl, ?_⟩; have n0_ := bk BK189 hb; have n1_ := bk BK190 hb; have n2_ := am (below_step (bw HB.out) hb); clear BK189 BK190 HB; revert n0_ n1_ n2_; intro BK189 BK190 HB; (try clear hb); (try clear hb2); (try clear hk); (try clear hi)))
   go_ret
   exact ⟨by first | rfl | (simp [errW_none, errW_some] <;> rfl) | (simp [*, errW_none, errW_some] <;> rfl), by exact bw HB.out⟩
  ·rw [if_neg c11] at H
   have c11b0 : decide (t192 < 0) = false := decide_eq_false c11
   clear c11
   replace H := Option.bind_eq_some_iff.mp H
   obtain ⟨⟨t193, t194⟩, A190, H⟩ := H
   (try dsimp only at H)
   have A19 := am A190
   clear A190
   replace H := Option.bind_eq_some_iff.mp H
   obtain ⟨⟨t197, t198⟩, A200, H⟩ := H
   (try dsimp only at H)
   have A20 := am A200
   clear A200
   replace H := Option.bind_eq_some_iff.mp H
   obtain ⟨⟨t201, t202, t205⟩, A210, H⟩ := H
   (try dsimp only at H)
   have A21 := am A210
   clear A210
   replace H := Option.bind_eq_some_iff.mp H
   obtain ⟨⟨t207, t208⟩, A220, H⟩ := H
   (try dsimp only at H)
   have A22 := am A220
   clear A220
   replace H := Option.bind_eq_some_iff.mp H
   obtain ⟨⟨t212, t213⟩, A230, H⟩ := H
   (try dsimp only at H)
   have A23 := am A230
   clear A230
   replace H := Option.bind_eq_some_iff.mp H
   obtain ⟨⟨t217, t218, t221⟩, A240, H⟩ := H
   (try dsimp only at H)
   have A24 := am A240
   clear A240
   replace H := Option.bind_eq_some_iff.mp H
   obtain ⟨t223, A250, H⟩ := H
   (try dsimp only at H)
   have A25 := am A250
   clear A250
   by_cases c26 : t223 = true
   ·subst c26
    have H1 : (if (t221 != t205) = true then (none) else ((laws_toMatrix.f k a0_0 l0_1).bind fun bt224 => ((laws_eqMatrix.f k t207 t208 bt224.1 bt224.2).bind fun t228 => (if t228 = true then ((laws_toMatrix.f k a1_0 l1_1).bind fun bt229 => ((laws_eqMatrix.f k t212 t213 bt229.1 bt229.2).bind fun t233 => (if t233 = true then ((laws_markMatrix.f k t207 t208 1).bind fun bt234 => ((laws_markMatrix.f k t212 t213 bt234.1).bind fun bt236 => (if bt236.1 < 0 then (none) else ((laws_eqMatrix.f k t217 t218 t201 t202).bind fun t238 => (if t238 = true then ((laws_markMatrix.f k t217 t218 1).bind fun bt239 => ((laws_heldMatrix.f k t217 bt239.2 1).bind fun t241 => (if t241 < 0 then (none) else (if t241 = bt239.1 then ((laws_toMatrix.f k a0_0 l0_1).bind fun bt242 => ((laws_toMatrix.f k a1_0 l1_1).bind fun bt246 => ((impl_MulMatrix.f k bt242.1 bt242.2 bt246.1 bt246.2).bind fun bt250 => ((laws_eqMatrix.f k bt250.1 bt250.2.1 t201 t202).bind fun t256 => (if t256 = true then (if (bt250.2.2 != t205) = true then (none) else ((laws_heldMatrix.f k t217 bt239.2 1).bind fun t257 => (if t257 < 0 then (none) else (if t257 = bt239.1 then (some true) else (none))))) else (none)))))) else (none))))) else (none)))))) else (none)))) else (none))))) = some r := by rw [if_pos rfl] at H; exact H
    clear H
    have H := H1
    clear H1
    by_cases c27 : (t221 != t205) = true
    ·rw [if_pos c27] at H
     exact absurd H (by simp)
    ·rw [if_neg c27] at H
     have c27b0 : (t221 != t205) = false := by simpa using c27
     (try (have c27b1 : decide (t221 = t205) = true := by simpa using c27))
     (try (have c27b2 : (t221 == t205) = true := by simpa using c27))
     clear c27
     replace H := Option.bind_eq_some_iff.mp H
     obtain ⟨⟨t224, t225⟩, A280, H⟩ := H
     (try dsimp only at H)
     have A28 := am A280
     clear A280
     replace H := Option.bind_eq_some_iff.mp H
     obtain ⟨t228, A290, H⟩ := H
     (try dsimp only at H)
     have A29 := am A290
     clear A290
     by_cases c30 : t228 = true
     ·subst c30
      have H1 : ((laws_toMatrix.f k a1_0 l1_1).bind fun bt229 => ((laws_eqMatrix.f k t212 t213 bt229.1 bt229.2).bind fun t233 => (if t233 = true then ((laws_markMatrix.f k t207 t208 1).bind fun bt234 => ((laws_markMatrix.f k t212 t213 bt234.1).bind fun bt236 => (if bt236.1 < 0 then (none) else ((laws_eqMatrix.f k t217 t218 t201 t202).bind fun t238 => (if t238 = true then ((laws_markMatrix.f k t217 t218 1).bind fun bt239 => ((laws_heldMatrix.f k t217 bt239.2 1).bind fun t241 => (if t241 < 0 then (none) else (if t241 = bt239.1 then ((laws_toMatrix.f k a0_0 l0_1).bind fun bt242 => ((laws_toMatrix.f k a1_0 l1_1).bind fun bt246 => ((impl_MulMatrix.f k bt242.1 bt242.2 bt246.1 bt246.2).bind fun bt250 => ((laws_eqMatrix.f k bt250.1 bt250.2.1 t201 t202).bind fun t256 => (if t256 = true then (if (bt250.2.2 != t205) = true then (none) else ((laws_heldMatrix.f k t217 bt239.2 1).bind fun t257 => (if t257 < 0 then (none) else (if t257 = bt239.1 then (some true) else (none))))) else (none)))))) else (none))))) else (none)))))) else (none)))) = some r := by rw [if_pos rfl] at H; exact H
      clear H
      have H := H1
      clear H1
      replace H := Option.bind_eq_some_iff.mp H
      obtain ⟨⟨t229, t230⟩, A310, H⟩ := H
      (try dsimp only at H)
      have A31 := am A310
      clear A310
      replace H := Option.bind_eq_some_iff.mp H
      obtain ⟨t233, A320, H⟩ := H
      (try dsimp only at H)
      have A32 := am A320
      clear A320
      by_cases c33 : t233 = true
      ·subst c33
       have H1 : ((laws_markMatrix.f k t207 t208 1).bind fun bt234 => ((laws_markMatrix.f k t212 t213 bt234.1).bind fun bt236 => (if bt236.1 < 0 then (none) else ((laws_eqMatrix.f k t217 t218 t201 t202).bind fun t238 => (if t238 = true then ((laws_markMatrix.f k t217 t218 1).bind fun bt239 => ((laws_heldMatrix.f k t217 bt239.2 1).bind fun t241 => (if t241 < 0 then (none) else (if t241 = bt239.1 then ((laws_toMatrix.f k a0_0 l0_1).bind fun bt242 => ((laws_toMatrix.f k a1_0 l1_1).bind fun bt246 => ((impl_MulMatrix.f k bt242.1 bt242.2 bt246.1 bt246.2).bind fun bt250 => ((laws_eqMatrix.f k bt250.1 bt250.2.1 t201 t202).bind fun t256 => (if t256 = true then (if (bt250.2.2 != t205) = true then (none) else ((laws_heldMatrix.f k t217 bt239.2 1).bind fun t257 => (if t257 < 0 then (none) else (if t257 = bt239.1 then (some true) else (none))))) else (none)))))) else (none))))) else (none)))))) = some r := by rw [if_pos rfl] at H; exact H
       clear H
       have H := H1
       clear H1
       replace H := Option.bind_eq_some_iff.mp H
       obtain ⟨⟨t234, t235⟩, A340, H⟩ := H
       (try dsimp only at H)
       have A34 := am A340
       clear A340
       replace H := Option.bind_eq_some_iff.mp H
       obtain ⟨⟨t236, t237⟩, A350, H⟩ := H
       (try dsimp only at H)
       have A35 := am A350
       clear A350
       by_cases c36 : t236 < 0
       ·rw [if_pos c36] at H
        exact absurd H (by simp)
       ·rw [if_neg c36] at H
        have c36b0 : decide (t236 < 0) = false := decide_eq_false c36
        clear c36
        replace H := Option.bind_eq_some_iff.mp H
        obtain ⟨t238, A370, H⟩ := H
        (try dsimp only at H)
        have A37 := am A370
        clear A370
        by_cases c38 : t238 = true
        ·subst c38
         have H1 : ((laws_markMatrix.f k t217 t218 1).bind fun bt239 => ((laws_heldMatrix.f k t217 bt239.2 1).bind fun t241 => (if t241 < 0 then (none) else (if t241 = bt239.1 then ((laws_toMatrix.f k a0_0 l0_1).bind fun bt242 => ((laws_toMatrix.f k a1_0 l1_1).bind fun bt246 => ((impl_MulMatrix.f k bt242.1 bt242.2 bt246.1 bt246.2).bind fun bt250 => ((laws_eqMatrix.f k bt250.1 bt250.2.1 t201 t202).bind fun t256 => (if t256 = true then (if (bt250.2.2 != t205) = true then (none) else ((laws_heldMatrix.f k t217 bt239.2 1).bind fun t257 => (if t257 < 0 then (none) else (if t257 = bt239.1 then (some true) else (none))))) else (none)))))) else (none))))) = some r := by rw [if_pos rfl] at H; exact H
         clear H
         have H := H1
         clear H1
         replace H := Option.bind_eq_some_iff.mp H
         obtain ⟨⟨t239, t240⟩, A390, H⟩ := H
         (try dsimp only at H)
         have A39 := am A390
         clear A390
         replace H := Option.bind_eq_some_iff.mp H
         obtain ⟨t241, A400, H⟩ := H
         (try dsimp only at H)
         have A40 := am A400
         clear A400
         by_cases c41 : t241 < 0
         ·rw [if_pos c41] at H
          exact absurd H (by simp)
         ·rw [if_neg c41] at H
          have c41b0 : decide (t241 < 0) = false := decide_eq_false c41
          clear c41
          by_cases c42 : t241 = t239
          ·rw [if_pos c42] at H
           have c42b0 : (t241 == t239) = true := beq_iff_eq.mpr c42
           have c42b1 : (t241 != t239) = false := bne_eq_false_iff_eq.mpr c42
           clear c42
           replace H := Option.bind_eq_some_iff.mp H
           obtain ⟨⟨t242, t243⟩, A430, H⟩ := H
           (try dsimp only at H)
           have A43 := am A430
           clear A430
           replace H := Option.bind_eq_some_iff.mp H
           obtain ⟨⟨t246, t247⟩, A440, H⟩ := H
           (try dsimp only at H)
           have A44 := am A440
           clear A440
           replace H := Option.bind_eq_some_iff.mp H
           obtain ⟨⟨t250, t251, t254⟩, A450, H⟩ := H
           (try dsimp only at H)
           have A45 := am A450
           clear A450
           replace H := Option.bind_eq_some_iff.mp H
           obtain ⟨t256, A460, H⟩ := H
           (try dsimp only at H)
           have A46 := am A460
           clear A460
           by_cases c47 : t256 = true
           ·subst c47
            have H1 : (if (t254 != t205) = true then (none) else ((laws_heldMatrix.f k t217 t240 1).bind fun t257 => (if t257 < 0 then (none) else (if t257 = t239 then (some true) else (none))))) = some r := by rw [if_pos rfl] at H; exact H
            clear H
            have H := H1
            clear H1
            by_cases c48 : (t254 != t205) = true
            ·rw [if_pos c48] at H
             exact absurd H (by simp)
            ·rw [if_neg c48] at H
             have c48b0 : (t254 != t205) = false := by simpa using c48
             (try (have c48b1 : decide (t254 = t205) = true := by simpa using c48))
             (try (have c48b2 : (t254 == t205) = true := by simpa using c48))
             clear c48
             replace H := Option.bind_eq_some_iff.mp H
             obtain ⟨t257, A490, H⟩ := H
             (try dsimp only at H)
             have A49 := am A490
             clear A490
             by_cases c50 : t257 < 0
             ·rw [if_pos c50] at H
              exact absurd H (by simp)
             ·rw [if_neg c50] at H
              have c50b0 : decide (t257 < 0) = false := decide_eq_false c50
              clear c50
              by_cases c51 : t257 = t239
              ·rw [if_pos c51] at H
               have c51b0 : (t257 == t239) = true := beq_iff_eq.mpr c51
               have c51b1 : (t257 != t239) = false := bne_eq_false_iff_eq.mpr c51
               clear c51
               obtain rfl := Option.some.inj H
               go_enter Try.func7, Try.ntmps7
               try go_wp2_with (first | ((with_reducible refine gate_dst (N := 2) rfl ?_); refine box_event ?hg (N := 2) ?hd (cs := #[.int .i64 a0_0, .slice A0_1 l0_1.length c0_1]) (t := 24) ?hr ?_; (case hd => rfl); (case hg => rfl); (case hr => first | (go_simp; done) | (go_simp; rfl)); intro gb189 hg w52 hbox hb; have n0_ := am (below_step (bz HB.out) hb); have n1_ := am (hbox); have n2_ := am ((by rw [hg]; exact (below_size (bz HB.out)) : w.heap.size ≤ gb189)); have n3_ := am ((by rw [hg]; exact (below_size (bz HB.out)) : w.heap.size ≤ gb189)); clear HB; revert n0_ n1_ n2_ n3_; intro HB BK189 GW189 GE189; clear hb hbox hg) | ((with_reducible refine gate_dst (N := 3) rfl ?_); refine box_event ?hg (N := 3) ?hd (cs := #[.int .i64 a1_0, .slice A1_1 l1_1.length c1_1]) (t := 24) ?hr ?_; (case hd => rfl); (case hg => rfl); (case hr => first | (go_simp; done) | (go_simp; rfl)); intro gb190 hg w53 hbox hb; have n0_ := bk BK189 hb; have n1_ := am (below_step (bw HB.out) hb); have n2_ := am (hbox); have n3_ := am ((by rw [hg]; exact (below_size (bw HB.out)) : w.heap.size ≤ gb190)); have n4_ := am ((by rw [hg]; exact (below_size (bw HB.out)) : w.heap.size ≤ gb190)); have n5_ := am ((by rw [hg]; exact Nat.ne_of_lt (blk_lt (kz BK189.out)) : gb189 ≠ gb190)); have n6_ := am ((by rw [hg]; exact Nat.ne_of_gt (blk_lt (kz BK189.out)) : gb190 ≠ gb189)); clear BK189 HB; revert n0_ n1_ n2_ n3_ n4_ n5_ n6_; intro BK189 HB BK190 GW190 GE190 NB189_190 NB190_189; clear hb hbox hg; have hnb54 := NB189_190.out; have hnc54 := NB190_189.out; have hcz55_0 := cz20 BK189.out; have hcz55_1 := cz21 BK189.out; have hfz55_0 := blk_frozen BK189.out 0; have hfz55_1 := blk_frozen BK189.out 1) | ((with_reducible refine gate_callee (f := 14) rfl ?_); refine goesL_ (some 19) rfl rfl Try.func14 (by kernel_rfl) rfl #[.agg #[.int .i64 a0_0, .slice A0_1 l0_1.length c0_1], .int .i64 1048576] rfl (by (try simp only [List.map_toArray, List.map_cons, List.map_nil]); first | done | rfl | (simp only [List.length_drop, List.length_take]; rfl)) ?_; (with_reducible refine (laws_szMatrix.calls a0_0 _ _ l0_1 1048576 t191 _ ?side1 ?side2 A3.out).mono ?_); (case side1 => repeat (first | exact (Kd.C_below HR0_1.out HB.out) | (with_reducible refine Kd.C_alloc ?_ _) | (with_reducible refine Kd.C_drewN ?_ _) | (with_reducible refine Kd.C_drew ?_))); (case side2 => exact HC0_1.out); rintro e w56 ⟨rfl, hb⟩; refine ⟨_, rfl, ?_⟩; have n0_ := bk BK189 hb; have n1_ := bk BK190 hb; have n2_ := am (below_step (bw HB.out) hb); clear BK189 BK190 HB; revert n0_ n1_ n2_; intro BK189 BK190 HB; (try clear hb); (try clear hb2); (try clear hk); (try clear hi); have hcz57_0 := cz20 BK190.out; have hcz57_1 := cz21 BK190.out; have hfz57_0 := blk_frozen BK190.out 0; have hfz57_1 := blk_frozen BK190.out 1) | ((with_reducible refine gate_callee (f := 14) rfl ?_); refine goesL_ (some 24) rfl rfl Try.func14 (by kernel_rfl) rfl #[.agg #[.int .i64 a1_0, .slice A1_1 l1_1.length c1_1], .int .i64 t191] rfl (by (try simp only [List.map_toArray, List.map_cons, List.map_nil]); first | done | rfl | (simp only [List.length_drop, List.length_take]; rfl)) ?_; (with_reducible refine (laws_szMatrix.calls a1_0 _ _ l1_1 t191 t192 _ ?side1 ?side2 A10.out).mono ?_); (case side1 => repeat (first | exact (Kd.C_below HR1_1.out HB.out) | (with_reducible refine Kd.C_alloc ?_ _) | (with_reducible refine Kd.C_drewN ?_ _) | (with_reducible refine Kd.C_drew ?_))); (case side2 => exact HC1_1.out); rintro e w58 ⟨rfl, hb⟩; refine ⟨_, rfl, ?_⟩; have n0_ := bk BK189 hb; have n1_ := bk BK190 hb; have n2_ := am (below_step (bw HB.out) hb); clear BK189 BK190 HB; revert n0_ n1_ n2_; intro BK189 BK190 HB; (try clear hb); (try clear hb2); (try clear hk); (try clear hi)))
               have n0_ := am (blk_drew BK189.out)
               have n1_ := am (blk_drew BK190.out)
               have n2_ := am (below_drew1 HB.out)
               clear BK189 BK190 HB
               revert n0_ n1_ n2_; intro BK189 BK190 HB
               refine start_ (n := 11) (S := fun w' => w'.cell? ⟨gb189, 0, none⟩ = some (.int .i64 a0_0) ∧ w'.cell? ⟨gb189, 1, none⟩ = some (.slice A0_1 l0_1.length c0_1) ∧ w'.cell? ⟨gb190, 0, none⟩ = some (.int .i64 a1_0) ∧ w'.cell? ⟨gb190, 1, none⟩ = some (.slice A1_1 l1_1.length c1_1)) (ds := []) (mk 11 0) (by kernel_rfl) rfl rfl ⟨(blk_cell BK189.out 0).trans rfl, (blk_cell BK189.out 1).trans rfl, (blk_cell BK190.out 0).trans rfl, (blk_cell BK190.out 1).trans rfl⟩ (fun hHeld => ?_); refine with_tabW laws_FnExactMulMatrix.tab8 laws_FnExactMulMatrix.bits8 (fun HT_ HW_ => ?_)
               generalize w58.drew = w59 at BK189 BK190 HB hHeld ⊢
               refine take_ (i := 0) (N := some 28) (v := ?_) (a' := ?_) (mk 11 1) rfl rfl (take_ofW HT_.out HW_.out (by kernel_rfl)) (fun _ _ _ h => h) (Or.inl ⟨by rfl, ?_⟩) hHeld ?_ ?_
               rotate_left
               ·rintro w' ⟨s0, s1, s2, s3⟩
                go_simp
                with_reducible rfl
               rotate_left
               ·simp only [Act.put, List.setIfInBounds_toArray, List.set_cons_zero, List.set_cons_succ, i64_w, i32_w]
                rfl
               refine take_ (i := 2) (N := some 30) (v := ?_) (a' := ?_) (mk 11 5) rfl rfl (take_ofW HT_.out HW_.out (by kernel_rfl)) (fun _ _ _ h => h) (Or.inl ⟨by rfl, ?_⟩) hHeld ?_ ?_
               rotate_left
               ·rintro w' ⟨s0, s1, s2, s3⟩
                go_simp
                with_reducible rfl
               rotate_left
               ·simp only [Act.put, List.setIfInBounds_toArray, List.set_cons_zero, List.set_cons_succ, i64_w, i32_w]
                rfl
               refine join_ (σ := Value × Value × Value × Nat) 2 (mk 11 511) (fun s_ => [(29, .agg #[.int .i64 t193, s_.1]), (31, .agg #[.int .i64 t197, s_.2.1]), (32, .tuple #[.agg #[.int .i64 t201, s_.2.2.1], .bool t205]), (6, .pointer (some ⟨s_.2.2.2, 0, none⟩)), (27, .tuple #[.agg #[.int .i64 t201, s_.2.2.1], .bool t205]), (33, .agg #[.int .i64 t201, s_.2.2.1]), (34, .bool t205)]) (fun s_ w' => (w'.cell? ⟨gb189, 0, none⟩ = some (.int .i64 a0_0) ∧ w'.cell? ⟨gb189, 1, none⟩ = some (.slice A0_1 l0_1.length c0_1) ∧ w'.cell? ⟨gb190, 0, none⟩ = some (.int .i64 a1_0) ∧ w'.cell? ⟨gb190, 1, none⟩ = some (.slice A1_1 l1_1.length c1_1)) ∧ (Kd.R (Kd.int .i64) 3 w' w.heap.size (fun k_ => some k_ ≠ (s_.2.1 : Value).ownBlock ∧ some k_ ≠ (s_.2.2.1 : Value).ownBlock) s_.1 t194) ∧ (Kd.R (Kd.int .i64) 3 w' w.heap.size (fun k_ => some k_ ≠ (s_.1 : Value).ownBlock ∧ some k_ ≠ (s_.2.2.1 : Value).ownBlock) s_.2.1 t198) ∧ (Kd.R (Kd.int .i64) 3 w' w.heap.size (fun k_ => some k_ ≠ (s_.1 : Value).ownBlock ∧ some k_ ≠ (s_.2.1 : Value).ownBlock) s_.2.2.1 t202) ∧ (w'.heap[gb189]? = some (.cells #[.int .i64 a0_0, .slice A0_1 l0_1.length c0_1] 24 (0, 0))) ∧ (w'.heap[gb190]? = some (.cells #[.int .i64 a1_0, .slice A1_1 l1_1.length c1_1] 24 (0, 0))) ∧ (w'.heap[s_.2.2.2]? = some (.cells #[.int .i64 0, .slice none 0 0] 27 (0, 0))) ∧ (w.heap.size ≤ s_.2.2.2) ∧ (w.heap.size ≤ s_.2.2.2) ∧ (gb189 ≠ s_.2.2.2) ∧ (s_.2.2.2 ≠ gb189) ∧ (gb190 ≠ s_.2.2.2) ∧ (s_.2.2.2 ≠ gb190) ∧ (Below w.heap.size w w')) ?_ ?_
               rotate_left
               ·intro hCont
                refine two_ (i := 1) (j := 8) (Ni := some 29) (Nj := some 6) (mk 11 7) (mk 11 261) rfl rfl rfl rfl (two_of HT_.out (by kernel_rfl)) (by decide) (by decide) (fun K hK => ?_) (fun K hK => ?_)
                ·skip
                 refine goes_ Try.func16 (by kernel_rfl) rfl #[.agg #[.int .i64 a0_0, .slice A0_1 l0_1.length c0_1]] (by rfl) rfl rfl (by (try simp only [List.map_toArray, List.map_cons, List.map_nil]); first | done | rfl | (simp only [List.length_drop, List.length_take]; rfl)) ?_
                 with_reducible refine (laws_toMatrix.calls k a0_0 _ _ l0_1 t193 t194 _ ?side1 ?side2 A19.out).mono ?_
                 (case side1 => repeat (first | exact (Kd.C_below HR0_1.out HB.out) | (with_reducible refine Kd.C_alloc ?_ _) | (with_reducible refine Kd.C_drewN ?_ _) | (with_reducible refine Kd.C_drew ?_)))
                 (case side2 => exact HC0_1.out)
                 rintro e w60 ⟨v195, rfl, ho0, hb⟩
                 refine ⟨_, rfl, ?_⟩
                 have n0_ := am (Kd.R_lower ho0 (below_size (bw HB.out)))
                 have n1_ := bk BK189 hb
                 have n2_ := bk BK190 hb
                 have n3_ := am (below_step (bw HB.out) hb)
                 clear BK189 BK190 HB
                 revert n0_ n1_ n2_ n3_; intro HO196 BK189 BK190 HB
                 (try clear hb)
                 (try clear hb2)
                 (try clear hk)
                 (try clear hi)
                 (try clear ho0)
                 refine hK.out _ _ ⟨(blk_cell BK189.out 0).trans rfl, (blk_cell BK189.out 1).trans rfl, (blk_cell BK190.out 0).trans rfl, (blk_cell BK190.out 1).trans rfl⟩ (fun hHeld => ?_)
                 clear hK K
                 refine norm_ (a' := ?_) ?_ ?_
                 rotate_left
                 ·show Act.put _ (some 29) _ = _
                  simp only [Act.put, List.setIfInBounds_toArray, List.set_cons_zero, List.set_cons_succ, i64_w, i32_w]
                  rfl
                 refine two_ (i := 3) (j := 8) (Ni := some 31) (Nj := some 6) (mk 11 15) (mk 11 263) rfl rfl rfl rfl (two_of HT_.out (by kernel_rfl)) (by decide) (by decide) (fun K hK => ?_) (fun K hK => ?_)
                 ·skip
                  refine goes_ Try.func16 (by kernel_rfl) rfl #[.agg #[.int .i64 a1_0, .slice A1_1 l1_1.length c1_1]] (by rfl) rfl rfl (by (try simp only [List.map_toArray, List.map_cons, List.map_nil]); first | done | rfl | (simp only [List.length_drop, List.length_take]; rfl)) ?_
                  with_reducible refine (laws_toMatrix.calls k a1_0 _ _ l1_1 t197 t198 _ ?side1 ?side2 A20.out).mono ?_
                  (case side1 => repeat (first | exact (Kd.C_below HR1_1.out HB.out) | (with_reducible refine Kd.C_alloc ?_ _) | (with_reducible refine Kd.C_drewN ?_ _) | (with_reducible refine Kd.C_drew ?_)))
                  (case side2 => exact HC1_1.out)
                  rintro e w61 ⟨v199, rfl, ho0, hb⟩
                  refine ⟨_, rfl, ?_⟩
                  have n0_ := el HO196 (Kd.R_base ho0) hb
                  have n1_ := am (Kd.R_lower (Kd.R_new' ho0 (Kd.R_lt (rz HO196.out))) (below_size (bw HB.out)))
                  have n2_ := bk BK189 hb
                  have n3_ := bk BK190 hb
                  have n4_ := am (below_step (bw HB.out) hb)
                  clear HO196 BK189 BK190 HB
                  revert n0_ n1_ n2_ n3_ n4_; intro HO196 HO200 BK189 BK190 HB
                  (try clear hb)
                  (try clear hb2)
                  (try clear hk)
                  (try clear hi)
                  (try clear ho0)
                  obtain ⟨Ao62, co62, eo62⟩ := Kd.R_slice HO196.out
                  (first | subst eo62 | (injection eo62 with f1_ f2_ f3_; have f4_ := f1_.symm; have f5_ := f3_.symm; clear f1_ f2_ f3_; subst f4_; subst f5_))
                  obtain ⟨Ao63, co63, eo63⟩ := Kd.R_slice HO200.out
                  (first | subst eo63 | (injection eo63 with f1_ f2_ f3_; have f4_ := f1_.symm; have f5_ := f3_.symm; clear f1_ f2_ f3_; subst f4_; subst f5_))
                  refine hK.out _ _ ⟨(blk_cell BK189.out 0).trans rfl, (blk_cell BK189.out 1).trans rfl, (blk_cell BK190.out 0).trans rfl, (blk_cell BK190.out 1).trans rfl⟩ (fun hHeld => ?_)
                  clear hK K
                  refine norm_ (a' := ?_) ?_ ?_
                  rotate_left
                  ·show Act.put _ (some 31) _ = _
                   simp only [Act.put, List.setIfInBounds_toArray, List.set_cons_zero, List.set_cons_succ, i64_w, i32_w]
                   rfl
                  refine two_ (i := 4) (j := 8) (Ni := some 32) (Nj := some 6) (mk 11 31) (mk 11 271) rfl rfl rfl rfl (two_of HT_.out (by kernel_rfl)) (by decide) (by decide) (fun K hK => ?_) (fun K hK => ?_)
                  ·skip
                   refine goes_ Try.func27 (by kernel_rfl) rfl #[.agg #[.int .i64 t193, .slice Ao62 t194.length co62], .agg #[.int .i64 t197, .slice Ao63 t198.length co63]] (by rfl) rfl rfl (by (try simp only [List.map_toArray, List.map_cons, List.map_nil]); first | done | rfl | (simp only [List.length_drop, List.length_take]; rfl)) ?_
                   with_reducible refine (spec_MulMatrix.calls k t193 _ _ t194 t197 _ _ t198 t201 t202 t205 _ ?side1 ?side2 ?side3 ?side4 A21.out).mono ?_
                   (case side1 => repeat (first | exact (Kd.R_reads' HO196.out).2.2 | (with_reducible refine Kd.C_alloc ?_ _) | (with_reducible refine Kd.C_drewN ?_ _) | (with_reducible refine Kd.C_drew ?_)))
                   (case side2 => exact (Kd.R_reads' HO196.out).2.1)
                   (case side3 => repeat (first | exact (Kd.R_reads' HO200.out).2.2 | (with_reducible refine Kd.C_alloc ?_ _) | (with_reducible refine Kd.C_drewN ?_ _) | (with_reducible refine Kd.C_drew ?_)))
                   (case side4 => exact (Kd.R_reads' HO200.out).2.1)
                   rintro e w64 ⟨v203, rfl, ho0, hb⟩
                   refine ⟨_, rfl, ?_⟩
                   have n0_ := el HO196 (Kd.R_base ho0) hb
                   have n1_ := el HO200 (Kd.R_base ho0) hb
                   have n2_ := am (Kd.R_lower (Kd.R_new' (Kd.R_new' ho0 (Kd.R_lt (rz HO196.out))) (Kd.R_lt (rz HO200.out))) (below_size (bw HB.out)))
                   have n3_ := bk BK189 hb
                   have n4_ := bk BK190 hb
                   have n5_ := am (below_step (bw HB.out) hb)
                   clear HO196 HO200 BK189 BK190 HB
                   revert n0_ n1_ n2_ n3_ n4_ n5_; intro HO196 HO200 HO204 BK189 BK190 HB
                   (try clear hb)
                   (try clear hb2)
                   (try clear hk)
                   (try clear hi)
                   (try clear ho0)
                   refine hK.out _ _ ⟨(blk_cell BK189.out 0).trans rfl, (blk_cell BK189.out 1).trans rfl, (blk_cell BK190.out 0).trans rfl, (blk_cell BK190.out 1).trans rfl⟩ (fun hHeld => ?_)
                   clear hK K
                   refine norm_ (a' := ?_) ?_ ?_
                   rotate_left
                   ·show Act.put _ (some 32) _ = _
                    simp only [Act.put, List.setIfInBounds_toArray, List.set_cons_zero, List.set_cons_succ, i64_w, i32_w]
                    rfl
                   refine pv 5 27 11 63 HT_ ?_
                   refine pv 6 33 11 127 HT_ ?_
                   refine pv 7 34 11 255 HT_ ?_
                   refine one_ (i := 8) (N := some 6) (mk 11 511) rfl rfl (one_of HT_.out (by kernel_rfl)) (by decide) (fun K hK => ?_)
                   refine box_step ?hg (N := 6) ?hd (cs := #[.int .i64 0, .slice none 0 0]) (t := 27) ?hr ?_; (case hd => rfl); (case hg => rfl); (case hr => first | (go_simp; done) | (go_simp; rfl))
                   intro gb206 hg w65 hbox hb
                   have n0_ := am (Kd.R_below (rz HO196.out) hb)
                   have n1_ := am (Kd.R_below (rz HO200.out) hb)
                   have n2_ := am (Kd.R_below (rz HO204.out) hb)
                   have n3_ := bk BK189 hb
                   have n4_ := bk BK190 hb
                   have n5_ := am (below_step (bw HB.out) hb)
                   have n6_ := am (hbox)
                   have n7_ := am ((by rw [hg]; exact (below_size (bw HB.out)) : w.heap.size ≤ gb206))
                   have n8_ := am ((by rw [hg]; exact (below_size (bw HB.out)) : w.heap.size ≤ gb206))
                   have n9_ := am ((by rw [hg]; exact Nat.ne_of_lt (blk_lt (kz BK189.out)) : gb189 ≠ gb206))
                   have n10_ := am ((by rw [hg]; exact Nat.ne_of_gt (blk_lt (kz BK189.out)) : gb206 ≠ gb189))
                   have n11_ := am ((by rw [hg]; exact Nat.ne_of_lt (blk_lt (kz BK190.out)) : gb190 ≠ gb206))
                   have n12_ := am ((by rw [hg]; exact Nat.ne_of_gt (blk_lt (kz BK190.out)) : gb206 ≠ gb190))
                   clear HO196 HO200 HO204 BK189 BK190 HB
                   revert n0_ n1_ n2_ n3_ n4_ n5_ n6_ n7_ n8_ n9_ n10_ n11_ n12_; intro HO196 HO200 HO204 BK189 BK190 HB BK206 GW206 GE206 NB189_206 NB206_189 NB190_206 NB206_190; clear hb hbox hg
                   refine hK.out _ _ ⟨(blk_cell BK189.out 0).trans rfl, (blk_cell BK189.out 1).trans rfl, (blk_cell BK190.out 0).trans rfl, (blk_cell BK190.out 1).trans rfl⟩ (fun hHeld => ?_)
                   clear hK K
                   refine norm_ (a' := ?_) ?_ ?_
                   rotate_left
                   ·show Act.put _ (some 6) _ = _
                    simp only [Act.put, List.setIfInBounds_toArray, List.set_cons_zero, List.set_cons_succ, i64_w, i32_w]
                    rfl
                   exact norm_ (by simp only [putAll, Act.put, List.setIfInBounds_toArray, List.set_cons_zero, List.set_cons_succ]) (hCont (.slice Ao62 t194.length co62, .slice Ao63 t198.length co63, v203, gb206) _ ⟨hHeld, (by (with_reducible repeat (first | apply ra | apply rn | apply rw_)); exact Kd.R_mono HO196.out (fun _ hk => ⟨hk.1.2, hk.2⟩)), (by (with_reducible repeat (first | apply ra | apply rn | apply rw_)); exact Kd.R_mono HO200.out (fun _ hk => ⟨hk.1.2, hk.2⟩)), (by (with_reducible repeat (first | apply ra | apply rn | apply rw_)); exact Kd.R_mono HO204.out (fun _ hk => ⟨hk.1.2, hk.2⟩)), (kz BK189.out), (kz BK190.out), (kz BK206.out), GW206.out, GE206.out, NB189_206.out, NB206_189.out, NB190_206.out, NB206_190.out, (bw HB.out)⟩)
                  ·skip
                   refine box_step ?hg (N := 6) ?hd (cs := #[.int .i64 0, .slice none 0 0]) (t := 27) ?hr ?_; (case hd => rfl); (case hg => rfl); (case hr => first | (go_simp; done) | (go_simp; rfl))
                   intro gb206 hg w62 hbox hb
                   have n0_ := am (Kd.R_below (rz HO196.out) hb)
                   have n1_ := am (Kd.R_below (rz HO200.out) hb)
                   have n2_ := bk BK189 hb
                   have n3_ := bk BK190 hb
                   have n4_ := am (below_step (bw HB.out) hb)
                   have n5_ := am (hbox)
                   have n6_ := am ((by rw [hg]; exact (below_size (bw HB.out)) : w.heap.size ≤ gb206))
                   have n7_ := am ((by rw [hg]; exact (below_size (bw HB.out)) : w.heap.size ≤ gb206))
                   have n8_ := am ((by rw [hg]; exact Nat.ne_of_lt (blk_lt (kz BK189.out)) : gb189 ≠ gb206))
                   have n9_ := am ((by rw [hg]; exact Nat.ne_of_gt (blk_lt (kz BK189.out)) : gb206 ≠ gb189))
                   have n10_ := am ((by rw [hg]; exact Nat.ne_of_lt (blk_lt (kz BK190.out)) : gb190 ≠ gb206))
                   have n11_ := am ((by rw [hg]; exact Nat.ne_of_gt (blk_lt (kz BK190.out)) : gb206 ≠ gb190))
                   clear HO196 HO200 BK189 BK190 HB
                   revert n0_ n1_ n2_ n3_ n4_ n5_ n6_ n7_ n8_ n9_ n10_ n11_; intro HO196 HO200 BK189 BK190 HB BK206 GW206 GE206 NB189_206 NB206_189 NB190_206 NB206_190; clear hb hbox hg
                   obtain ⟨Ao63, co63, eo63⟩ := Kd.R_slice HO196.out
                   (first | subst eo63 | (injection eo63 with f1_ f2_ f3_; have f4_ := f1_.symm; have f5_ := f3_.symm; clear f1_ f2_ f3_; subst f4_; subst f5_))
                   obtain ⟨Ao64, co64, eo64⟩ := Kd.R_slice HO200.out
                   (first | subst eo64 | (injection eo64 with f1_ f2_ f3_; have f4_ := f1_.symm; have f5_ := f3_.symm; clear f1_ f2_ f3_; subst f4_; subst f5_))
                   refine hK.out _ _ ⟨(blk_cell BK189.out 0).trans rfl, (blk_cell BK189.out 1).trans rfl, (blk_cell BK190.out 0).trans rfl, (blk_cell BK190.out 1).trans rfl⟩ (fun hHeld => ?_)
                   clear hK K
                   refine norm_ (a' := ?_) ?_ ?_
                   rotate_left
                   ·show Act.put _ (some 6) _ = _
                    simp only [Act.put, List.setIfInBounds_toArray, List.set_cons_zero, List.set_cons_succ, i64_w, i32_w]
                    rfl
                   refine one_ (i := 4) (N := some 32) (mk 11 287) rfl rfl (one_of HT_.out (by kernel_rfl)) (by decide) (fun K hK => ?_)
                   refine goes_ Try.func27 (by kernel_rfl) rfl #[.agg #[.int .i64 t193, .slice Ao63 t194.length co63], .agg #[.int .i64 t197, .slice Ao64 t198.length co64]] (by rfl) rfl rfl (by (try simp only [List.map_toArray, List.map_cons, List.map_nil]); first | done | rfl | (simp only [List.length_drop, List.length_take]; rfl)) ?_
                   with_reducible refine (spec_MulMatrix.calls k t193 _ _ t194 t197 _ _ t198 t201 t202 t205 _ ?side1 ?side2 ?side3 ?side4 A21.out).mono ?_
                   (case side1 => repeat (first | exact (Kd.R_reads' HO196.out).2.2 | (with_reducible refine Kd.C_alloc ?_ _) | (with_reducible refine Kd.C_drewN ?_ _) | (with_reducible refine Kd.C_drew ?_)))
                   (case side2 => exact (Kd.R_reads' HO196.out).2.1)
                   (case side3 => repeat (first | exact (Kd.R_reads' HO200.out).2.2 | (with_reducible refine Kd.C_alloc ?_ _) | (with_reducible refine Kd.C_drewN ?_ _) | (with_reducible refine Kd.C_drew ?_)))
                   (case side4 => exact (Kd.R_reads' HO200.out).2.1)
                   rintro e w65 ⟨v203, rfl, ho0, hb⟩
                   refine ⟨_, rfl, ?_⟩
                   have n0_ := el HO196 (Kd.R_base ho0) hb
                   have n1_ := el HO200 (Kd.R_base ho0) hb
                   have n2_ := am (Kd.R_lower (Kd.R_new' (Kd.R_new' ho0 (Kd.R_lt (rz HO196.out))) (Kd.R_lt (rz HO200.out))) (below_size (bw HB.out)))
                   have n3_ := bk BK189 hb
                   have n4_ := bk BK190 hb
                   have n5_ := bk BK206 hb
                   have n6_ := am (below_step (bw HB.out) hb)
                   clear HO196 HO200 BK189 BK190 BK206 HB
                   revert n0_ n1_ n2_ n3_ n4_ n5_ n6_; intro HO196 HO200 HO204 BK189 BK190 BK206 HB
                   (try clear hb)
                   (try clear hb2)
                   (try clear hk)
                   (try clear hi)
                   (try clear ho0)
                   refine hK.out _ _ ⟨(blk_cell BK189.out 0).trans rfl, (blk_cell BK189.out 1).trans rfl, (blk_cell BK190.out 0).trans rfl, (blk_cell BK190.out 1).trans rfl⟩ (fun hHeld => ?_)
                   clear hK K
                   refine norm_ (a' := ?_) ?_ ?_
                   rotate_left
                   ·show Act.put _ (some 32) _ = _
                    simp only [Act.put, List.setIfInBounds_toArray, List.set_cons_zero, List.set_cons_succ, i64_w, i32_w]
                    rfl
                   refine pv 5 27 11 319 HT_ ?_
                   refine pv 6 33 11 383 HT_ ?_
                   refine pv 7 34 11 511 HT_ ?_
                   exact norm_ (by simp only [putAll, Act.put, List.setIfInBounds_toArray, List.set_cons_zero, List.set_cons_succ]) (hCont (.slice Ao63 t194.length co63, .slice Ao64 t198.length co64, v203, gb206) _ ⟨hHeld, (by (with_reducible repeat (first | apply ra | apply rn | apply rw_)); exact Kd.R_mono HO196.out (fun _ hk => ⟨hk.1.2, hk.2⟩)), (by (with_reducible repeat (first | apply ra | apply rn | apply rw_)); exact Kd.R_mono HO200.out (fun _ hk => ⟨hk.1.2, hk.2⟩)), (by (with_reducible repeat (first | apply ra | apply rn | apply rw_)); exact Kd.R_mono HO204.out (fun _ hk => ⟨hk.1.2, hk.2⟩)), (kz BK189.out), (kz BK190.out), (kz BK206.out), GW206.out, GE206.out, NB189_206.out, NB206_189.out, NB190_206.out, NB206_190.out, (bw HB.out)⟩)
                 ·skip
                  refine box_step ?hg (N := 6) ?hd (cs := #[.int .i64 0, .slice none 0 0]) (t := 27) ?hr ?_; (case hd => rfl); (case hg => rfl); (case hr => first | (go_simp; done) | (go_simp; rfl))
                  intro gb206 hg w61 hbox hb
                  have n0_ := am (Kd.R_below (rz HO196.out) hb)
                  have n1_ := bk BK189 hb
                  have n2_ := bk BK190 hb
                  have n3_ := am (below_step (bw HB.out) hb)
                  have n4_ := am (hbox)
                  have n5_ := am ((by rw [hg]; exact (below_size (bw HB.out)) : w.heap.size ≤ gb206))
                  have n6_ := am ((by rw [hg]; exact (below_size (bw HB.out)) : w.heap.size ≤ gb206))
                  have n7_ := am ((by rw [hg]; exact Nat.ne_of_lt (blk_lt (kz BK189.out)) : gb189 ≠ gb206))
                  have n8_ := am ((by rw [hg]; exact Nat.ne_of_gt (blk_lt (kz BK189.out)) : gb206 ≠ gb189))
                  have n9_ := am ((by rw [hg]; exact Nat.ne_of_lt (blk_lt (kz BK190.out)) : gb190 ≠ gb206))
                  have n10_ := am ((by rw [hg]; exact Nat.ne_of_gt (blk_lt (kz BK190.out)) : gb206 ≠ gb190))
                  clear HO196 BK189 BK190 HB
                  revert n0_ n1_ n2_ n3_ n4_ n5_ n6_ n7_ n8_ n9_ n10_; intro HO196 BK189 BK190 HB BK206 GW206 GE206 NB189_206 NB206_189 NB190_206 NB206_190; clear hb hbox hg
                  refine hK.out _ _ ⟨(blk_cell BK189.out 0).trans rfl, (blk_cell BK189.out 1).trans rfl, (blk_cell BK190.out 0).trans rfl, (blk_cell BK190.out 1).trans rfl⟩ (fun hHeld => ?_)
                  clear hK K
                  refine norm_ (a' := ?_) ?_ ?_
                  rotate_left
                  ·show Act.put _ (some 6) _ = _
                   simp only [Act.put, List.setIfInBounds_toArray, List.set_cons_zero, List.set_cons_succ, i64_w, i32_w]
                   rfl
                  refine one_ (i := 3) (N := some 31) (mk 11 271) rfl rfl (one_of HT_.out (by kernel_rfl)) (by decide) (fun K hK => ?_)
                  refine goes_ Try.func16 (by kernel_rfl) rfl #[.agg #[.int .i64 a1_0, .slice A1_1 l1_1.length c1_1]] (by rfl) rfl rfl (by (try simp only [List.map_toArray, List.map_cons, List.map_nil]); first | done | rfl | (simp only [List.length_drop, List.length_take]; rfl)) ?_
                  with_reducible refine (laws_toMatrix.calls k a1_0 _ _ l1_1 t197 t198 _ ?side1 ?side2 A20.out).mono ?_
                  (case side1 => repeat (first | exact (Kd.C_below HR1_1.out HB.out) | (with_reducible refine Kd.C_alloc ?_ _) | (with_reducible refine Kd.C_drewN ?_ _) | (with_reducible refine Kd.C_drew ?_)))
                  (case side2 => exact HC1_1.out)
                  rintro e w62 ⟨v199, rfl, ho0, hb⟩
                  refine ⟨_, rfl, ?_⟩
                  have n0_ := el HO196 (Kd.R_base ho0) hb
                  have n1_ := am (Kd.R_lower (Kd.R_new' ho0 (Kd.R_lt (rz HO196.out))) (below_size (bw HB.out)))
                  have n2_ := bk BK189 hb
                  have n3_ := bk BK190 hb
                  have n4_ := bk BK206 hb
                  have n5_ := am (below_step (bw HB.out) hb)
                  clear HO196 BK189 BK190 BK206 HB
                  revert n0_ n1_ n2_ n3_ n4_ n5_; intro HO196 HO200 BK189 BK190 BK206 HB
                  (try clear hb)
                  (try clear hb2)
                  (try clear hk)
                  (try clear hi)
                  (try clear ho0)
                  obtain ⟨Ao63, co63, eo63⟩ := Kd.R_slice HO196.out
                  (first | subst eo63 | (injection eo63 with f1_ f2_ f3_; have f4_ := f1_.symm; have f5_ := f3_.symm; clear f1_ f2_ f3_; subst f4_; subst f5_))
                  obtain ⟨Ao64, co64, eo64⟩ := Kd.R_slice HO200.out
                  (first | subst eo64 | (injection eo64 with f1_ f2_ f3_; have f4_ := f1_.symm; have f5_ := f3_.symm; clear f1_ f2_ f3_; subst f4_; subst f5_))
                  refine hK.out _ _ ⟨(blk_cell BK189.out 0).trans rfl, (blk_cell BK189.out 1).trans rfl, (blk_cell BK190.out 0).trans rfl, (blk_cell BK190.out 1).trans rfl⟩ (fun hHeld => ?_)
                  clear hK K
                  refine norm_ (a' := ?_) ?_ ?_
                  rotate_left
                  ·show Act.put _ (some 31) _ = _
                   simp only [Act.put, List.setIfInBounds_toArray, List.set_cons_zero, List.set_cons_succ, i64_w, i32_w]
                   rfl
                  refine one_ (i := 4) (N := some 32) (mk 11 287) rfl rfl (one_of HT_.out (by kernel_rfl)) (by decide) (fun K hK => ?_)
                  refine goes_ Try.func27 (by kernel_rfl) rfl #[.agg #[.int .i64 t193, .slice Ao63 t194.length co63], .agg #[.int .i64 t197, .slice Ao64 t198.length co64]] (by rfl) rfl rfl (by (try simp only [List.map_toArray, List.map_cons, List.map_nil]); first | done | rfl | (simp only [List.length_drop, List.length_take]; rfl)) ?_
                  with_reducible refine (spec_MulMatrix.calls k t193 _ _ t194 t197 _ _ t198 t201 t202 t205 _ ?side1 ?side2 ?side3 ?side4 A21.out).mono ?_
                  (case side1 => repeat (first | exact (Kd.R_reads' HO196.out).2.2 | (with_reducible refine Kd.C_alloc ?_ _) | (with_reducible refine Kd.C_drewN ?_ _) | (with_reducible refine Kd.C_drew ?_)))
                  (case side2 => exact (Kd.R_reads' HO196.out).2.1)
                  (case side3 => repeat (first | exact (Kd.R_reads' HO200.out).2.2 | (with_reducible refine Kd.C_alloc ?_ _) | (with_reducible refine Kd.C_drewN ?_ _) | (with_reducible refine Kd.C_drew ?_)))
                  (case side4 => exact (Kd.R_reads' HO200.out).2.1)
                  rintro e w65 ⟨v203, rfl, ho0, hb⟩
                  refine ⟨_, rfl, ?_⟩
                  have n0_ := el HO196 (Kd.R_base ho0) hb
                  have n1_ := el HO200 (Kd.R_base ho0) hb
                  have n2_ := am (Kd.R_lower (Kd.R_new' (Kd.R_new' ho0 (Kd.R_lt (rz HO196.out))) (Kd.R_lt (rz HO200.out))) (below_size (bw HB.out)))
                  have n3_ := bk BK189 hb
                  have n4_ := bk BK190 hb
                  have n5_ := bk BK206 hb
                  have n6_ := am (below_step (bw HB.out) hb)
                  clear HO196 HO200 BK189 BK190 BK206 HB
                  revert n0_ n1_ n2_ n3_ n4_ n5_ n6_; intro HO196 HO200 HO204 BK189 BK190 BK206 HB
                  (try clear hb)
                  (try clear hb2)
                  (try clear hk)
                  (try clear hi)
                  (try clear ho0)
                  refine hK.out _ _ ⟨(blk_cell BK189.out 0).trans rfl, (blk_cell BK189.out 1).trans rfl, (blk_cell BK190.out 0).trans rfl, (blk_cell BK190.out 1).trans rfl⟩ (fun hHeld => ?_)
                  clear hK K
                  refine norm_ (a' := ?_) ?_ ?_
                  rotate_left
                  ·show Act.put _ (some 32) _ = _
                   simp only [Act.put, List.setIfInBounds_toArray, List.set_cons_zero, List.set_cons_succ, i64_w, i32_w]
                   rfl
                  refine pv 5 27 11 319 HT_ ?_
                  refine pv 6 33 11 383 HT_ ?_
                  refine pv 7 34 11 511 HT_ ?_
                  exact norm_ (by simp only [putAll, Act.put, List.setIfInBounds_toArray, List.set_cons_zero, List.set_cons_succ]) (hCont (.slice Ao63 t194.length co63, .slice Ao64 t198.length co64, v203, gb206) _ ⟨hHeld, (by (with_reducible repeat (first | apply ra | apply rn | apply rw_)); exact Kd.R_mono HO196.out (fun _ hk => ⟨hk.1.2, hk.2⟩)), (by (with_reducible repeat (first | apply ra | apply rn | apply rw_)); exact Kd.R_mono HO200.out (fun _ hk => ⟨hk.1.2, hk.2⟩)), (by (with_reducible repeat (first | apply ra | apply rn | apply rw_)); exact Kd.R_mono HO204.out (fun _ hk => ⟨hk.1.2, hk.2⟩)), (kz BK189.out), (kz BK190.out), (kz BK206.out), GW206.out, GE206.out, NB189_206.out, NB206_189.out, NB190_206.out, NB206_190.out, (bw HB.out)⟩)
                ·skip
                 refine box_step ?hg (N := 6) ?hd (cs := #[.int .i64 0, .slice none 0 0]) (t := 27) ?hr ?_; (case hd => rfl); (case hg => rfl); (case hr => first | (go_simp; done) | (go_simp; rfl))
                 intro gb206 hg w60 hbox hb
                 have n0_ := bk BK189 hb
                 have n1_ := bk BK190 hb
                 have n2_ := am (below_step (bw HB.out) hb)
                 have n3_ := am (hbox)
                 have n4_ := am ((by rw [hg]; exact (below_size (bw HB.out)) : w.heap.size ≤ gb206))
                 have n5_ := am ((by rw [hg]; exact (below_size (bw HB.out)) : w.heap.size ≤ gb206))
                 have n6_ := am ((by rw [hg]; exact Nat.ne_of_lt (blk_lt (kz BK189.out)) : gb189 ≠ gb206))
                 have n7_ := am ((by rw [hg]; exact Nat.ne_of_gt (blk_lt (kz BK189.out)) : gb206 ≠ gb189))
                 have n8_ := am ((by rw [hg]; exact Nat.ne_of_lt (blk_lt (kz BK190.out)) : gb190 ≠ gb206))
                 have n9_ := am ((by rw [hg]; exact Nat.ne_of_gt (blk_lt (kz BK190.out)) : gb206 ≠ gb190))
                 clear BK189 BK190 HB
                 revert n0_ n1_ n2_ n3_ n4_ n5_ n6_ n7_ n8_ n9_; intro BK189 BK190 HB BK206 GW206 GE206 NB189_206 NB206_189 NB190_206 NB206_190; clear hb hbox hg
                 refine hK.out _ _ ⟨(blk_cell BK189.out 0).trans rfl, (blk_cell BK189.out 1).trans rfl, (blk_cell BK190.out 0).trans rfl, (blk_cell BK190.out 1).trans rfl⟩ (fun hHeld => ?_)
                 clear hK K
                 refine norm_ (a' := ?_) ?_ ?_
                 rotate_left
                 ·show Act.put _ (some 6) _ = _
                  simp only [Act.put, List.setIfInBounds_toArray, List.set_cons_zero, List.set_cons_succ, i64_w, i32_w]
                  rfl
                 refine one_ (i := 1) (N := some 29) (mk 11 263) rfl rfl (one_of HT_.out (by kernel_rfl)) (by decide) (fun K hK => ?_)
                 refine goes_ Try.func16 (by kernel_rfl) rfl #[.agg #[.int .i64 a0_0, .slice A0_1 l0_1.length c0_1]] (by rfl) rfl rfl (by (try simp only [List.map_toArray, List.map_cons, List.map_nil]); first | done | rfl | (simp only [List.length_drop, List.length_take]; rfl)) ?_
                 with_reducible refine (laws_toMatrix.calls k a0_0 _ _ l0_1 t193 t194 _ ?side1 ?side2 A19.out).mono ?_
                 (case side1 => repeat (first | exact (Kd.C_below HR0_1.out HB.out) | (with_reducible refine Kd.C_alloc ?_ _) | (with_reducible refine Kd.C_drewN ?_ _) | (with_reducible refine Kd.C_drew ?_)))
                 (case side2 => exact HC0_1.out)
                 rintro e w61 ⟨v195, rfl, ho0, hb⟩
                 refine ⟨_, rfl, ?_⟩
                 have n0_ := am (Kd.R_lower ho0 (below_size (bw HB.out)))
                 have n1_ := bk BK189 hb
                 have n2_ := bk BK190 hb
                 have n3_ := bk BK206 hb
                 have n4_ := am (below_step (bw HB.out) hb)
                 clear BK189 BK190 BK206 HB
                 revert n0_ n1_ n2_ n3_ n4_; intro HO196 BK189 BK190 BK206 HB
                 (try clear hb)
                 (try clear hb2)
                 (try clear hk)
                 (try clear hi)
                 (try clear ho0)
                 refine hK.out _ _ ⟨(blk_cell BK189.out 0).trans rfl, (blk_cell BK189.out 1).trans rfl, (blk_cell BK190.out 0).trans rfl, (blk_cell BK190.out 1).trans rfl⟩ (fun hHeld => ?_)
                 clear hK K
                 refine norm_ (a' := ?_) ?_ ?_
                 rotate_left
                 ·show Act.put _ (some 29) _ = _
                  simp only [Act.put, List.setIfInBounds_toArray, List.set_cons_zero, List.set_cons_succ, i64_w, i32_w]
                  rfl
                 refine one_ (i := 3) (N := some 31) (mk 11 271) rfl rfl (one_of HT_.out (by kernel_rfl)) (by decide) (fun K hK => ?_)
                 refine goes_ Try.func16 (by kernel_rfl) rfl #[.agg #[.int .i64 a1_0, .slice A1_1 l1_1.length c1_1]] (by rfl) rfl rfl (by (try simp only [List.map_toArray, List.map_cons, List.map_nil]); first | done | rfl | (simp only [List.length_drop, List.length_take]; rfl)) ?_
                 with_reducible refine (laws_toMatrix.calls k a1_0 _ _ l1_1 t197 t198 _ ?side1 ?side2 A20.out).mono ?_
                 (case side1 => repeat (first | exact (Kd.C_below HR1_1.out HB.out) | (with_reducible refine Kd.C_alloc ?_ _) | (with_reducible refine Kd.C_drewN ?_ _) | (with_reducible refine Kd.C_drew ?_)))
                 (case side2 => exact HC1_1.out)
                 rintro e w62 ⟨v199, rfl, ho0, hb⟩
                 refine ⟨_, rfl, ?_⟩
                 have n0_ := el HO196 (Kd.R_base ho0) hb
                 have n1_ := am (Kd.R_lower (Kd.R_new' ho0 (Kd.R_lt (rz HO196.out))) (below_size (bw HB.out)))
                 have n2_ := bk BK189 hb
                 have n3_ := bk BK190 hb
                 have n4_ := bk BK206 hb
                 have n5_ := am (below_step (bw HB.out) hb)
                 clear HO196 BK189 BK190 BK206 HB
                 revert n0_ n1_ n2_ n3_ n4_ n5_; intro HO196 HO200 BK189 BK190 BK206 HB
                 (try clear hb)
                 (try clear hb2)
                 (try clear hk)
                 (try clear hi)
                 (try clear ho0)
                 obtain ⟨Ao63, co63, eo63⟩ := Kd.R_slice HO196.out
                 (first | subst eo63 | (injection eo63 with f1_ f2_ f3_; have f4_ := f1_.symm; have f5_ := f3_.symm; clear f1_ f2_ f3_; subst f4_; subst f5_))
                 obtain ⟨Ao64, co64, eo64⟩ := Kd.R_slice HO200.out
                 (first | subst eo64 | (injection eo64 with f1_ f2_ f3_; have f4_ := f1_.symm; have f5_ := f3_.symm; clear f1_ f2_ f3_; subst f4_; subst f5_))
                 refine hK.out _ _ ⟨(blk_cell BK189.out 0).trans rfl, (blk_cell BK189.out 1).trans rfl, (blk_cell BK190.out 0).trans rfl, (blk_cell BK190.out 1).trans rfl⟩ (fun hHeld => ?_)
                 clear hK K
                 refine norm_ (a' := ?_) ?_ ?_
                 rotate_left
                 ·show Act.put _ (some 31) _ = _
                  simp only [Act.put, List.setIfInBounds_toArray, List.set_cons_zero, List.set_cons_succ, i64_w, i32_w]
                  rfl
                 refine one_ (i := 4) (N := some 32) (mk 11 287) rfl rfl (one_of HT_.out (by kernel_rfl)) (by decide) (fun K hK => ?_)
                 refine goes_ Try.func27 (by kernel_rfl) rfl #[.agg #[.int .i64 t193, .slice Ao63 t194.length co63], .agg #[.int .i64 t197, .slice Ao64 t198.length co64]] (by rfl) rfl rfl (by (try simp only [List.map_toArray, List.map_cons, List.map_nil]); first | done | rfl | (simp only [List.length_drop, List.length_take]; rfl)) ?_
                 with_reducible refine (spec_MulMatrix.calls k t193 _ _ t194 t197 _ _ t198 t201 t202 t205 _ ?side1 ?side2 ?side3 ?side4 A21.out).mono ?_
                 (case side1 => repeat (first | exact (Kd.R_reads' HO196.out).2.2 | (with_reducible refine Kd.C_alloc ?_ _) | (with_reducible refine Kd.C_drewN ?_ _) | (with_reducible refine Kd.C_drew ?_)))
                 (case side2 => exact (Kd.R_reads' HO196.out).2.1)
                 (case side3 => repeat (first | exact (Kd.R_reads' HO200.out).2.2 | (with_reducible refine Kd.C_alloc ?_ _) | (with_reducible refine Kd.C_drewN ?_ _) | (with_reducible refine Kd.C_drew ?_)))
                 (case side4 => exact (Kd.R_reads' HO200.out).2.1)
                 rintro e w65 ⟨v203, rfl, ho0, hb⟩
                 refine ⟨_, rfl, ?_⟩
                 have n0_ := el HO196 (Kd.R_base ho0) hb
                 have n1_ := el HO200 (Kd.R_base ho0) hb
                 have n2_ := am (Kd.R_lower (Kd.R_new' (Kd.R_new' ho0 (Kd.R_lt (rz HO196.out))) (Kd.R_lt (rz HO200.out))) (below_size (bw HB.out)))
                 have n3_ := bk BK189 hb
                 have n4_ := bk BK190 hb
                 have n5_ := bk BK206 hb
                 have n6_ := am (below_step (bw HB.out) hb)
                 clear HO196 HO200 BK189 BK190 BK206 HB
                 revert n0_ n1_ n2_ n3_ n4_ n5_ n6_; intro HO196 HO200 HO204 BK189 BK190 BK206 HB
                 (try clear hb)
                 (try clear hb2)
                 (try clear hk)
                 (try clear hi)
                 (try clear ho0)
                 refine hK.out _ _ ⟨(blk_cell BK189.out 0).trans rfl, (blk_cell BK189.out 1).trans rfl, (blk_cell BK190.out 0).trans rfl, (blk_cell BK190.out 1).trans rfl⟩ (fun hHeld => ?_)
                 clear hK K
                 refine norm_ (a' := ?_) ?_ ?_
                 rotate_left
                 ·show Act.put _ (some 32) _ = _
                  simp only [Act.put, List.setIfInBounds_toArray, List.set_cons_zero, List.set_cons_succ, i64_w, i32_w]
                  rfl
                 refine pv 5 27 11 319 HT_ ?_
                 refine pv 6 33 11 383 HT_ ?_
                 refine pv 7 34 11 511 HT_ ?_
                 exact norm_ (by simp only [putAll, Act.put, List.setIfInBounds_toArray, List.set_cons_zero, List.set_cons_succ]) (hCont (.slice Ao63 t194.length co63, .slice Ao64 t198.length co64, v203, gb206) _ ⟨hHeld, (by (with_reducible repeat (first | apply ra | apply rn | apply rw_)); exact Kd.R_mono HO196.out (fun _ hk => ⟨hk.1.2, hk.2⟩)), (by (with_reducible repeat (first | apply ra | apply rn | apply rw_)); exact Kd.R_mono HO200.out (fun _ hk => ⟨hk.1.2, hk.2⟩)), (by (with_reducible repeat (first | apply ra | apply rn | apply rw_)); exact Kd.R_mono HO204.out (fun _ hk => ⟨hk.1.2, hk.2⟩)), (kz BK189.out), (kz BK190.out), (kz BK206.out), GW206.out, GE206.out, NB189_206.out, NB206_189.out, NB190_206.out, NB206_190.out, (bw HB.out)⟩)
               rintro ⟨v195, v199, v203, gb206⟩ w66 ⟨hS_, h0_, h1_, h2_, h3_, h4_, h5_, h6_, h7_, h8_, h9_, h10_, h11_, h12_⟩
               have n0_ : Aside0 (Kd.R (Kd.int .i64) 3 w66 w.heap.size (fun k_ => some k_ ≠ (v199 : Value).ownBlock ∧ some k_ ≠ (v203 : Value).ownBlock) v195 t194) := ⟨h0_⟩
               have n1_ : Aside0 (Kd.R (Kd.int .i64) 3 w66 w.heap.size (fun k_ => some k_ ≠ (v195 : Value).ownBlock ∧ some k_ ≠ (v203 : Value).ownBlock) v199 t198) := ⟨h1_⟩
               have n2_ : Aside0 (Kd.R (Kd.int .i64) 3 w66 w.heap.size (fun k_ => some k_ ≠ (v195 : Value).ownBlock ∧ some k_ ≠ (v199 : Value).ownBlock) v203 t202) := ⟨h2_⟩
               have n3_ : Aside0 (w66.heap[gb189]? = some (.cells #[.int .i64 a0_0, .slice A0_1 l0_1.length c0_1] 24 (0, 0))) := ⟨h3_⟩
               have n4_ : Aside0 (w66.heap[gb190]? = some (.cells #[.int .i64 a1_0, .slice A1_1 l1_1.length c1_1] 24 (0, 0))) := ⟨h4_⟩
               have n5_ : Aside0 (w66.heap[gb206]? = some (.cells #[.int .i64 0, .slice none 0 0] 27 (0, 0))) := ⟨h5_⟩
               have n6_ : Aside0 (w.heap.size ≤ gb206) := ⟨h6_⟩
               have n7_ : Aside0 (w.heap.size ≤ gb206) := ⟨h7_⟩
               have n8_ : Aside0 (gb189 ≠ gb206) := ⟨h8_⟩
               have n9_ : Aside0 (gb206 ≠ gb189) := ⟨h9_⟩
               have n10_ : Aside0 (gb190 ≠ gb206) := ⟨h10_⟩
               have n11_ : Aside0 (gb206 ≠ gb190) := ⟨h11_⟩
               have n12_ : Aside0 (Below w.heap.size w w66) := ⟨h12_⟩
               clear BK189 BK190 HB h0_ h1_ h2_ h3_ h4_ h5_ h6_ h7_ h8_ h9_ h10_ h11_ h12_
               revert n0_ n1_ n2_ n3_ n4_ n5_ n6_ n7_ n8_ n9_ n10_ n11_ n12_; intro HO196 HO200 HO204 BK189 BK190 BK206 GW206 GE206 NB189_206 NB206_189 NB190_206 NB206_190 HB
               have hHeld : w66.cell? ⟨gb189, 0, none⟩ = some (.int .i64 a0_0) ∧ w66.cell? ⟨gb189, 1, none⟩ = some (.slice A0_1 l0_1.length c0_1) ∧ w66.cell? ⟨gb190, 0, none⟩ = some (.int .i64 a1_0) ∧ w66.cell? ⟨gb190, 1, none⟩ = some (.slice A1_1 l1_1.length c1_1) := hS_
               obtain ⟨Ao68, co68, eo68⟩ := Kd.R_slice HO204.out
               (first | subst eo68 | (injection eo68 with f1_ f2_ f3_; have f4_ := f1_.symm; have f5_ := f3_.symm; clear f1_ f2_ f3_; subst f4_; subst f5_))
               refine norm_ (a' := ?_) ?_ ?_
               rotate_left
               ·simp only [putAll, Act.put, List.setIfInBounds_toArray, List.set_cons_zero, List.set_cons_succ]
                rfl
               refine one_ (i := 9) (N := none) (mk 11 1023) rfl rfl (one_of HT_.out (by kernel_rfl)) (by decide) (fun K hK => ?_)
               have hs67 : w66.cell? ⟨gb206, 0, none⟩ = some (.int .i64 0) := (blk_cell BK206.out 0).trans rfl
               have hfs67 := blk_frozen BK206.out 0
               have hns67_0 := NB189_206.out
               have hns67_1 := NB190_206.out
               have hms67_0 := NB206_189.out
               have hms67_1 := NB206_190.out
               have hs69 : w66.cell? ⟨gb206, 1, none⟩ = some (.slice none 0 0) := (blk_cell BK206.out 1).trans rfl
               have hfs69 := blk_frozen BK206.out 1
               have hns69_0 := NB189_206.out
               have hns69_1 := NB190_206.out
               have hms69_0 := NB206_189.out
               have hms69_1 := NB206_190.out
               refine skip_ (w1 := ?_) (by rfl) rfl ?_ ?_
               rotate_left
               ·go_simp
                rfl
               refine hK.out _ _ ⟨((cell_far (p := ⟨gb206, _, none⟩) NB189_206.out _).trans (((cell_far (p := ⟨gb206, _, none⟩) NB189_206.out _).trans (hHeld.1)))), ((cell_far (p := ⟨gb206, _, none⟩) NB189_206.out _).trans (((cell_far (p := ⟨gb206, _, none⟩) NB189_206.out _).trans (hHeld.2.1)))), ((cell_far (p := ⟨gb206, _, none⟩) NB190_206.out _).trans (((cell_far (p := ⟨gb206, _, none⟩) NB190_206.out _).trans (hHeld.2.2.1)))), ((cell_far (p := ⟨gb206, _, none⟩) NB190_206.out _).trans (((cell_far (p := ⟨gb206, _, none⟩) NB190_206.out _).trans (hHeld.2.2.2))))⟩ (fun hHeld => ?_)
               clear hK K
               refine pv 10 7 11 2047 HT_ ?_
               refine done_ (done_of HT_.out (by kernel_rfl)) ?_
               have hnb70 := NB189_206.out
               have hnc70 := NB206_189.out
               have hcz71_0 := cz20 BK189.out
               have hcz71_1 := cz21 BK189.out
               have hfz71_0 := blk_frozen BK189.out 0
               have hfz71_1 := blk_frozen BK189.out 1
               try go_wp2_with (first | ((with_reducible refine gate_callee (f := 16) rfl ?_); refine goesL_ (some 36) rfl rfl Try.func16 (by kernel_rfl) rfl #[.agg #[.int .i64 a0_0, .slice A0_1 l0_1.length c0_1]] rfl (by (try simp only [List.map_toArray, List.map_cons, List.map_nil]); first | done | rfl | (simp only [List.length_drop, List.length_take]; rfl)) ?_; (with_reducible refine (laws_toMatrix.calls k a0_0 _ _ l0_1 t207 t208 _ ?side1 ?side2 A22.out).mono ?_); (case side1 => exact Kd.C_below HR0_1.out (bw HB.out)); (case side2 => exact HC0_1.out); rintro e w72 ⟨v209, rfl, ho0, hb⟩; refine ⟨_, rfl, ?_⟩; have n0_ := am (Kd.R_elder' (r2z HO196 BK206 (by decide)) (Kd.R_base ho0) hb); have n1_ := am (Kd.R_elder' (r2z HO200 BK206 (by decide)) (Kd.R_base ho0) hb); have n2_ := am (Kd.R_elder' (r2z HO204 BK206 (by decide)) (Kd.R_base ho0) hb); have n3_ := am (Kd.R_lower (Kd.R_new' (Kd.R_new' (Kd.R_new' ho0 (Kd.R_lt (r2z HO196 BK206 (by decide)))) (Kd.R_lt (r2z HO200 BK206 (by decide)))) (Kd.R_lt (r2z HO204 BK206 (by decide)))) (below_size (bw HB.out))); have n4_ := am (blk_below (kf BK189.out) hb); have n5_ := am (blk_below (kf BK190.out) hb); have n6_ := am (blk_below (g := gb206) (o := .cells #[.int .i64 t201, .slice Ao68 t202.length co68] 27 (0, 0)) (by (with_reducible repeat (first | refine kn ?_ _ | refine kd ?_ | refine ka ?_ _)); refine blk_put (cs := #[.int .i64 t201, .slice none 0 0]) ?_ 1 _ rfl; (with_reducible repeat (first | refine kn ?_ _ | refine kd ?_ | refine ka ?_ _)); refine blk_put (cs := #[.int .i64 0, .slice none 0 0]) ?_ 0 _ rfl; (with_reducible repeat (first | refine kn ?_ _ | refine kd ?_ | refine ka ?_ _)); exact BK206.out) hb); have n7_ := am (below_step (bw HB.out) hb); clear HO196 HO200 HO204 BK189 BK190 BK206 HB; revert n0_ n1_ n2_ n3_ n4_ n5_ n6_ n7_; intro HO196 HO200 HO204 HO210 BK189 BK190 BK206 HB; (try clear hb); (try clear hb2); (try clear hk); (try clear hi); (try clear ho0)) | ((with_reducible refine gate_dst (N := 8) rfl ?_); refine box_event ?hg (N := 8) ?hd (cs := #[.int .i64 0, .slice none 0 0]) (t := 27) ?hr ?_; (case hd => rfl); (case hg => rfl); (case hr => first | (go_simp; done) | (go_simp; rfl)); intro gb211 hg w73 hbox hb; have n0_ := am (Kd.R_below (rz HO196.out) hb); have n1_ := am (Kd.R_below (rz HO200.out) hb); have n2_ := am (Kd.R_below (rz HO204.out) hb); have n3_ := am (Kd.R_below (rz HO210.out) hb); have n4_ := bk BK189 hb; have n5_ := bk BK190 hb; have n6_ := bk BK206 hb; have n7_ := am (below_step (bw HB.out) hb); have n8_ := am (hbox); have n9_ := am ((by rw [hg]; exact (below_size (bw HB.out)) : w.heap.size ≤ gb211)); have n10_ := am ((by rw [hg]; exact (below_size (bw HB.out)) : w.heap.size ≤ gb211)); have n11_ := am ((by rw [hg]; exact Nat.ne_of_lt (blk_lt (kz BK189.out)) : gb189 ≠ gb211)); have n12_ := am ((by rw [hg]; exact Nat.ne_of_gt (blk_lt (kz BK189.out)) : gb211 ≠ gb189)); have n13_ := am ((by rw [hg]; exact Nat.ne_of_lt (blk_lt (kz BK190.out)) : gb190 ≠ gb211)); have n14_ := am ((by rw [hg]; exact Nat.ne_of_gt (blk_lt (kz BK190.out)) : gb211 ≠ gb190)); have n15_ := am ((by rw [hg]; exact Nat.ne_of_lt (blk_lt (kz BK206.out)) : gb206 ≠ gb211)); have n16_ := am ((by rw [hg]; exact Nat.ne_of_gt (blk_lt (kz BK206.out)) : gb211 ≠ gb206)); clear HO196 HO200 HO204 HO210 BK189 BK190 BK206 HB; revert n0_ n1_ n2_ n3_ n4_ n5_ n6_ n7_ n8_ n9_ n10_ n11_ n12_ n13_ n14_ n15_ n16_; intro HO196 HO200 HO204 HO210 BK189 BK190 BK206 HB BK211 GW211 GE211 NB189_211 NB211_189 NB190_211 NB211_190 NB206_211 NB211_206; clear hb hbox hg; have hnb74 := NB211_189.out; have hnc74 := NB189_211.out; have hnb75 := NB211_190.out; have hnc75 := NB190_211.out; have hnb76 := NB211_206.out; have hnc76 := NB206_211.out; have hcz77_0 := cz20 BK211.out; have hcz77_1 := cz21 BK211.out; have hfz77_0 := blk_frozen BK211.out 0; have hfz77_1 := blk_frozen BK211.out 1; obtain ⟨Ao78, co78, eo78⟩ := Kd.R_slice HO210.out; subst eo78; have hnb79 := NB190_206.out; have hnc79 := NB206_190.out; have hcz80_0 := cz20 BK190.out; have hcz80_1 := cz21 BK190.out; have hfz80_0 := blk_frozen BK190.out 0; have hfz80_1 := blk_frozen BK190.out 1) | ((with_reducible refine gate_callee (f := 16) rfl ?_); refine goesL_ (some 38) rfl rfl Try.func16 (by kernel_rfl) rfl #[.agg #[.int .i64 a1_0, .slice A1_1 l1_1.length c1_1]] rfl (by (try simp only [List.map_toArray, List.map_cons, List.map_nil]); first | done | rfl | (simp only [List.length_drop, List.length_take]; rfl)) ?_; (with_reducible refine (laws_toMatrix.calls k a1_0 _ _ l1_1 t212 t213 _ ?side1 ?side2 A23.out).mono ?_); (case side1 => exact Kd.C_below HR1_1.out (bw HB.out)); (case side2 => exact HC1_1.out); rintro e w81 ⟨v214, rfl, ho0, hb⟩; refine ⟨_, rfl, ?_⟩; have n0_ := am (Kd.R_elder' (r2z HO196 BK211 (by decide)) (Kd.R_base ho0) hb); have n1_ := am (Kd.R_elder' (r2z HO200 BK211 (by decide)) (Kd.R_base ho0) hb); have n2_ := am (Kd.R_elder' (r2z HO204 BK211 (by decide)) (Kd.R_base ho0) hb); have n3_ := am (Kd.R_elder' (r2z HO210 BK211 (by decide)) (Kd.R_base ho0) hb); have n4_ := am (Kd.R_lower (Kd.R_new' (Kd.R_new' (Kd.R_new' (Kd.R_new' ho0 (Kd.R_lt (r2z HO196 BK211 (by decide)))) (Kd.R_lt (r2z HO200 BK211 (by decide)))) (Kd.R_lt (r2z HO204 BK211 (by decide)))) (Kd.R_lt (r2z HO210 BK211 (by decide)))) (below_size (bw HB.out))); have n5_ := am (blk_below (kf BK189.out) hb); have n6_ := am (blk_below (kf BK190.out) hb); have n7_ := am (blk_below (kf BK206.out) hb); have n8_ := am (blk_below (g := gb211) (o := .cells #[.int .i64 t207, .slice Ao78 t208.length co78] 27 (0, 0)) (by (with_reducible repeat (first | refine kn ?_ _ | refine kd ?_ | refine ka ?_ _)); refine blk_put (cs := #[.int .i64 t207, .slice none 0 0]) ?_ 1 _ rfl; (with_reducible repeat (first | refine kn ?_ _ | refine kd ?_ | refine ka ?_ _)); refine blk_put (cs := #[.int .i64 0, .slice none 0 0]) ?_ 0 _ rfl; (with_reducible repeat (first | refine kn ?_ _ | refine kd ?_ | refine ka ?_ _)); exact BK211.out) hb); have n9_ := am (below_step (bw HB.out) hb); clear HO196 HO200 HO204 HO210 BK189 BK190 BK206 BK211 HB; revert n0_ n1_ n2_ n3_ n4_ n5_ n6_ n7_ n8_ n9_; intro HO196 HO200 HO204 HO210 HO215 BK189 BK190 BK206 BK211 HB; (try clear hb); (try clear hb2); (try clear hk); (try clear hi); (try clear ho0)) | ((with_reducible refine gate_dst (N := 9) rfl ?_); refine box_event ?hg (N := 9) ?hd (cs := #[.int .i64 0, .slice none 0 0]) (t := 27) ?hr ?_; (case hd => rfl); (case hg => rfl); (case hr => first | (go_simp; done) | (go_simp; rfl)); intro gb216 hg w82 hbox hb; have n0_ := am (Kd.R_below (rz HO196.out) hb); have n1_ := am (Kd.R_below (rz HO200.out) hb); have n2_ := am (Kd.R_below (rz HO204.out) hb); have n3_ := am (Kd.R_below (rz HO210.out) hb); have n4_ := am (Kd.R_below (rz HO215.out) hb); have n5_ := bk BK189 hb; have n6_ := bk BK190 hb; have n7_ := bk BK206 hb; have n8_ := bk BK211 hb; have n9_ := am (below_step (bw HB.out) hb); have n10_ := am (hbox); have n11_ := am ((by rw [hg]; exact (below_size (bw HB.out)) : w.heap.size ≤ gb216)); have n12_ := am ((by rw [hg]; exact (below_size (bw HB.out)) : w.heap.size ≤ gb216)); have n13_ := am ((by rw [hg]; exact Nat.ne_of_lt (blk_lt (kz BK189.out)) : gb189 ≠ gb216)); have n14_ := am ((by rw [hg]; exact Nat.ne_of_gt (blk_lt (kz BK189.out)) : gb216 ≠ gb189)); have n15_ := am ((by rw [hg]; exact Nat.ne_of_lt (blk_lt (kz BK190.out)) : gb190 ≠ gb216)); have n16_ := am ((by rw [hg]; exact Nat.ne_of_gt (blk_lt (kz BK190.out)) : gb216 ≠ gb190)); have n17_ := am ((by rw [hg]; exact Nat.ne_of_lt (blk_lt (kz BK206.out)) : gb206 ≠ gb216)); have n18_ := am ((by rw [hg]; exact Nat.ne_of_gt (blk_lt (kz BK206.out)) : gb216 ≠ gb206)); have n19_ := am ((by rw [hg]; exact Nat.ne_of_lt (blk_lt (kz BK211.out)) : gb211 ≠ gb216)); have n20_ := am ((by rw [hg]; exact Nat.ne_of_gt (blk_lt (kz BK211.out)) : gb216 ≠ gb211)); clear HO196 HO200 HO204 HO210 HO215 BK189 BK190 BK206 BK211 HB; revert n0_ n1_ n2_ n3_ n4_ n5_ n6_ n7_ n8_ n9_ n10_ n11_ n12_ n13_ n14_ n15_ n16_ n17_ n18_ n19_ n20_; intro HO196 HO200 HO204 HO210 HO215 BK189 BK190 BK206 BK211 HB BK216 GW216 GE216 NB189_216 NB216_189 NB190_216 NB216_190 NB206_216 NB216_206 NB211_216 NB216_211; clear hb hbox hg; have hnb83 := NB216_189.out; have hnc83 := NB189_216.out; have hnb84 := NB216_190.out; have hnc84 := NB190_216.out; have hnb85 := NB216_206.out; have hnc85 := NB206_216.out; have hnb86 := NB216_211.out; have hnc86 := NB211_216.out; have hcz87_0 := cz20 BK216.out; have hcz87_1 := cz21 BK216.out; have hfz87_0 := blk_frozen BK216.out 0; have hfz87_1 := blk_frozen BK216.out 1; obtain ⟨Ao88, co88, eo88⟩ := Kd.R_slice HO215.out; subst eo88; have hcz89_0 := cz20 BK211.out; have hcz89_1 := cz21 BK211.out; have hfz89_0 := blk_frozen BK211.out 0; have hfz89_1 := blk_frozen BK211.out 1) | ((with_reducible refine gate_callee (f := 28) rfl ?_); refine goesL_ (some 42) rfl rfl Try.func28 (by kernel_rfl) rfl #[.agg #[.int .i64 t207, .slice Ao78 t208.length co78], .agg #[.int .i64 t212, .slice Ao88 t213.length co88]] rfl (by (try simp only [List.map_toArray, List.map_cons, List.map_nil]); first | done | rfl | (simp only [List.length_drop, List.length_take]; rfl)) ?_; (with_reducible refine (impl_MulMatrix.calls k t207 _ _ t208 t212 _ _ t213 t217 t218 t221 _ ?side1 ?side2 ?side3 ?side4 A24.out).mono ?_); (case side1 => refine (Kd.R_reads' (e := 3) (base := w.heap.size) (ok := fun k_ => ((((True ∧ some k_ ≠ (v195 : Value).ownBlock) ∧ some k_ ≠ (v199 : Value).ownBlock) ∧ NS Ao68 t202 co68 k_) ∧ NS Ao88 t213 co88 k_)) (n := t208.length) (c := co78) ?_).2.2; exact (r2z HO210 BK216 (by decide))); (case side2 => exact (Kd.R_reads' HO210.out).2.1); (case side3 => refine (Kd.R_reads' (e := 3) (base := w.heap.size) (ok := fun k_ => ((((True ∧ some k_ ≠ (v195 : Value).ownBlock) ∧ some k_ ≠ (v199 : Value).ownBlock) ∧ NS Ao68 t202 co68 k_) ∧ NS Ao78 t208 co78 k_)) (n := t213.length) (c := co88) ?_).2.2; exact (r2z HO215 BK216 (by decide))); (case side4 => exact (Kd.R_reads' HO215.out).2.1); rintro e w90 ⟨v219, rfl, ho0, hb⟩; refine ⟨_, rfl, ?_⟩; have n0_ := am (Kd.R_elder' (r2z HO196 BK216 (by decide)) (Kd.R_base ho0) hb); have n1_ := am (Kd.R_elder' (r2z HO200 BK216 (by decide)) (Kd.R_base ho0) hb); have n2_ := am (Kd.R_elder' (r2z HO204 BK216 (by decide)) (Kd.R_base ho0) hb); have n3_ := am (Kd.R_elder' (r2z HO210 BK216 (by decide)) (Kd.R_base ho0) hb); have n4_ := am (Kd.R_elder' (r2z HO215 BK216 (by decide)) (Kd.R_base ho0) hb); have n5_ := am (Kd.R_lower (Kd.R_new' (Kd.R_new' (Kd.R_new' (Kd.R_new' (Kd.R_new' ho0 (Kd.R_lt (r2z HO196 BK216 (by decide)))) (Kd.R_lt (r2z HO200 BK216 (by decide)))) (Kd.R_lt (r2z HO204 BK216 (by decide)))) (Kd.R_lt (r2z HO210 BK216 (by decide)))) (Kd.R_lt (r2z HO215 BK216 (by decide)))) (below_size (bw HB.out))); have n6_ := am (blk_below (kf BK189.out) hb); have n7_ := am (blk_below (kf BK190.out) hb); have n8_ := am (blk_below (kf BK206.out) hb); have n9_ := am (blk_below (kf BK211.out) hb); have n10_ := am (blk_below (g := gb216) (o := .cells #[.int .i64 t212, .slice Ao88 t213.length co88] 27 (0, 0)) (by (with_reducible repeat (first | refine kn ?_ _ | refine kd ?_ | refine ka ?_ _)); refine blk_put (cs := #[.int .i64 t212, .slice none 0 0]) ?_ 1 _ rfl; (with_reducible repeat (first | refine kn ?_ _ | refine kd ?_ | refine ka ?_ _)); refine blk_put (cs := #[.int .i64 0, .slice none 0 0]) ?_ 0 _ rfl; (with_reducible repeat (first | refine kn ?_ _ | refine kd ?_ | refine ka ?_ _)); exact BK216.out) hb); have n11_ := am (below_step (bw HB.out) hb); clear HO196 HO200 HO204 HO210 HO215 BK189 BK190 BK206 BK211 BK216 HB; revert n0_ n1_ n2_ n3_ n4_ n5_ n6_ n7_ n8_ n9_ n10_ n11_; intro HO196 HO200 HO204 HO210 HO215 HO220 BK189 BK190 BK206 BK211 BK216 HB; (try clear hb); (try clear hb2); (try clear hk); (try clear hi); (try clear ho0)) | ((with_reducible refine gate_dst (N := 10) rfl ?_); refine box_event ?hg (N := 10) ?hd (cs := #[.int .i64 0, .slice none 0 0]) (t := 27) ?hr ?_; (case hd => rfl); (case hg => rfl); (case hr => first | (go_simp; done) | (go_simp; rfl)); intro gb222 hg w91 hbox hb; have n0_ := am (Kd.R_below (rz HO196.out) hb); have n1_ := am (Kd.R_below (rz HO200.out) hb); have n2_ := am (Kd.R_below (rz HO204.out) hb); have n3_ := am (Kd.R_below (rz HO210.out) hb); have n4_ := am (Kd.R_below (rz HO215.out) hb); have n5_ := am (Kd.R_below (rz HO220.out) hb); have n6_ := bk BK189 hb; have n7_ := bk BK190 hb; have n8_ := bk BK206 hb; have n9_ := bk BK211 hb; have n10_ := bk BK216 hb; have n11_ := am (below_step (bw HB.out) hb); have n12_ := am (hbox); have n13_ := am ((by rw [hg]; exact (below_size (bw HB.out)) : w.heap.size ≤ gb222)); have n14_ := am ((by rw [hg]; exact (below_size (bw HB.out)) : w.heap.size ≤ gb222)); have n15_ := am ((by rw [hg]; exact Nat.ne_of_lt (blk_lt (kz BK189.out)) : gb189 ≠ gb222)); have n16_ := am ((by rw [hg]; exact Nat.ne_of_gt (blk_lt (kz BK189.out)) : gb222 ≠ gb189)); have n17_ := am ((by rw [hg]; exact Nat.ne_of_lt (blk_lt (kz BK190.out)) : gb190 ≠ gb222)); have n18_ := am ((by rw [hg]; exact Nat.ne_of_gt (blk_lt (kz BK190.out)) : gb222 ≠ gb190)); have n19_ := am ((by rw [hg]; exact Nat.ne_of_lt (blk_lt (kz BK206.out)) : gb206 ≠ gb222)); have n20_ := am ((by rw [hg]; exact Nat.ne_of_gt (blk_lt (kz BK206.out)) : gb222 ≠ gb206)); have n21_ := am ((by rw [hg]; exact Nat.ne_of_lt (blk_lt (kz BK211.out)) : gb211 ≠ gb222)); have n22_ := am ((by rw [hg]; exact Nat.ne_of_gt (blk_lt (kz BK211.out)) : gb222 ≠ gb211)); have n23_ := am ((by rw [hg]; exact Nat.ne_of_lt (blk_lt (kz BK216.out)) : gb216 ≠ gb222)); have n24_ := am ((by rw [hg]; exact Nat.ne_of_gt (blk_lt (kz BK216.out)) : gb222 ≠ gb216)); clear HO196 HO200 HO204 HO210 HO215 HO220 BK189 BK190 BK206 BK211 BK216 HB; revert n0_ n1_ n2_ n3_ n4_ n5_ n6_ n7_ n8_ n9_ n10_ n11_ n12_ n13_ n14_ n15_ n16_ n17_ n18_ n19_ n20_ n21_ n22_ n23_ n24_; intro HO196 HO200 HO204 HO210 HO215 HO220 BK189 BK190 BK206 BK211 BK216 HB BK222 GW222 GE222 NB189_222 NB222_189 NB190_222 NB222_190 NB206_222 NB222_206 NB211_222 NB222_211 NB216_222 NB222_216; clear hb hbox hg; have hnb92 := NB222_189.out; have hnc92 := NB189_222.out; have hnb93 := NB222_190.out; have hnc93 := NB190_222.out; have hnb94 := NB222_206.out; have hnc94 := NB206_222.out; have hnb95 := NB222_211.out; have hnc95 := NB211_222.out; have hnb96 := NB222_216.out; have hnc96 := NB216_222.out; have hcz97_0 := cz20 BK222.out; have hcz97_1 := cz21 BK222.out; have hfz97_0 := blk_frozen BK222.out 0; have hfz97_1 := blk_frozen BK222.out 1; obtain ⟨Ao98, co98, eo98⟩ := Kd.R_slice HO220.out; subst eo98; have hcz99_0 : w91.cell? ⟨gb206, 0, none⟩ = some (.int .i64 t201) := (blk_cell BK206.out 0).trans rfl; have hcz99_1 : w91.cell? ⟨gb206, 1, none⟩ = some (.slice Ao68 t202.length co68) := (blk_cell BK206.out 1).trans rfl; have hfz99_0 := blk_frozen BK206.out 0; have hfz99_1 := blk_frozen BK206.out 1) | ((with_reducible refine gate_callee (f := 18) rfl ?_); refine goesL_ (some 47) rfl rfl Try.func18 (by kernel_rfl) rfl #[.agg #[.int .i64 t217, .slice Ao98 t218.length co98], .agg #[.int .i64 t201, .slice Ao68 t202.length co68]] rfl (by (try simp only [List.map_toArray, List.map_cons, List.map_nil]); first | done | rfl | (simp only [List.length_drop, List.length_take]; rfl)) ?_; (with_reducible refine (laws_eqMatrix.calls k t217 _ _ t218 t201 _ _ t202 true _ ?side1 ?side2 ?side3 ?side4 A25.out).mono ?_); (case side1 => refine (Kd.R_reads' (e := 3) (base := w.heap.size) (ok := fun k_ => (((((True ∧ some k_ ≠ (v195 : Value).ownBlock) ∧ some k_ ≠ (v199 : Value).ownBlock) ∧ NS Ao68 t202 co68 k_) ∧ NS Ao78 t208 co78 k_) ∧ NS Ao88 t213 co88 k_)) (n := t218.length) (c := co98) ?_).2.2; exact (r2z HO220 BK222 (by decide))); (case side2 => exact (Kd.R_reads' HO220.out).2.1); (case side3 => refine (Kd.R_reads' (e := 3) (base := w.heap.size) (ok := fun k_ => ((((some k_ ≠ (v195 : Value).ownBlock ∧ some k_ ≠ (v199 : Value).ownBlock) ∧ NS Ao78 t208 co78 k_) ∧ NS Ao88 t213 co88 k_) ∧ NS Ao98 t218 co98 k_)) (n := t202.length) (c := co68) ?_).2.2; exact (r2z HO204 BK222 (by decide))); (case side4 => exact (Kd.R_reads' HO204.out).2.1); rintro e w100 ⟨rfl, hb⟩; refine ⟨_, rfl, ?_⟩; have n0_ := am (Kd.R_below (r2z HO196 BK222 (by decide)) hb); have n1_ := am (Kd.R_below (r2z HO200 BK222 (by decide)) hb); have n2_ := am (Kd.R_below (r2z HO204 BK222 (by decide)) hb); have n3_ := am (Kd.R_below (r2z HO210 BK222 (by decide)) hb); have n4_ := am (Kd.R_below (r2z HO215 BK222 (by decide)) hb); have n5_ := am (Kd.R_below (r2z HO220 BK222 (by decide)) hb); have n6_ := am (blk_below (kf BK189.out) hb); have n7_ := am (blk_below (kf BK190.out) hb); have n8_ := am (blk_below (kf BK206.out) hb); have n9_ := am (blk_below (kf BK211.out) hb); have n10_ := am (blk_below (kf BK216.out) hb); have n11_ := am (blk_below (g := gb222) (o := .cells #[.int .i64 t217, .slice Ao98 t218.length co98] 27 (0, 0)) (by (with_reducible repeat (first | refine kn ?_ _ | refine kd ?_ | refine ka ?_ _)); refine blk_put (cs := #[.int .i64 t217, .slice none 0 0]) ?_ 1 _ rfl; (with_reducible repeat (first | refine kn ?_ _ | refine kd ?_ | refine ka ?_ _)); refine blk_put (cs := #[.int .i64 0, .slice none 0 0]) ?_ 0 _ rfl; (with_reducible repeat (first | refine kn ?_ _ | refine kd ?_ | refine ka ?_ _)); exact BK222.out) hb); have n12_ := am (below_step (bw HB.out) hb); clear HO196 HO200 HO204 HO210 HO215 HO220 BK189 BK190 BK206 BK211 BK216 BK222 HB; revert n0_ n1_ n2_ n3_ n4_ n5_ n6_ n7_ n8_ n9_ n10_ n11_ n12_; intro HO196 HO200 HO204 HO210 HO215 HO220 BK189 BK190 BK206 BK211 BK216 BK222 HB; (try clear hb); (try clear hb2); (try clear hk); (try clear hi)))
               have n0_ := am (Kd.R_drew HO196.out)
               have n1_ := am (Kd.R_drew HO200.out)
               have n2_ := am (Kd.R_drew HO204.out)
               have n3_ := am (Kd.R_drew HO210.out)
               have n4_ := am (Kd.R_drew HO215.out)
               have n5_ := am (Kd.R_drew HO220.out)
               have n6_ := am (blk_drew BK189.out)
               have n7_ := am (blk_drew BK190.out)
               have n8_ := am (blk_drew BK206.out)
               have n9_ := am (blk_drew BK211.out)
               have n10_ := am (blk_drew BK216.out)
               have n11_ := am (blk_drew BK222.out)
               have n12_ := am (below_drew1 HB.out)
               clear HO196 HO200 HO204 HO210 HO215 HO220 BK189 BK190 BK206 BK211 BK216 BK222 HB
               revert n0_ n1_ n2_ n3_ n4_ n5_ n6_ n7_ n8_ n9_ n10_ n11_ n12_; intro HO196 HO200 HO204 HO210 HO215 HO220 BK189 BK190 BK206 BK211 BK216 BK222 HB
               refine start_ (n := 5) (S := fun w' => w'.cell? ⟨gb211, 0, none⟩ = some (.int .i64 t207) ∧ w'.cell? ⟨gb211, 1, none⟩ = some (.slice Ao78 t208.length co78) ∧ w'.cell? ⟨gb189, 0, none⟩ = some (.int .i64 a0_0) ∧ w'.cell? ⟨gb189, 1, none⟩ = some (.slice A0_1 l0_1.length c0_1)) (ds := []) #[false, false, false, false, false] (by kernel_rfl) rfl rfl ⟨(blk_cell BK211.out 0).trans rfl, (blk_cell BK211.out 1).trans rfl, (blk_cell BK189.out 0).trans rfl, (blk_cell BK189.out 1).trans rfl⟩ (fun hHeld => ?_)
               generalize w100.drew = w101 at HO196 HO200 HO204 HO210 HO215 HO220 BK189 BK190 BK206 BK211 BK216 BK222 HB hHeld ⊢
               refine take_ (i := 0) (N := some 54) (v := ?_) (a' := ?_) #[true, false, false, false, false] rfl rfl (by kernel_rfl) (fun _ _ _ h => h) (Or.inl ⟨by rfl, ?_⟩) hHeld ?_ ?_
               rotate_left
               ·rintro w' ⟨s0, s1, s2, s3⟩
                go_simp
                with_reducible rfl
               rotate_left
               ·simp only [Act.put, List.setIfInBounds_toArray, List.set_cons_zero, List.set_cons_succ, i64_w, i32_w]
                rfl
               refine take_ (i := 1) (N := some 55) (v := ?_) (a' := ?_) #[true, true, false, false, false] rfl rfl (by kernel_rfl) (fun _ _ _ h => h) (Or.inl ⟨by rfl, ?_⟩) hHeld ?_ ?_
               rotate_left
               ·rintro w' ⟨s0, s1, s2, s3⟩
                go_simp
                with_reducible rfl
               rotate_left
               ·simp only [Act.put, List.setIfInBounds_toArray, List.set_cons_zero, List.set_cons_succ, i64_w, i32_w]
                rfl
               refine one_ (i := 2) (N := some 56) #[true, true, true, false, false] rfl rfl (by kernel_rfl) (by decide) (fun K hK => ?_)
               refine goes_ Try.func16 (by kernel_rfl) rfl #[.agg #[.int .i64 a0_0, .slice A0_1 l0_1.length c0_1]] (by rfl) rfl rfl (by (try simp only [List.map_toArray, List.map_cons, List.map_nil]); first | done | rfl | (simp only [List.length_drop, List.length_take]; rfl)) ?_
               with_reducible refine (laws_toMatrix.calls k a0_0 _ _ l0_1 t224 t225 _ ?side1 ?side2 A28.out).mono ?_
               (case side1 => repeat (first | exact (Kd.C_below HR0_1.out HB.out) | (with_reducible refine Kd.C_alloc ?_ _) | (with_reducible refine Kd.C_drewN ?_ _) | (with_reducible refine Kd.C_drew ?_)))
               (case side2 => exact HC0_1.out)
               rintro e w102 ⟨v226, rfl, ho0, hb⟩
               refine ⟨_, rfl, ?_⟩
               have n0_ := el HO196 (Kd.R_base ho0) hb
               have n1_ := el HO200 (Kd.R_base ho0) hb
               have n2_ := el HO204 (Kd.R_base ho0) hb
               have n3_ := el HO210 (Kd.R_base ho0) hb
               have n4_ := el HO215 (Kd.R_base ho0) hb
               have n5_ := el HO220 (Kd.R_base ho0) hb
               have n6_ := am (Kd.R_lower (Kd.R_new' (Kd.R_new' (Kd.R_new' (Kd.R_new' (Kd.R_new' (Kd.R_new' ho0 (Kd.R_lt (rz HO196.out))) (Kd.R_lt (rz HO200.out))) (Kd.R_lt (rz HO204.out))) (Kd.R_lt (rz HO210.out))) (Kd.R_lt (rz HO215.out))) (Kd.R_lt (rz HO220.out))) (below_size (bw HB.out)))
               have n7_ := bk BK189 hb
               have n8_ := bk BK190 hb
               have n9_ := bk BK206 hb
               have n10_ := bk BK211 hb
               have n11_ := bk BK216 hb
               have n12_ := bk BK222 hb
               have n13_ := am (below_step (bw HB.out) hb)
               clear HO196 HO200 HO204 HO210 HO215 HO220 BK189 BK190 BK206 BK211 BK216 BK222 HB
               revert n0_ n1_ n2_ n3_ n4_ n5_ n6_ n7_ n8_ n9_ n10_ n11_ n12_ n13_; intro HO196 HO200 HO204 HO210 HO215 HO220 HO227 BK189 BK190 BK206 BK211 BK216 BK222 HB
               (try clear hb)
               (try clear hb2)
               (try clear hk)
               (try clear hi)
               (try clear ho0)
               obtain ⟨Ao103, co103, eo103⟩ := Kd.R_slice HO227.out
               (first | subst eo103 | (injection eo103 with f1_ f2_ f3_; have f4_ := f1_.symm; have f5_ := f3_.symm; clear f1_ f2_ f3_; subst f4_; subst f5_))
               refine hK.out _ _ ⟨(blk_cell BK211.out 0).trans rfl, (blk_cell BK211.out 1).trans rfl, (blk_cell BK189.out 0).trans rfl, (blk_cell BK189.out 1).trans rfl⟩ (fun hHeld => ?_)
               clear hK K
               refine norm_ (a' := ?_) ?_ ?_
               rotate_left
               ·show Act.put _ (some 56) _ = _
                simp only [Act.put, List.setIfInBounds_toArray, List.set_cons_zero, List.set_cons_succ, i64_w, i32_w]
                rfl
               refine one_ (i := 3) (N := some 57) #[true, true, true, true, false] rfl rfl (by kernel_rfl) (by decide) (fun K hK => ?_)
               refine goes_ Try.func18 (by kernel_rfl) rfl #[.agg #[.int .i64 t207, .slice Ao78 t208.length co78], .agg #[.int .i64 t224, .slice Ao103 t225.length co103]] (by rfl) rfl rfl (by (try simp only [List.map_toArray, List.map_cons, List.map_nil]); first | done | rfl | (simp only [List.length_drop, List.length_take]; rfl)) ?_
               with_reducible refine (laws_eqMatrix.calls k t207 _ _ t208 t224 _ _ t225 true _ ?side1 ?side2 ?side3 ?side4 A29.out).mono ?_
               (case side1 => repeat (first | exact (Kd.R_reads' HO210.out).2.2 | (with_reducible refine Kd.C_alloc ?_ _) | (with_reducible refine Kd.C_drewN ?_ _) | (with_reducible refine Kd.C_drew ?_)))
               (case side2 => exact (Kd.R_reads' HO210.out).2.1)
               (case side3 => repeat (first | exact (Kd.R_reads' HO227.out).2.2 | (with_reducible refine Kd.C_alloc ?_ _) | (with_reducible refine Kd.C_drewN ?_ _) | (with_reducible refine Kd.C_drew ?_)))
               (case side4 => exact (Kd.R_reads' HO227.out).2.1)
               rintro e w104 ⟨rfl, hb⟩
               refine ⟨_, rfl, ?_⟩
               have n0_ := am (Kd.R_below (rz HO196.out) hb)
               have n1_ := am (Kd.R_below (rz HO200.out) hb)
               have n2_ := am (Kd.R_below (rz HO204.out) hb)
               have n3_ := am (Kd.R_below (rz HO210.out) hb)
               have n4_ := am (Kd.R_below (rz HO215.out) hb)
               have n5_ := am (Kd.R_below (rz HO220.out) hb)
               have n6_ := am (Kd.R_below (rz HO227.out) hb)
               have n7_ := bk BK189 hb
               have n8_ := bk BK190 hb
               have n9_ := bk BK206 hb
               have n10_ := bk BK211 hb
               have n11_ := bk BK216 hb
               have n12_ := bk BK222 hb
               have n13_ := am (below_step (bw HB.out) hb)
               clear HO196 HO200 HO204 HO210 HO215 HO220 HO227 BK189 BK190 BK206 BK211 BK216 BK222 HB
               revert n0_ n1_ n2_ n3_ n4_ n5_ n6_ n7_ n8_ n9_ n10_ n11_ n12_ n13_; intro HO196 HO200 HO204 HO210 HO215 HO220 HO227 BK189 BK190 BK206 BK211 BK216 BK222 HB
               (try clear hb)
               (try clear hb2)
               (try clear hk)
               (try clear hi)
               refine hK.out _ _ ⟨(blk_cell BK211.out 0).trans rfl, (blk_cell BK211.out 1).trans rfl, (blk_cell BK189.out 0).trans rfl, (blk_cell BK189.out 1).trans rfl⟩ (fun hHeld => ?_)
               clear hK K
               refine norm_ (a' := ?_) ?_ ?_
               rotate_left
               ·show Act.put _ (some 57) _ = _
                simp only [Act.put, List.setIfInBounds_toArray, List.set_cons_zero, List.set_cons_succ, i64_w, i32_w]
                rfl
               refine pure_ (i := 4) (N := some 58) (v := ?_) (a' := ?_) #[true, true, true, true, true] rfl rfl (by kernel_rfl) (fun _ _ _ h => h) (Or.inl ⟨by rfl, ?_⟩) ?_ ?_
               rotate_left
               ·intro w'
                go_simp
                with_reducible rfl
               rotate_left
               ·simp only [Act.put, List.setIfInBounds_toArray, List.set_cons_zero, List.set_cons_succ, i64_w, i32_w]
                rfl
               refine done_ (by kernel_rfl) ?_
               try go_wp2
               have n0_ := am (Kd.R_drew HO196.out)
               have n1_ := am (Kd.R_drew HO200.out)
               have n2_ := am (Kd.R_drew HO204.out)
               have n3_ := am (Kd.R_drew HO210.out)
               have n4_ := am (Kd.R_drew HO215.out)
               have n5_ := am (Kd.R_drew HO220.out)
               have n6_ := am (Kd.R_drew HO227.out)
               have n7_ := am (blk_drew BK189.out)
               have n8_ := am (blk_drew BK190.out)
               have n9_ := am (blk_drew BK206.out)
               have n10_ := am (blk_drew BK211.out)
               have n11_ := am (blk_drew BK216.out)
               have n12_ := am (blk_drew BK222.out)
               have n13_ := am (below_drew1 HB.out)
               clear HO196 HO200 HO204 HO210 HO215 HO220 HO227 BK189 BK190 BK206 BK211 BK216 BK222 HB
               revert n0_ n1_ n2_ n3_ n4_ n5_ n6_ n7_ n8_ n9_ n10_ n11_ n12_ n13_; intro HO196 HO200 HO204 HO210 HO215 HO220 HO227 BK189 BK190 BK206 BK211 BK216 BK222 HB
               refine start_ (n := 5) (S := fun w' => w'.cell? ⟨gb216, 0, none⟩ = some (.int .i64 t212) ∧ w'.cell? ⟨gb216, 1, none⟩ = some (.slice Ao88 t213.length co88) ∧ w'.cell? ⟨gb190, 0, none⟩ = some (.int .i64 a1_0) ∧ w'.cell? ⟨gb190, 1, none⟩ = some (.slice A1_1 l1_1.length c1_1)) (ds := []) #[false, false, false, false, false] (by kernel_rfl) rfl rfl ⟨(blk_cell BK216.out 0).trans rfl, (blk_cell BK216.out 1).trans rfl, (blk_cell BK190.out 0).trans rfl, (blk_cell BK190.out 1).trans rfl⟩ (fun hHeld => ?_)
               generalize w104.drew = w105 at HO196 HO200 HO204 HO210 HO215 HO220 HO227 BK189 BK190 BK206 BK211 BK216 BK222 HB hHeld ⊢
               refine take_ (i := 0) (N := some 59) (v := ?_) (a' := ?_) #[true, false, false, false, false] rfl rfl (by kernel_rfl) (fun _ _ _ h => h) (Or.inl ⟨by rfl, ?_⟩) hHeld ?_ ?_
               rotate_left
               ·rintro w' ⟨s0, s1, s2, s3⟩
                go_simp
                with_reducible rfl
               rotate_left
               ·simp only [Act.put, List.setIfInBounds_toArray, List.set_cons_zero, List.set_cons_succ, i64_w, i32_w]
                rfl
               refine take_ (i := 1) (N := some 60) (v := ?_) (a' := ?_) #[true, true, false, false, false] rfl rfl (by kernel_rfl) (fun _ _ _ h => h) (Or.inl ⟨by rfl, ?_⟩) hHeld ?_ ?_
               rotate_left
               ·rintro w' ⟨s0, s1, s2, s3⟩
                go_simp
                with_reducible rfl
               rotate_left
               ·simp only [Act.put, List.setIfInBounds_toArray, List.set_cons_zero, List.set_cons_succ, i64_w, i32_w]
                rfl
               refine one_ (i := 2) (N := some 61) #[true, true, true, false, false] rfl rfl (by kernel_rfl) (by decide) (fun K hK => ?_)
               refine goes_ Try.func16 (by kernel_rfl) rfl #[.agg #[.int .i64 a1_0, .slice A1_1 l1_1.length c1_1]] (by rfl) rfl rfl (by (try simp only [List.map_toArray, List.map_cons, List.map_nil]); first | done | rfl | (simp only [List.length_drop, List.length_take]; rfl)) ?_
               with_reducible refine (laws_toMatrix.calls k a1_0 _ _ l1_1 t229 t230 _ ?side1 ?side2 A31.out).mono ?_
               (case side1 => repeat (first | exact (Kd.C_below HR1_1.out HB.out) | (with_reducible refine Kd.C_alloc ?_ _) | (with_reducible refine Kd.C_drewN ?_ _) | (with_reducible refine Kd.C_drew ?_)))
               (case side2 => exact HC1_1.out)
               rintro e w106 ⟨v231, rfl, ho0, hb⟩
               refine ⟨_, rfl, ?_⟩
               have n0_ := el HO196 (Kd.R_base ho0) hb
               have n1_ := el HO200 (Kd.R_base ho0) hb
               have n2_ := el HO204 (Kd.R_base ho0) hb
               have n3_ := el HO210 (Kd.R_base ho0) hb
               have n4_ := el HO215 (Kd.R_base ho0) hb
               have n5_ := el HO220 (Kd.R_base ho0) hb
               have n6_ := el HO227 (Kd.R_base ho0) hb
               have n7_ := am (Kd.R_lower (Kd.R_new' (Kd.R_new' (Kd.R_new' (Kd.R_new' (Kd.R_new' (Kd.R_new' (Kd.R_new' ho0 (Kd.R_lt (rz HO196.out))) (Kd.R_lt (rz HO200.out))) (Kd.R_lt (rz HO204.out))) (Kd.R_lt (rz HO210.out))) (Kd.R_lt (rz HO215.out))) (Kd.R_lt (rz HO220.out))) (Kd.R_lt (rz HO227.out))) (below_size (bw HB.out)))
               have n8_ := bk BK189 hb
               have n9_ := bk BK190 hb
               have n10_ := bk BK206 hb
               have n11_ := bk BK211 hb
               have n12_ := bk BK216 hb
               have n13_ := bk BK222 hb
               have n14_ := am (below_step (bw HB.out) hb)
               clear HO196 HO200 HO204 HO210 HO215 HO220 HO227 BK189 BK190 BK206 BK211 BK216 BK222 HB
               revert n0_ n1_ n2_ n3_ n4_ n5_ n6_ n7_ n8_ n9_ n10_ n11_ n12_ n13_ n14_; intro HO196 HO200 HO204 HO210 HO215 HO220 HO227 HO232 BK189 BK190 BK206 BK211 BK216 BK222 HB
               (try clear hb)
               (try clear hb2)
               (try clear hk)
               (try clear hi)
               (try clear ho0)
               obtain ⟨Ao107, co107, eo107⟩ := Kd.R_slice HO232.out
               (first | subst eo107 | (injection eo107 with f1_ f2_ f3_; have f4_ := f1_.symm; have f5_ := f3_.symm; clear f1_ f2_ f3_; subst f4_; subst f5_))
               refine hK.out _ _ ⟨(blk_cell BK216.out 0).trans rfl, (blk_cell BK216.out 1).trans rfl, (blk_cell BK190.out 0).trans rfl, (blk_cell BK190.out 1).trans rfl⟩ (fun hHeld => ?_)
               clear hK K
               refine norm_ (a' := ?_) ?_ ?_
               rotate_left
               ·show Act.put _ (some 61) _ = _
                simp only [Act.put, List.setIfInBounds_toArray, List.set_cons_zero, List.set_cons_succ, i64_w, i32_w]
                rfl
               refine one_ (i := 3) (N := some 62) #[true, true, true, true, false] rfl rfl (by kernel_rfl) (by decide) (fun K hK => ?_)
               refine goes_ Try.func18 (by kernel_rfl) rfl #[.agg #[.int .i64 t212, .slice Ao88 t213.length co88], .agg #[.int .i64 t229, .slice Ao107 t230.length co107]] (by rfl) rfl rfl (by (try simp only [List.map_toArray, List.map_cons, List.map_nil]); first | done | rfl | (simp only [List.length_drop, List.length_take]; rfl)) ?_
               with_reducible refine (laws_eqMatrix.calls k t212 _ _ t213 t229 _ _ t230 true _ ?side1 ?side2 ?side3 ?side4 A32.out).mono ?_
               (case side1 => repeat (first | exact (Kd.R_reads' HO215.out).2.2 | (with_reducible refine Kd.C_alloc ?_ _) | (with_reducible refine Kd.C_drewN ?_ _) | (with_reducible refine Kd.C_drew ?_)))
               (case side2 => exact (Kd.R_reads' HO215.out).2.1)
               (case side3 => repeat (first | exact (Kd.R_reads' HO232.out).2.2 | (with_reducible refine Kd.C_alloc ?_ _) | (with_reducible refine Kd.C_drewN ?_ _) | (with_reducible refine Kd.C_drew ?_)))
               (case side4 => exact (Kd.R_reads' HO232.out).2.1)
               rintro e w108 ⟨rfl, hb⟩
               refine ⟨_, rfl, ?_⟩
               have n0_ := am (Kd.R_below (rz HO196.out) hb)
               have n1_ := am (Kd.R_below (rz HO200.out) hb)
               have n2_ := am (Kd.R_below (rz HO204.out) hb)
               have n3_ := am (Kd.R_below (rz HO210.out) hb)
               have n4_ := am (Kd.R_below (rz HO215.out) hb)
               have n5_ := am (Kd.R_below (rz HO220.out) hb)
               have n6_ := am (Kd.R_below (rz HO227.out) hb)
               have n7_ := am (Kd.R_below (rz HO232.out) hb)
               have n8_ := bk BK189 hb
               have n9_ := bk BK190 hb
               have n10_ := bk BK206 hb
               have n11_ := bk BK211 hb
               have n12_ := bk BK216 hb
               have n13_ := bk BK222 hb
               have n14_ := am (below_step (bw HB.out) hb)
               clear HO196 HO200 HO204 HO210 HO215 HO220 HO227 HO232 BK189 BK190 BK206 BK211 BK216 BK222 HB
               revert n0_ n1_ n2_ n3_ n4_ n5_ n6_ n7_ n8_ n9_ n10_ n11_ n12_ n13_ n14_; intro HO196 HO200 HO204 HO210 HO215 HO220 HO227 HO232 BK189 BK190 BK206 BK211 BK216 BK222 HB
               (try clear hb)
               (try clear hb2)
               (try clear hk)
               (try clear hi)
               refine hK.out _ _ ⟨(blk_cell BK216.out 0).trans rfl, (blk_cell BK216.out 1).trans rfl, (blk_cell BK190.out 0).trans rfl, (blk_cell BK190.out 1).trans rfl⟩ (fun hHeld => ?_)
               clear hK K
               refine norm_ (a' := ?_) ?_ ?_
               rotate_left
               ·show Act.put _ (some 62) _ = _
                simp only [Act.put, List.setIfInBounds_toArray, List.set_cons_zero, List.set_cons_succ, i64_w, i32_w]
                rfl
               refine pure_ (i := 4) (N := some 63) (v := ?_) (a' := ?_) #[true, true, true, true, true] rfl rfl (by kernel_rfl) (fun _ _ _ h => h) (Or.inl ⟨by rfl, ?_⟩) ?_ ?_
               rotate_left
               ·intro w'
                go_simp
                with_reducible rfl
               rotate_left
               ·simp only [Act.put, List.setIfInBounds_toArray, List.set_cons_zero, List.set_cons_succ, i64_w, i32_w]
                rfl
               refine done_ (by kernel_rfl) ?_
               have hcz109_0 := cz20 BK211.out
               have hcz109_1 := cz21 BK211.out
               have hfz109_0 := blk_frozen BK211.out 0
               have hfz109_1 := blk_frozen BK211.out 1
               try go_wp2_with (first | ((with_reducible refine gate_callee (f := 21) rfl ?_); refine goesL_ (some 66) rfl rfl Try.func21 (by kernel_rfl) rfl #[.agg #[.int .i64 t207, .slice Ao78 t208.length co78], .int .i64 1] rfl (by (try simp only [List.map_toArray, List.map_cons, List.map_nil]); first | done | rfl | (simp only [List.length_drop, List.length_take]; rfl)) ?_; (with_reducible refine (laws_markMatrix.calls k t207 (fun k_ => some k_ = (.slice Ao78 t208.length co78 : Value).ownBlock) (.slice Ao78 t208.length co78) t208 1 t234 t235 w _ ?side1 ?side2 A34.out).mono ?_); (case side1 => repeat (first | (with_reducible first | exact HB.out | apply below_alloc | apply pw_below_drewN | apply below_drew1 | refine below_set ?_ GE189.out | refine below_set ?_ GE190.out | refine below_set ?_ GE206.out | refine below_set ?_ GE211.out | refine below_set ?_ GE216.out | refine below_set ?_ GE222.out) | exact HB.out)); (case side2 => exact Kd.R_tight rfl HO210.out); rintro e w110 ⟨rfl, hy0, hb, hkp⟩; refine ⟨_, rfl, ?_⟩; have n0_ := am (blk_kept (kz BK189.out) hkp (fun hs_ => (fun e_ => (Kd.R_ne HO210.out BK189.out (by decide)) e_) hs_)); have n1_ := am (blk_kept (kz BK190.out) hkp (fun hs_ => (fun e_ => (Kd.R_ne HO210.out BK190.out (by decide)) e_) hs_)); have n2_ := am (Kd.R_mono (ok' := fun k_ => some k_ ≠ (v199 : Value).ownBlock ∧ NS Ao68 t202 co68 k_ ∧ NS Ao78 t208 co78 k_ ∧ NS Ao88 t213 co88 k_ ∧ NS Ao98 t218 co98 k_ ∧ NS Ao103 t225 co103 k_ ∧ NS Ao107 t230 co107 k_) (Kd.R_keptB (HO196.out) hkp (fun k_ hk_ hs_ => (hk_.1.1.1.1.2) hs_)) (fun k_ hk_ => ⟨hk_.1.1.1.1.1.1.1, hk_.1.1.1.1.1.1.2, hk_.1.1.1.1.1.2, hk_.1.1.1.1.2, hk_.1.1.1.2, hk_.1.1.2, hk_.1.2⟩)); have n3_ := am (Kd.R_mono (ok' := fun k_ => some k_ ≠ (v195 : Value).ownBlock ∧ NS Ao68 t202 co68 k_ ∧ NS Ao78 t208 co78 k_ ∧ NS Ao88 t213 co88 k_ ∧ NS Ao98 t218 co98 k_ ∧ NS Ao103 t225 co103 k_ ∧ NS Ao107 t230 co107 k_) (Kd.R_keptB (HO200.out) hkp (fun k_ hk_ hs_ => (hk_.1.1.1.1.2) hs_)) (fun k_ hk_ => ⟨hk_.1.1.1.1.1.1.1, hk_.1.1.1.1.1.1.2, hk_.1.1.1.1.1.2, hk_.1.1.1.1.2, hk_.1.1.1.2, hk_.1.1.2, hk_.1.2⟩)); have n4_ := am (Kd.R_mono (ok' := fun k_ => some k_ ≠ (v195 : Value).ownBlock ∧ some k_ ≠ (v199 : Value).ownBlock ∧ NS Ao78 t208 co78 k_ ∧ NS Ao88 t213 co88 k_ ∧ NS Ao98 t218 co98 k_ ∧ NS Ao103 t225 co103 k_ ∧ NS Ao107 t230 co107 k_) (Kd.R_keptB (HO204.out) hkp (fun k_ hk_ hs_ => (hk_.1.1.1.1.2) hs_)) (fun k_ hk_ => ⟨hk_.1.1.1.1.1.1.1, hk_.1.1.1.1.1.1.2, hk_.1.1.1.1.1.2, hk_.1.1.1.1.2, hk_.1.1.1.2, hk_.1.1.2, hk_.1.2⟩)); have n5_ := am (blk_kept (kz BK206.out) hkp (fun hs_ => (fun e_ => (Kd.R_ne HO210.out BK206.out (by decide)) e_) hs_)); have n6_ := am (Kd.R_reok rfl hy0 (fun k_ e_ => HO210.out.1 k_ e_)); have n7_ := am (blk_kept (kz BK211.out) hkp (fun hs_ => (fun e_ => (Kd.R_ne HO210.out BK211.out (by decide)) e_) hs_)); have n8_ := am (Kd.R_mono (ok' := fun k_ => some k_ ≠ (v195 : Value).ownBlock ∧ some k_ ≠ (v199 : Value).ownBlock ∧ NS Ao68 t202 co68 k_ ∧ NS Ao78 t208 co78 k_ ∧ NS Ao98 t218 co98 k_ ∧ NS Ao103 t225 co103 k_ ∧ NS Ao107 t230 co107 k_) (Kd.R_keptB (HO215.out) hkp (fun k_ hk_ hs_ => (hk_.1.1.1.2) hs_)) (fun k_ hk_ => ⟨hk_.1.1.1.1.1.1.1.2, hk_.1.1.1.1.1.1.2, hk_.1.1.1.1.1.2, hk_.1.1.1.1.2, hk_.1.1.1.2, hk_.1.1.2, hk_.1.2⟩)); have n9_ := am (blk_kept (kz BK216.out) hkp (fun hs_ => (fun e_ => (Kd.R_ne HO210.out BK216.out (by decide)) e_) hs_)); have n10_ := am (Kd.R_mono (ok' := fun k_ => some k_ ≠ (v195 : Value).ownBlock ∧ some k_ ≠ (v199 : Value).ownBlock ∧ NS Ao68 t202 co68 k_ ∧ NS Ao78 t208 co78 k_ ∧ NS Ao88 t213 co88 k_ ∧ NS Ao103 t225 co103 k_ ∧ NS Ao107 t230 co107 k_) (Kd.R_keptB (HO220.out) hkp (fun k_ hk_ hs_ => (hk_.1.1.1.2) hs_)) (fun k_ hk_ => ⟨hk_.1.1.1.1.1.1.1.2, hk_.1.1.1.1.1.1.2, hk_.1.1.1.1.1.2, hk_.1.1.1.1.2, hk_.1.1.1.2, hk_.1.1.2, hk_.1.2⟩)); have n11_ := am (blk_kept (kz BK222.out) hkp (fun hs_ => (fun e_ => (Kd.R_ne HO210.out BK222.out (by decide)) e_) hs_)); have n12_ := am (Kd.R_mono (ok' := fun k_ => some k_ ≠ (v195 : Value).ownBlock ∧ some k_ ≠ (v199 : Value).ownBlock ∧ NS Ao68 t202 co68 k_ ∧ NS Ao78 t208 co78 k_ ∧ NS Ao88 t213 co88 k_ ∧ NS Ao98 t218 co98 k_ ∧ NS Ao107 t230 co107 k_) (Kd.R_keptB (HO227.out) hkp (fun k_ hk_ hs_ => (hk_.1.1.1.2) hs_)) (fun k_ hk_ => ⟨hk_.1.1.1.1.1.1.1.2, hk_.1.1.1.1.1.1.2, hk_.1.1.1.1.1.2, hk_.1.1.1.1.2, hk_.1.1.1.2, hk_.1.1.2, hk_.1.2⟩)); have n13_ := am (Kd.R_mono (ok' := fun k_ => some k_ ≠ (v195 : Value).ownBlock ∧ some k_ ≠ (v199 : Value).ownBlock ∧ NS Ao68 t202 co68 k_ ∧ NS Ao78 t208 co78 k_ ∧ NS Ao88 t213 co88 k_ ∧ NS Ao98 t218 co98 k_ ∧ NS Ao103 t225 co103 k_) (Kd.R_keptB (HO232.out) hkp (fun k_ hk_ hs_ => (hk_.1.1.1.2) hs_)) (fun k_ hk_ => ⟨hk_.1.1.1.1.1.1.1.2, hk_.1.1.1.1.1.1.2, hk_.1.1.1.1.1.2, hk_.1.1.1.1.2, hk_.1.1.1.2, hk_.1.1.2, hk_.1.2⟩)); have n14_ := am (hb); clear BK189 BK190 HO196 HO200 HO204 BK206 HO210 BK211 HO215 BK216 HO220 BK222 HO227 HO232 HB; revert n0_ n1_ n2_ n3_ n4_ n5_ n6_ n7_ n8_ n9_ n10_ n11_ n12_ n13_ n14_; intro BK189 BK190 HO196 HO200 HO204 BK206 HO210 BK211 HO215 BK216 HO220 BK222 HO227 HO232 HB; (try clear hb); (try clear hkp); (try clear hy0); have hcz111_0 := cz20 BK216.out; have hcz111_1 := cz21 BK216.out; have hfz111_0 := blk_frozen BK216.out 0; have hfz111_1 := blk_frozen BK216.out 1) | ((with_reducible refine gate_callee (f := 21) rfl ?_); refine goesL_ (some 69) rfl rfl Try.func21 (by kernel_rfl) rfl #[.agg #[.int .i64 t212, .slice Ao88 t213.length co88], .int .i64 t234] rfl (by (try simp only [List.map_toArray, List.map_cons, List.map_nil]); first | done | rfl | (simp only [List.length_drop, List.length_take]; rfl)) ?_; (with_reducible refine (laws_markMatrix.calls k t212 (fun k_ => some k_ = (.slice Ao88 t213.length co88 : Value).ownBlock) (.slice Ao88 t213.length co88) t213 t234 t236 t237 w _ ?side1 ?side2 A35.out).mono ?_); (case side1 => repeat (first | (with_reducible first | exact HB.out | apply below_alloc | apply pw_below_drewN | apply below_drew1 | refine below_set ?_ GE189.out | refine below_set ?_ GE190.out | refine below_set ?_ GE206.out | refine below_set ?_ GE211.out | refine below_set ?_ GE216.out | refine below_set ?_ GE222.out) | exact HB.out)); (case side2 => exact Kd.R_tight rfl HO215.out); rintro e w112 ⟨rfl, hy0, hb, hkp⟩; refine ⟨_, rfl, ?_⟩; have n0_ := am (blk_kept (kz BK189.out) hkp (fun hs_ => (fun e_ => (Kd.R_ne HO215.out BK189.out (by decide)) e_) hs_)); have n1_ := am (blk_kept (kz BK190.out) hkp (fun hs_ => (fun e_ => (Kd.R_ne HO215.out BK190.out (by decide)) e_) hs_)); have n2_ := am (Kd.R_mono (ok' := fun k_ => some k_ ≠ (v199 : Value).ownBlock ∧ NS Ao68 t202 co68 k_ ∧ NS Ao78 t208 co78 k_ ∧ NS Ao88 t213 co88 k_ ∧ NS Ao98 t218 co98 k_ ∧ NS Ao103 t225 co103 k_ ∧ NS Ao107 t230 co107 k_) (Kd.R_keptB (HO196.out) hkp (fun k_ hk_ hs_ => (hk_.2.2.2.1) hs_)) (fun k_ hk_ => ⟨hk_.1.1, hk_.1.2.1, hk_.1.2.2.1, hk_.1.2.2.2.1, hk_.1.2.2.2.2.1, hk_.1.2.2.2.2.2.1, hk_.1.2.2.2.2.2.2⟩)); have n3_ := am (Kd.R_mono (ok' := fun k_ => some k_ ≠ (v195 : Value).ownBlock ∧ NS Ao68 t202 co68 k_ ∧ NS Ao78 t208 co78 k_ ∧ NS Ao88 t213 co88 k_ ∧ NS Ao98 t218 co98 k_ ∧ NS Ao103 t225 co103 k_ ∧ NS Ao107 t230 co107 k_) (Kd.R_keptB (HO200.out) hkp (fun k_ hk_ hs_ => (hk_.2.2.2.1) hs_)) (fun k_ hk_ => ⟨hk_.1.1, hk_.1.2.1, hk_.1.2.2.1, hk_.1.2.2.2.1, hk_.1.2.2.2.2.1, hk_.1.2.2.2.2.2.1, hk_.1.2.2.2.2.2.2⟩)); have n4_ := am (Kd.R_mono (ok' := fun k_ => some k_ ≠ (v195 : Value).ownBlock ∧ some k_ ≠ (v199 : Value).ownBlock ∧ NS Ao78 t208 co78 k_ ∧ NS Ao88 t213 co88 k_ ∧ NS Ao98 t218 co98 k_ ∧ NS Ao103 t225 co103 k_ ∧ NS Ao107 t230 co107 k_) (Kd.R_keptB (HO204.out) hkp (fun k_ hk_ hs_ => (hk_.2.2.2.1) hs_)) (fun k_ hk_ => ⟨hk_.1.1, hk_.1.2.1, hk_.1.2.2.1, hk_.1.2.2.2.1, hk_.1.2.2.2.2.1, hk_.1.2.2.2.2.2.1, hk_.1.2.2.2.2.2.2⟩)); have n5_ := am (blk_kept (kz BK206.out) hkp (fun hs_ => (fun e_ => (Kd.R_ne HO215.out BK206.out (by decide)) e_) hs_)); have n6_ := am (Kd.R_mono (ok' := fun k_ => some k_ ≠ (v195 : Value).ownBlock ∧ some k_ ≠ (v199 : Value).ownBlock ∧ NS Ao68 t202 co68 k_ ∧ NS Ao88 t213 co88 k_ ∧ NS Ao98 t218 co98 k_ ∧ NS Ao103 t225 co103 k_ ∧ NS Ao107 t230 co107 k_) (Kd.R_keptB (HO210.out) hkp (fun k_ hk_ hs_ => (hk_.1.1.1.2) hs_)) (fun k_ hk_ => ⟨hk_.1.1.1.1.1.1.1.2, hk_.1.1.1.1.1.1.2, hk_.1.1.1.1.1.2, hk_.1.1.1.1.2, hk_.1.1.1.2, hk_.1.1.2, hk_.1.2⟩)); have n7_ := am (blk_kept (kz BK211.out) hkp (fun hs_ => (fun e_ => (Kd.R_ne HO215.out BK211.out (by decide)) e_) hs_)); have n8_ := am (Kd.R_reok rfl hy0 (fun k_ e_ => HO215.out.1 k_ e_)); have n9_ := am (blk_kept (kz BK216.out) hkp (fun hs_ => (fun e_ => (Kd.R_ne HO215.out BK216.out (by decide)) e_) hs_)); have n10_ := am (Kd.R_mono (ok' := fun k_ => some k_ ≠ (v195 : Value).ownBlock ∧ some k_ ≠ (v199 : Value).ownBlock ∧ NS Ao68 t202 co68 k_ ∧ NS Ao78 t208 co78 k_ ∧ NS Ao88 t213 co88 k_ ∧ NS Ao103 t225 co103 k_ ∧ NS Ao107 t230 co107 k_) (Kd.R_keptB (HO220.out) hkp (fun k_ hk_ hs_ => (hk_.2.2.2.2.1) hs_)) (fun k_ hk_ => ⟨hk_.1.1, hk_.1.2.1, hk_.1.2.2.1, hk_.1.2.2.2.1, hk_.1.2.2.2.2.1, hk_.1.2.2.2.2.2.1, hk_.1.2.2.2.2.2.2⟩)); have n11_ := am (blk_kept (kz BK222.out) hkp (fun hs_ => (fun e_ => (Kd.R_ne HO215.out BK222.out (by decide)) e_) hs_)); have n12_ := am (Kd.R_mono (ok' := fun k_ => some k_ ≠ (v195 : Value).ownBlock ∧ some k_ ≠ (v199 : Value).ownBlock ∧ NS Ao68 t202 co68 k_ ∧ NS Ao78 t208 co78 k_ ∧ NS Ao88 t213 co88 k_ ∧ NS Ao98 t218 co98 k_ ∧ NS Ao107 t230 co107 k_) (Kd.R_keptB (HO227.out) hkp (fun k_ hk_ hs_ => (hk_.2.2.2.2.1) hs_)) (fun k_ hk_ => ⟨hk_.1.1, hk_.1.2.1, hk_.1.2.2.1, hk_.1.2.2.2.1, hk_.1.2.2.2.2.1, hk_.1.2.2.2.2.2.1, hk_.1.2.2.2.2.2.2⟩)); have n13_ := am (Kd.R_mono (ok' := fun k_ => some k_ ≠ (v195 : Value).ownBlock ∧ some k_ ≠ (v199 : Value).ownBlock ∧ NS Ao68 t202 co68 k_ ∧ NS Ao78 t208 co78 k_ ∧ NS Ao88 t213 co88 k_ ∧ NS Ao98 t218 co98 k_ ∧ NS Ao103 t225 co103 k_) (Kd.R_keptB (HO232.out) hkp (fun k_ hk_ hs_ => (hk_.2.2.2.2.1) hs_)) (fun k_ hk_ => ⟨hk_.1.1, hk_.1.2.1, hk_.1.2.2.1, hk_.1.2.2.2.1, hk_.1.2.2.2.2.1, hk_.1.2.2.2.2.2.1, hk_.1.2.2.2.2.2.2⟩)); have n14_ := am (hb); clear BK189 BK190 HO196 HO200 HO204 BK206 HO210 BK211 HO215 BK216 HO220 BK222 HO227 HO232 HB; revert n0_ n1_ n2_ n3_ n4_ n5_ n6_ n7_ n8_ n9_ n10_ n11_ n12_ n13_ n14_; intro BK189 BK190 HO196 HO200 HO204 BK206 HO210 BK211 HO215 BK216 HO220 BK222 HO227 HO232 HB; (try clear hb); (try clear hkp); (try clear hy0); have hcz113_0 := cz20 BK222.out; have hcz113_1 := cz21 BK222.out; have hfz113_0 := blk_frozen BK222.out 0; have hfz113_1 := blk_frozen BK222.out 1; have hcz114_0 : w112.cell? ⟨gb206, 0, none⟩ = some (.int .i64 t201) := (blk_cell BK206.out 0).trans rfl; have hcz114_1 : w112.cell? ⟨gb206, 1, none⟩ = some (.slice Ao68 t202.length co68) := (blk_cell BK206.out 1).trans rfl; have hfz114_0 := blk_frozen BK206.out 0; have hfz114_1 := blk_frozen BK206.out 1) | (go_at_call 18; (with_reducible refine (laws_eqMatrix.calls k t217 _ _ t218 t201 _ _ t202 true _ ?side1 ?side2 ?side3 ?side4 A37.out).mono ?_); (case side1 => repeat (first | exact (Kd.R_reads' HO220.out).2.2 | (with_reducible refine Kd.C_alloc ?_ _) | (with_reducible refine Kd.C_drewN ?_ _) | (with_reducible refine Kd.C_drew ?_))); (case side2 => exact (Kd.R_reads' HO220.out).2.1); (case side3 => repeat (first | exact (Kd.R_reads' HO204.out).2.2 | (with_reducible refine Kd.C_alloc ?_ _) | (with_reducible refine Kd.C_drewN ?_ _) | (with_reducible refine Kd.C_drew ?_))); (case side4 => exact (Kd.R_reads' HO204.out).2.1); rintro e w115 ⟨rfl, hb⟩; have n0_ := am (Kd.R_below (rz HO196.out) hb); have n1_ := am (Kd.R_below (rz HO200.out) hb); have n2_ := am (Kd.R_below (rz HO204.out) hb); have n3_ := am (Kd.R_below (rz HO210.out) hb); have n4_ := am (Kd.R_below (rz HO215.out) hb); have n5_ := am (Kd.R_below (rz HO220.out) hb); have n6_ := am (Kd.R_below (rz HO227.out) hb); have n7_ := am (Kd.R_below (rz HO232.out) hb); have n8_ := bk BK189 hb; have n9_ := bk BK190 hb; have n10_ := bk BK206 hb; have n11_ := bk BK211 hb; have n12_ := bk BK216 hb; have n13_ := bk BK222 hb; have n14_ := am (below_step (bw HB.out) hb); clear HO196 HO200 HO204 HO210 HO215 HO220 HO227 HO232 BK189 BK190 BK206 BK211 BK216 BK222 HB; revert n0_ n1_ n2_ n3_ n4_ n5_ n6_ n7_ n8_ n9_ n10_ n11_ n12_ n13_ n14_; intro HO196 HO200 HO204 HO210 HO215 HO220 HO227 HO232 BK189 BK190 BK206 BK211 BK216 BK222 HB; (try clear hb); (try clear hb2); (try clear hk); (try clear hi); have hcz116_0 := cz20 BK222.out; have hcz116_1 := cz21 BK222.out; have hfz116_0 := blk_frozen BK222.out 0; have hfz116_1 := blk_frozen BK222.out 1) | ((with_reducible refine gate_callee (f := 21) rfl ?_); refine goesL_ (some 85) rfl rfl Try.func21 (by kernel_rfl) rfl #[.agg #[.int .i64 t217, .slice Ao98 t218.length co98], .int .i64 1] rfl (by (try simp only [List.map_toArray, List.map_cons, List.map_nil]); first | done | rfl | (simp only [List.length_drop, List.length_take]; rfl)) ?_; (with_reducible refine (laws_markMatrix.calls k t217 (fun k_ => some k_ = (.slice Ao98 t218.length co98 : Value).ownBlock) (.slice Ao98 t218.length co98) t218 1 t239 t240 w _ ?side1 ?side2 A39.out).mono ?_); (case side1 => repeat (first | (with_reducible first | exact HB.out | apply below_alloc | apply pw_below_drewN | apply below_drew1 | refine below_set ?_ GE189.out | refine below_set ?_ GE190.out | refine below_set ?_ GE206.out | refine below_set ?_ GE211.out | refine below_set ?_ GE216.out | refine below_set ?_ GE222.out) | exact HB.out)); (case side2 => exact Kd.R_tight rfl HO220.out); rintro e w117 ⟨rfl, hy0, hb, hkp⟩; refine ⟨_, rfl, ?_⟩; have n0_ := am (blk_kept (kz BK189.out) hkp (fun hs_ => (fun e_ => (Kd.R_ne HO220.out BK189.out (by decide)) e_) hs_)); have n1_ := am (blk_kept (kz BK190.out) hkp (fun hs_ => (fun e_ => (Kd.R_ne HO220.out BK190.out (by decide)) e_) hs_)); have n2_ := am (Kd.R_mono (ok' := fun k_ => some k_ ≠ (v199 : Value).ownBlock ∧ NS Ao68 t202 co68 k_ ∧ NS Ao78 t208 co78 k_ ∧ NS Ao88 t213 co88 k_ ∧ NS Ao98 t218 co98 k_ ∧ NS Ao103 t225 co103 k_ ∧ NS Ao107 t230 co107 k_) (Kd.R_keptB (HO196.out) hkp (fun k_ hk_ hs_ => (hk_.2.2.2.2.1) hs_)) (fun k_ hk_ => ⟨hk_.1.1, hk_.1.2.1, hk_.1.2.2.1, hk_.1.2.2.2.1, hk_.1.2.2.2.2.1, hk_.1.2.2.2.2.2.1, hk_.1.2.2.2.2.2.2⟩)); have n3_ := am (Kd.R_mono (ok' := fun k_ => some k_ ≠ (v195 : Value).ownBlock ∧ NS Ao68 t202 co68 k_ ∧ NS Ao78 t208 co78 k_ ∧ NS Ao88 t213 co88 k_ ∧ NS Ao98 t218 co98 k_ ∧ NS Ao103 t225 co103 k_ ∧ NS Ao107 t230 co107 k_) (Kd.R_keptB (HO200.out) hkp (fun k_ hk_ hs_ => (hk_.2.2.2.2.1) hs_)) (fun k_ hk_ => ⟨hk_.1.1, hk_.1.2.1, hk_.1.2.2.1, hk_.1.2.2.2.1, hk_.1.2.2.2.2.1, hk_.1.2.2.2.2.2.1, hk_.1.2.2.2.2.2.2⟩)); have n4_ := am (Kd.R_mono (ok' := fun k_ => some k_ ≠ (v195 : Value).ownBlock ∧ some k_ ≠ (v199 : Value).ownBlock ∧ NS Ao78 t208 co78 k_ ∧ NS Ao88 t213 co88 k_ ∧ NS Ao98 t218 co98 k_ ∧ NS Ao103 t225 co103 k_ ∧ NS Ao107 t230 co107 k_) (Kd.R_keptB (HO204.out) hkp (fun k_ hk_ hs_ => (hk_.2.2.2.2.1) hs_)) (fun k_ hk_ => ⟨hk_.1.1, hk_.1.2.1, hk_.1.2.2.1, hk_.1.2.2.2.1, hk_.1.2.2.2.2.1, hk_.1.2.2.2.2.2.1, hk_.1.2.2.2.2.2.2⟩)); have n5_ := am (blk_kept (kz BK206.out) hkp (fun hs_ => (fun e_ => (Kd.R_ne HO220.out BK206.out (by decide)) e_) hs_)); have n6_ := am (Kd.R_mono (ok' := fun k_ => some k_ ≠ (v195 : Value).ownBlock ∧ some k_ ≠ (v199 : Value).ownBlock ∧ NS Ao68 t202 co68 k_ ∧ NS Ao88 t213 co88 k_ ∧ NS Ao98 t218 co98 k_ ∧ NS Ao103 t225 co103 k_ ∧ NS Ao107 t230 co107 k_) (Kd.R_keptB (HO210.out) hkp (fun k_ hk_ hs_ => (hk_.2.2.2.2.1) hs_)) (fun k_ hk_ => ⟨hk_.1.1, hk_.1.2.1, hk_.1.2.2.1, hk_.1.2.2.2.1, hk_.1.2.2.2.2.1, hk_.1.2.2.2.2.2.1, hk_.1.2.2.2.2.2.2⟩)); have n7_ := am (blk_kept (kz BK211.out) hkp (fun hs_ => (fun e_ => (Kd.R_ne HO220.out BK211.out (by decide)) e_) hs_)); have n8_ := am (Kd.R_mono (ok' := fun k_ => some k_ ≠ (v195 : Value).ownBlock ∧ some k_ ≠ (v199 : Value).ownBlock ∧ NS Ao68 t202 co68 k_ ∧ NS Ao78 t208 co78 k_ ∧ NS Ao98 t218 co98 k_ ∧ NS Ao103 t225 co103 k_ ∧ NS Ao107 t230 co107 k_) (Kd.R_keptB (HO215.out) hkp (fun k_ hk_ hs_ => (hk_.2.2.2.2.1) hs_)) (fun k_ hk_ => ⟨hk_.1.1, hk_.1.2.1, hk_.1.2.2.1, hk_.1.2.2.2.1, hk_.1.2.2.2.2.1, hk_.1.2.2.2.2.2.1, hk_.1.2.2.2.2.2.2⟩)); have n9_ := am (blk_kept (kz BK216.out) hkp (fun hs_ => (fun e_ => (Kd.R_ne HO220.out BK216.out (by decide)) e_) hs_)); have n10_ := am (Kd.R_reok rfl hy0 (fun k_ e_ => HO220.out.1 k_ e_)); have n11_ := am (blk_kept (kz BK222.out) hkp (fun hs_ => (fun e_ => (Kd.R_ne HO220.out BK222.out (by decide)) e_) hs_)); have n12_ := am (Kd.R_mono (ok' := fun k_ => some k_ ≠ (v195 : Value).ownBlock ∧ some k_ ≠ (v199 : Value).ownBlock ∧ NS Ao68 t202 co68 k_ ∧ NS Ao78 t208 co78 k_ ∧ NS Ao88 t213 co88 k_ ∧ NS Ao98 t218 co98 k_ ∧ NS Ao107 t230 co107 k_) (Kd.R_keptB (HO227.out) hkp (fun k_ hk_ hs_ => (hk_.2.2.2.2.2.1) hs_)) (fun k_ hk_ => ⟨hk_.1.1, hk_.1.2.1, hk_.1.2.2.1, hk_.1.2.2.2.1, hk_.1.2.2.2.2.1, hk_.1.2.2.2.2.2.1, hk_.1.2.2.2.2.2.2⟩)); have n13_ := am (Kd.R_mono (ok' := fun k_ => some k_ ≠ (v195 : Value).ownBlock ∧ some k_ ≠ (v199 : Value).ownBlock ∧ NS Ao68 t202 co68 k_ ∧ NS Ao78 t208 co78 k_ ∧ NS Ao88 t213 co88 k_ ∧ NS Ao98 t218 co98 k_ ∧ NS Ao103 t225 co103 k_) (Kd.R_keptB (HO232.out) hkp (fun k_ hk_ hs_ => (hk_.2.2.2.2.2.1) hs_)) (fun k_ hk_ => ⟨hk_.1.1, hk_.1.2.1, hk_.1.2.2.1, hk_.1.2.2.2.1, hk_.1.2.2.2.2.1, hk_.1.2.2.2.2.2.1, hk_.1.2.2.2.2.2.2⟩)); have n14_ := am (hb); clear BK189 BK190 HO196 HO200 HO204 BK206 HO210 BK211 HO215 BK216 HO220 BK222 HO227 HO232 HB; revert n0_ n1_ n2_ n3_ n4_ n5_ n6_ n7_ n8_ n9_ n10_ n11_ n12_ n13_ n14_; intro BK189 BK190 HO196 HO200 HO204 BK206 HO210 BK211 HO215 BK216 HO220 BK222 HO227 HO232 HB; (try clear hb); (try clear hkp); (try clear hy0); have hcz118_0 := cz20 BK222.out; have hcz118_1 := cz21 BK222.out; have hfz118_0 := blk_frozen BK222.out 0; have hfz118_1 := blk_frozen BK222.out 1) | ((with_reducible refine gate_callee (f := 22) rfl ?_); refine goesL_ (some 88) rfl rfl Try.func22 (by kernel_rfl) rfl #[.agg #[.int .i64 t217, .slice Ao98 t240.length co98], .int .i64 1] rfl (by (try simp only [List.map_toArray, List.map_cons, List.map_nil]); first | done | (rw [show t240.length = t218.length from (Kd.R_reads' HO220.out).1.symm] <;> rfl) | rfl | (simp only [List.length_drop, List.length_take]; rfl)) ?_; (with_reducible refine (laws_heldMatrix.calls k t217 _ _ t240 1 t241 _ ?side1 ?side2 A40.out).mono ?_); (case side1 => repeat (first | exact (Kd.R_reads' HO220.out).2.2 | (with_reducible refine Kd.C_alloc ?_ _) | (with_reducible refine Kd.C_drewN ?_ _) | (with_reducible refine Kd.C_drew ?_))); (case side2 => rw [show t240.length = t218.length from (Kd.R_reads' HO220.out).1.symm]; exact (Kd.R_reads' HO220.out).2.1); rintro e w119 ⟨rfl, hb⟩; refine ⟨_, rfl, ?_⟩; have n0_ := am (Kd.R_below (rz HO196.out) hb); have n1_ := am (Kd.R_below (rz HO200.out) hb); have n2_ := am (Kd.R_below (rz HO204.out) hb); have n3_ := am (Kd.R_below (rz HO210.out) hb); have n4_ := am (Kd.R_below (rz HO215.out) hb); have n5_ := am (Kd.R_below (rz HO220.out) hb); have n6_ := am (Kd.R_below (rz HO227.out) hb); have n7_ := am (Kd.R_below (rz HO232.out) hb); have n8_ := bk BK189 hb; have n9_ := bk BK190 hb; have n10_ := bk BK206 hb; have n11_ := bk BK211 hb; have n12_ := bk BK216 hb; have n13_ := bk BK222 hb; have n14_ := am (below_step (bw HB.out) hb); clear HO196 HO200 HO204 HO210 HO215 HO220 HO227 HO232 BK189 BK190 BK206 BK211 BK216 BK222 HB; revert n0_ n1_ n2_ n3_ n4_ n5_ n6_ n7_ n8_ n9_ n10_ n11_ n12_ n13_ n14_; intro HO196 HO200 HO204 HO210 HO215 HO220 HO227 HO232 BK189 BK190 BK206 BK211 BK216 BK222 HB; (try clear hb); (try clear hb2); (try clear hk); (try clear hi)))
               have n0_ := am (Kd.R_drew HO196.out)
               have n1_ := am (Kd.R_drew HO200.out)
               have n2_ := am (Kd.R_drew HO204.out)
               have n3_ := am (Kd.R_drew HO210.out)
               have n4_ := am (Kd.R_drew HO215.out)
               have n5_ := am (Kd.R_drew HO220.out)
               have n6_ := am (Kd.R_drew HO227.out)
               have n7_ := am (Kd.R_drew HO232.out)
               have n8_ := am (blk_drew BK189.out)
               have n9_ := am (blk_drew BK190.out)
               have n10_ := am (blk_drew BK206.out)
               have n11_ := am (blk_drew BK211.out)
               have n12_ := am (blk_drew BK216.out)
               have n13_ := am (blk_drew BK222.out)
               have n14_ := am (below_drew1 HB.out)
               clear HO196 HO200 HO204 HO210 HO215 HO220 HO227 HO232 BK189 BK190 BK206 BK211 BK216 BK222 HB
               revert n0_ n1_ n2_ n3_ n4_ n5_ n6_ n7_ n8_ n9_ n10_ n11_ n12_ n13_ n14_; intro HO196 HO200 HO204 HO210 HO215 HO220 HO227 HO232 BK189 BK190 BK206 BK211 BK216 BK222 HB
               refine start_ (n := 11) (S := fun w' => w'.cell? ⟨gb189, 0, none⟩ = some (.int .i64 a0_0) ∧ w'.cell? ⟨gb189, 1, none⟩ = some (.slice A0_1 l0_1.length c0_1) ∧ w'.cell? ⟨gb190, 0, none⟩ = some (.int .i64 a1_0) ∧ w'.cell? ⟨gb190, 1, none⟩ = some (.slice A1_1 l1_1.length c1_1)) (ds := []) (mk 11 0) (by kernel_rfl) rfl rfl ⟨(blk_cell BK189.out 0).trans rfl, (blk_cell BK189.out 1).trans rfl, (blk_cell BK190.out 0).trans rfl, (blk_cell BK190.out 1).trans rfl⟩ (fun hHeld => ?_); refine with_tabW laws_FnExactMulMatrix.tab31 laws_FnExactMulMatrix.bits31 (fun HT_ HW_ => ?_)
               generalize w119.drew = w120 at HO196 HO200 HO204 HO210 HO215 HO220 HO227 HO232 BK189 BK190 BK206 BK211 BK216 BK222 HB hHeld ⊢
               refine take_ (i := 0) (N := some 95) (v := ?_) (a' := ?_) (mk 11 1) rfl rfl (take_ofW HT_.out HW_.out (by kernel_rfl)) (fun _ _ _ h => h) (Or.inl ⟨by rfl, ?_⟩) hHeld ?_ ?_
               rotate_left
               ·rintro w' ⟨s0, s1, s2, s3⟩
                go_simp
                with_reducible rfl
               rotate_left
               ·simp only [Act.put, List.setIfInBounds_toArray, List.set_cons_zero, List.set_cons_succ, i64_w, i32_w]
                rfl
               refine take_ (i := 2) (N := some 97) (v := ?_) (a' := ?_) (mk 11 5) rfl rfl (take_ofW HT_.out HW_.out (by kernel_rfl)) (fun _ _ _ h => h) (Or.inl ⟨by rfl, ?_⟩) hHeld ?_ ?_
               rotate_left
               ·rintro w' ⟨s0, s1, s2, s3⟩
                go_simp
                with_reducible rfl
               rotate_left
               ·simp only [Act.put, List.setIfInBounds_toArray, List.set_cons_zero, List.set_cons_succ, i64_w, i32_w]
                rfl
               refine join_ (σ := Value × Value × Value × Nat) 2 (mk 11 511) (fun s_ => [(96, .agg #[.int .i64 t242, s_.1]), (98, .agg #[.int .i64 t246, s_.2.1]), (99, .tuple #[.agg #[.int .i64 t250, s_.2.2.1], .bool t254]), (15, .pointer (some ⟨s_.2.2.2, 0, none⟩)), (94, .tuple #[.agg #[.int .i64 t250, s_.2.2.1], .bool t254]), (100, .agg #[.int .i64 t250, s_.2.2.1]), (101, .bool t254)]) (fun s_ w' => (w'.cell? ⟨gb189, 0, none⟩ = some (.int .i64 a0_0) ∧ w'.cell? ⟨gb189, 1, none⟩ = some (.slice A0_1 l0_1.length c0_1) ∧ w'.cell? ⟨gb190, 0, none⟩ = some (.int .i64 a1_0) ∧ w'.cell? ⟨gb190, 1, none⟩ = some (.slice A1_1 l1_1.length c1_1)) ∧ (Kd.R (Kd.int .i64) 3 w' w.heap.size (fun k_ => some k_ ≠ (v199 : Value).ownBlock ∧ NS Ao68 t202 co68 k_ ∧ NS Ao78 t208 co78 k_ ∧ NS Ao88 t213 co88 k_ ∧ NS Ao98 t218 co98 k_ ∧ NS Ao103 t225 co103 k_ ∧ NS Ao107 t230 co107 k_ ∧ some k_ ≠ (s_.1 : Value).ownBlock ∧ some k_ ≠ (s_.2.1 : Value).ownBlock ∧ some k_ ≠ (s_.2.2.1 : Value).ownBlock) v195 t194) ∧ (Kd.R (Kd.int .i64) 3 w' w.heap.size (fun k_ => some k_ ≠ (v195 : Value).ownBlock ∧ NS Ao68 t202 co68 k_ ∧ NS Ao78 t208 co78 k_ ∧ NS Ao88 t213 co88 k_ ∧ NS Ao98 t218 co98 k_ ∧ NS Ao103 t225 co103 k_ ∧ NS Ao107 t230 co107 k_ ∧ some k_ ≠ (s_.1 : Value).ownBlock ∧ some k_ ≠ (s_.2.1 : Value).ownBlock ∧ some k_ ≠ (s_.2.2.1 : Value).ownBlock) v199 t198) ∧ (Kd.R (Kd.int .i64) 3 w' w.heap.size (fun k_ => some k_ ≠ (v195 : Value).ownBlock ∧ some k_ ≠ (v199 : Value).ownBlock ∧ NS Ao78 t208 co78 k_ ∧ NS Ao88 t213 co88 k_ ∧ NS Ao98 t218 co98 k_ ∧ NS Ao103 t225 co103 k_ ∧ NS Ao107 t230 co107 k_ ∧ some k_ ≠ (s_.1 : Value).ownBlock ∧ some k_ ≠ (s_.2.1 : Value).ownBlock ∧ some k_ ≠ (s_.2.2.1 : Value).ownBlock) (.slice Ao68 t202.length co68) t202) ∧ (Kd.R (Kd.int .i64) 3 w' w.heap.size (fun k_ => some k_ ≠ (v195 : Value).ownBlock ∧ some k_ ≠ (v199 : Value).ownBlock ∧ NS Ao68 t202 co68 k_ ∧ NS Ao88 t213 co88 k_ ∧ NS Ao98 t218 co98 k_ ∧ NS Ao103 t225 co103 k_ ∧ NS Ao107 t230 co107 k_ ∧ some k_ ≠ (s_.1 : Value).ownBlock ∧ some k_ ≠ (s_.2.1 : Value).ownBlock ∧ some k_ ≠ (s_.2.2.1 : Value).ownBlock) (.slice Ao78 t208.length co78) t235) ∧ (Kd.R (Kd.int .i64) 3 w' w.heap.size (fun k_ => some k_ ≠ (v195 : Value).ownBlock ∧ some k_ ≠ (v199 : Value).ownBlock ∧ NS Ao68 t202 co68 k_ ∧ NS Ao78 t208 co78 k_ ∧ NS Ao98 t218 co98 k_ ∧ NS Ao103 t225 co103 k_ ∧ NS Ao107 t230 co107 k_ ∧ some k_ ≠ (s_.1 : Value).ownBlock ∧ some k_ ≠ (s_.2.1 : Value).ownBlock ∧ some k_ ≠ (s_.2.2.1 : Value).ownBlock) (.slice Ao88 t213.length co88) t237) ∧ (Kd.R (Kd.int .i64) 3 w' w.heap.size (fun k_ => some k_ ≠ (v195 : Value).ownBlock ∧ some k_ ≠ (v199 : Value).ownBlock ∧ NS Ao68 t202 co68 k_ ∧ NS Ao78 t208 co78 k_ ∧ NS Ao88 t213 co88 k_ ∧ NS Ao103 t225 co103 k_ ∧ NS Ao107 t230 co107 k_ ∧ some k_ ≠ (s_.1 : Value).ownBlock ∧ some k_ ≠ (s_.2.1 : Value).ownBlock ∧ some k_ ≠ (s_.2.2.1 : Value).ownBlock) (.slice Ao98 t218.length co98) t240) ∧ (Kd.R (Kd.int .i64) 3 w' w.heap.size (fun k_ => some k_ ≠ (v195 : Value).ownBlock ∧ some k_ ≠ (v199 : Value).ownBlock ∧ NS Ao68 t202 co68 k_ ∧ NS Ao78 t208 co78 k_ ∧ NS Ao88 t213 co88 k_ ∧ NS Ao98 t218 co98 k_ ∧ NS Ao107 t230 co107 k_ ∧ some k_ ≠ (s_.1 : Value).ownBlock ∧ some k_ ≠ (s_.2.1 : Value).ownBlock ∧ some k_ ≠ (s_.2.2.1 : Value).ownBlock) (.slice Ao103 t225.length co103) t225) ∧ (Kd.R (Kd.int .i64) 3 w' w.heap.size (fun k_ => some k_ ≠ (v195 : Value).ownBlock ∧ some k_ ≠ (v199 : Value).ownBlock ∧ NS Ao68 t202 co68 k_ ∧ NS Ao78 t208 co78 k_ ∧ NS Ao88 t213 co88 k_ ∧ NS Ao98 t218 co98 k_ ∧ NS Ao103 t225 co103 k_ ∧ some k_ ≠ (s_.1 : Value).ownBlock ∧ some k_ ≠ (s_.2.1 : Value).ownBlock ∧ some k_ ≠ (s_.2.2.1 : Value).ownBlock) (.slice Ao107 t230.length co107) t230) ∧ (Kd.R (Kd.int .i64) 3 w' w.heap.size (fun k_ => some k_ ≠ (v195 : Value).ownBlock ∧ some k_ ≠ (v199 : Value).ownBlock ∧ NS Ao68 t202 co68 k_ ∧ NS Ao78 t208 co78 k_ ∧ NS Ao88 t213 co88 k_ ∧ NS Ao98 t218 co98 k_ ∧ NS Ao103 t225 co103 k_ ∧ NS Ao107 t230 co107 k_ ∧ some k_ ≠ (s_.2.1 : Value).ownBlock ∧ some k_ ≠ (s_.2.2.1 : Value).ownBlock) s_.1 t243) ∧ (Kd.R (Kd.int .i64) 3 w' w.heap.size (fun k_ => some k_ ≠ (v195 : Value).ownBlock ∧ some k_ ≠ (v199 : Value).ownBlock ∧ NS Ao68 t202 co68 k_ ∧ NS Ao78 t208 co78 k_ ∧ NS Ao88 t213 co88 k_ ∧ NS Ao98 t218 co98 k_ ∧ NS Ao103 t225 co103 k_ ∧ NS Ao107 t230 co107 k_ ∧ some k_ ≠ (s_.1 : Value).ownBlock ∧ some k_ ≠ (s_.2.2.1 : Value).ownBlock) s_.2.1 t247) ∧ (Kd.R (Kd.int .i64) 3 w' w.heap.size (fun k_ => some k_ ≠ (v195 : Value).ownBlock ∧ some k_ ≠ (v199 : Value).ownBlock ∧ NS Ao68 t202 co68 k_ ∧ NS Ao78 t208 co78 k_ ∧ NS Ao88 t213 co88 k_ ∧ NS Ao98 t218 co98 k_ ∧ NS Ao103 t225 co103 k_ ∧ NS Ao107 t230 co107 k_ ∧ some k_ ≠ (s_.1 : Value).ownBlock ∧ some k_ ≠ (s_.2.1 : Value).ownBlock) s_.2.2.1 t251) ∧ (w'.heap[gb189]? = some (.cells #[.int .i64 a0_0, .slice A0_1 l0_1.length c0_1] 24 (0, 0))) ∧ (w'.heap[gb190]? = some (.cells #[.int .i64 a1_0, .slice A1_1 l1_1.length c1_1] 24 (0, 0))) ∧ (w'.heap[gb206]? = some (.cells #[.int .i64 t201, .slice Ao68 t202.length co68] 27 (0, 0))) ∧ (w'.heap[gb211]? = some (.cells #[.int .i64 t207, .slice Ao78 t208.length co78] 27 (0, 0))) ∧ (w'.heap[gb216]? = some (.cells #[.int .i64 t212, .slice Ao88 t213.length co88] 27 (0, 0))) ∧ (w'.heap[gb222]? = some (.cells #[.int .i64 t217, .slice Ao98 t218.length co98] 27 (0, 0))) ∧ (w'.heap[s_.2.2.2]? = some (.cells #[.int .i64 0, .slice none 0 0] 27 (0, 0))) ∧ (w.heap.size ≤ s_.2.2.2) ∧ (w.heap.size ≤ s_.2.2.2) ∧ (gb189 ≠ s_.2.2.2) ∧ (s_.2.2.2 ≠ gb189) ∧ (gb190 ≠ s_.2.2.2) ∧ (s_.2.2.2 ≠ gb190) ∧ (gb206 ≠ s_.2.2.2) ∧ (s_.2.2.2 ≠ gb206) ∧ (gb211 ≠ s_.2.2.2) ∧ (s_.2.2.2 ≠ gb211) ∧ (gb216 ≠ s_.2.2.2) ∧ (s_.2.2.2 ≠ gb216) ∧ (gb222 ≠ s_.2.2.2) ∧ (s_.2.2.2 ≠ gb222) ∧ (Below w.heap.size w w')) ?_ ?_
               rotate_left
               ·intro hCont
                refine two_ (i := 1) (j := 8) (Ni := some 96) (Nj := some 15) (mk 11 7) (mk 11 261) rfl rfl rfl rfl (two_of HT_.out (by kernel_rfl)) (by decide) (by decide) (fun K hK => ?_) (fun K hK => ?_)
                ·skip
                 refine goes_ Try.func16 (by kernel_rfl) rfl #[.agg #[.int .i64 a0_0, .slice A0_1 l0_1.length c0_1]] (by rfl) rfl rfl (by (try simp only [List.map_toArray, List.map_cons, List.map_nil]); first | done | rfl | (simp only [List.length_drop, List.length_take]; rfl)) ?_
                 with_reducible refine (laws_toMatrix.calls k a0_0 _ _ l0_1 t242 t243 _ ?side1 ?side2 A43.out).mono ?_
                 (case side1 => repeat (first | exact (Kd.C_below HR0_1.out HB.out) | (with_reducible refine Kd.C_alloc ?_ _) | (with_reducible refine Kd.C_drewN ?_ _) | (with_reducible refine Kd.C_drew ?_)))
                 (case side2 => exact HC0_1.out)
                 rintro e w121 ⟨v244, rfl, ho0, hb⟩
                 refine ⟨_, rfl, ?_⟩
                 have n0_ := el HO196 (Kd.R_base ho0) hb
                 have n1_ := el HO200 (Kd.R_base ho0) hb
                 have n2_ := el HO204 (Kd.R_base ho0) hb
                 have n3_ := el HO210 (Kd.R_base ho0) hb
                 have n4_ := el HO215 (Kd.R_base ho0) hb
                 have n5_ := el HO220 (Kd.R_base ho0) hb
                 have n6_ := el HO227 (Kd.R_base ho0) hb
                 have n7_ := el HO232 (Kd.R_base ho0) hb
                 have n8_ := am (Kd.R_lower (Kd.R_new' (Kd.R_new' (Kd.R_new' (Kd.R_new' (Kd.R_new' (Kd.R_new' (Kd.R_new' (Kd.R_new' ho0 (Kd.R_lt (rz HO196.out))) (Kd.R_lt (rz HO200.out))) (Kd.R_lt (rz HO204.out))) (Kd.R_lt (rz HO210.out))) (Kd.R_lt (rz HO215.out))) (Kd.R_lt (rz HO220.out))) (Kd.R_lt (rz HO227.out))) (Kd.R_lt (rz HO232.out))) (below_size (bw HB.out)))
                 have n9_ := bk BK189 hb
                 have n10_ := bk BK190 hb
                 have n11_ := bk BK206 hb
                 have n12_ := bk BK211 hb
                 have n13_ := bk BK216 hb
                 have n14_ := bk BK222 hb
                 have n15_ := am (below_step (bw HB.out) hb)
                 clear HO196 HO200 HO204 HO210 HO215 HO220 HO227 HO232 BK189 BK190 BK206 BK211 BK216 BK222 HB
                 revert n0_ n1_ n2_ n3_ n4_ n5_ n6_ n7_ n8_ n9_ n10_ n11_ n12_ n13_ n14_ n15_; intro HO196 HO200 HO204 HO210 HO215 HO220 HO227 HO232 HO245 BK189 BK190 BK206 BK211 BK216 BK222 HB
                 (try clear hb)
                 (try clear hb2)
                 (try clear hk)
                 (try clear hi)
                 (try clear ho0)
                 refine hK.out _ _ ⟨(blk_cell BK189.out 0).trans rfl, (blk_cell BK189.out 1).trans rfl, (blk_cell BK190.out 0).trans rfl, (blk_cell BK190.out 1).trans rfl⟩ (fun hHeld => ?_)
                 clear hK K
                 refine norm_ (a' := ?_) ?_ ?_
                 rotate_left
                 ·show Act.put _ (some 96) _ = _
                  simp only [Act.put, List.setIfInBounds_toArray, List.set_cons_zero, List.set_cons_succ, i64_w, i32_w]
                  rfl
                 refine two_ (i := 3) (j := 8) (Ni := some 98) (Nj := some 15) (mk 11 15) (mk 11 263) rfl rfl rfl rfl (two_of HT_.out (by kernel_rfl)) (by decide) (by decide) (fun K hK => ?_) (fun K hK => ?_)
                 ·skip
                  refine goes_ Try.func16 (by kernel_rfl) rfl #[.agg #[.int .i64 a1_0, .slice A1_1 l1_1.length c1_1]] (by rfl) rfl rfl (by (try simp only [List.map_toArray, List.map_cons, List.map_nil]); first | done | rfl | (simp only [List.length_drop, List.length_take]; rfl)) ?_
                  with_reducible refine (laws_toMatrix.calls k a1_0 _ _ l1_1 t246 t247 _ ?side1 ?side2 A44.out).mono ?_
                  (case side1 => repeat (first | exact (Kd.C_below HR1_1.out HB.out) | (with_reducible refine Kd.C_alloc ?_ _) | (with_reducible refine Kd.C_drewN ?_ _) | (with_reducible refine Kd.C_drew ?_)))
                  (case side2 => exact HC1_1.out)
                  rintro e w122 ⟨v248, rfl, ho0, hb⟩
                  refine ⟨_, rfl, ?_⟩
                  have n0_ := el HO196 (Kd.R_base ho0) hb
                  have n1_ := el HO200 (Kd.R_base ho0) hb
                  have n2_ := el HO204 (Kd.R_base ho0) hb
                  have n3_ := el HO210 (Kd.R_base ho0) hb
                  have n4_ := el HO215 (Kd.R_base ho0) hb
                  have n5_ := el HO220 (Kd.R_base ho0) hb
                  have n6_ := el HO227 (Kd.R_base ho0) hb
                  have n7_ := el HO232 (Kd.R_base ho0) hb
                  have n8_ := el HO245 (Kd.R_base ho0) hb
                  have n9_ := am (Kd.R_lower (Kd.R_new' (Kd.R_new' (Kd.R_new' (Kd.R_new' (Kd.R_new' (Kd.R_new' (Kd.R_new' (Kd.R_new' (Kd.R_new' ho0 (Kd.R_lt (rz HO196.out))) (Kd.R_lt (rz HO200.out))) (Kd.R_lt (rz HO204.out))) (Kd.R_lt (rz HO210.out))) (Kd.R_lt (rz HO215.out))) (Kd.R_lt (rz HO220.out))) (Kd.R_lt (rz HO227.out))) (Kd.R_lt (rz HO232.out))) (Kd.R_lt (rz HO245.out))) (below_size (bw HB.out)))
                  have n10_ := bk BK189 hb
                  have n11_ := bk BK190 hb
                  have n12_ := bk BK206 hb
                  have n13_ := bk BK211 hb
                  have n14_ := bk BK216 hb
                  have n15_ := bk BK222 hb
                  have n16_ := am (below_step (bw HB.out) hb)
                  clear HO196 HO200 HO204 HO210 HO215 HO220 HO227 HO232 HO245 BK189 BK190 BK206 BK211 BK216 BK222 HB
                  revert n0_ n1_ n2_ n3_ n4_ n5_ n6_ n7_ n8_ n9_ n10_ n11_ n12_ n13_ n14_ n15_ n16_; intro HO196 HO200 HO204 HO210 HO215 HO220 HO227 HO232 HO245 HO249 BK189 BK190 BK206 BK211 BK216 BK222 HB
                  (try clear hb)
                  (try clear hb2)
                  (try clear hk)
                  (try clear hi)
                  (try clear ho0)
                  obtain ⟨Ao123, co123, eo123⟩ := Kd.R_slice HO245.out
                  (first | subst eo123 | (injection eo123 with f1_ f2_ f3_; have f4_ := f1_.symm; have f5_ := f3_.symm; clear f1_ f2_ f3_; subst f4_; subst f5_))
                  obtain ⟨Ao124, co124, eo124⟩ := Kd.R_slice HO249.out
                  (first | subst eo124 | (injection eo124 with f1_ f2_ f3_; have f4_ := f1_.symm; have f5_ := f3_.symm; clear f1_ f2_ f3_; subst f4_; subst f5_))
                  refine hK.out _ _ ⟨(blk_cell BK189.out 0).trans rfl, (blk_cell BK189.out 1).trans rfl, (blk_cell BK190.out 0).trans rfl, (blk_cell BK190.out 1).trans rfl⟩ (fun hHeld => ?_)
                  clear hK K
                  refine norm_ (a' := ?_) ?_ ?_
                  rotate_left
                  ·show Act.put _ (some 98) _ = _
                   simp only [Act.put, List.setIfInBounds_toArray, List.set_cons_zero, List.set_cons_succ, i64_w, i32_w]
                   rfl
                  refine two_ (i := 4) (j := 8) (Ni := some 99) (Nj := some 15) (mk 11 31) (mk 11 271) rfl rfl rfl rfl (two_of HT_.out (by kernel_rfl)) (by decide) (by decide) (fun K hK => ?_) (fun K hK => ?_)
                  ·skip
                   refine goes_ Try.func28 (by kernel_rfl) rfl #[.agg #[.int .i64 t242, .slice Ao123 t243.length co123], .agg #[.int .i64 t246, .slice Ao124 t247.length co124]] (by rfl) rfl rfl (by (try simp only [List.map_toArray, List.map_cons, List.map_nil]); first | done | rfl | (simp only [List.length_drop, List.length_take]; rfl)) ?_
                   with_reducible refine (impl_MulMatrix.calls k t242 _ _ t243 t246 _ _ t247 t250 t251 t254 _ ?side1 ?side2 ?side3 ?side4 A45.out).mono ?_
                   (case side1 => repeat (first | exact (Kd.R_reads' HO245.out).2.2 | (with_reducible refine Kd.C_alloc ?_ _) | (with_reducible refine Kd.C_drewN ?_ _) | (with_reducible refine Kd.C_drew ?_)))
                   (case side2 => exact (Kd.R_reads' HO245.out).2.1)
                   (case side3 => repeat (first | exact (Kd.R_reads' HO249.out).2.2 | (with_reducible refine Kd.C_alloc ?_ _) | (with_reducible refine Kd.C_drewN ?_ _) | (with_reducible refine Kd.C_drew ?_)))
                   (case side4 => exact (Kd.R_reads' HO249.out).2.1)
                   rintro e w125 ⟨v252, rfl, ho0, hb⟩
                   refine ⟨_, rfl, ?_⟩
                   have n0_ := el HO196 (Kd.R_base ho0) hb
                   have n1_ := el HO200 (Kd.R_base ho0) hb
                   have n2_ := el HO204 (Kd.R_base ho0) hb
                   have n3_ := el HO210 (Kd.R_base ho0) hb
                   have n4_ := el HO215 (Kd.R_base ho0) hb
                   have n5_ := el HO220 (Kd.R_base ho0) hb
                   have n6_ := el HO227 (Kd.R_base ho0) hb
                   have n7_ := el HO232 (Kd.R_base ho0) hb
                   have n8_ := el HO245 (Kd.R_base ho0) hb
                   have n9_ := el HO249 (Kd.R_base ho0) hb
                   have n10_ := am (Kd.R_lower (Kd.R_new' (Kd.R_new' (Kd.R_new' (Kd.R_new' (Kd.R_new' (Kd.R_new' (Kd.R_new' (Kd.R_new' (Kd.R_new' (Kd.R_new' ho0 (Kd.R_lt (rz HO196.out))) (Kd.R_lt (rz HO200.out))) (Kd.R_lt (rz HO204.out))) (Kd.R_lt (rz HO210.out))) (Kd.R_lt (rz HO215.out))) (Kd.R_lt (rz HO220.out))) (Kd.R_lt (rz HO227.out))) (Kd.R_lt (rz HO232.out))) (Kd.R_lt (rz HO245.out))) (Kd.R_lt (rz HO249.out))) (below_size (bw HB.out)))
                   have n11_ := bk BK189 hb
                   have n12_ := bk BK190 hb
                   have n13_ := bk BK206 hb
                   have n14_ := bk BK211 hb
                   have n15_ := bk BK216 hb
                   have n16_ := bk BK222 hb
                   have n17_ := am (below_step (bw HB.out) hb)
                   clear HO196 HO200 HO204 HO210 HO215 HO220 HO227 HO232 HO245 HO249 BK189 BK190 BK206 BK211 BK216 BK222 HB
                   revert n0_ n1_ n2_ n3_ n4_ n5_ n6_ n7_ n8_ n9_ n10_ n11_ n12_ n13_ n14_ n15_ n16_ n17_; intro HO196 HO200 HO204 HO210 HO215 HO220 HO227 HO232 HO245 HO249 HO253 BK189 BK190 BK206 BK211 BK216 BK222 HB
                   (try clear hb)
                   (try clear hb2)
                   (try clear hk)
                   (try clear hi)
                   (try clear ho0)
                   refine hK.out _ _ ⟨(blk_cell BK189.out 0).trans rfl, (blk_cell BK189.out 1).trans rfl, (blk_cell BK190.out 0).trans rfl, (blk_cell BK190.out 1).trans rfl⟩ (fun hHeld => ?_)
                   clear hK K
                   refine norm_ (a' := ?_) ?_ ?_
                   rotate_left
                   ·show Act.put _ (some 99) _ = _
                    simp only [Act.put, List.setIfInBounds_toArray, List.set_cons_zero, List.set_cons_succ, i64_w, i32_w]
                    rfl
                   refine pv 5 94 11 63 HT_ ?_
                   refine pv 6 100 11 127 HT_ ?_
                   refine pv 7 101 11 255 HT_ ?_
                   refine one_ (i := 8) (N := some 15) (mk 11 511) rfl rfl (one_of HT_.out (by kernel_rfl)) (by decide) (fun K hK => ?_)
                   refine box_step ?hg (N := 15) ?hd (cs := #[.int .i64 0, .slice none 0 0]) (t := 27) ?hr ?_; (case hd => rfl); (case hg => rfl); (case hr => first | (go_simp; done) | (go_simp; rfl))
                   intro gb255 hg w126 hbox hb
                   have n0_ := am (Kd.R_below (rz HO196.out) hb)
                   have n1_ := am (Kd.R_below (rz HO200.out) hb)
                   have n2_ := am (Kd.R_below (rz HO204.out) hb)
                   have n3_ := am (Kd.R_below (rz HO210.out) hb)
                   have n4_ := am (Kd.R_below (rz HO215.out) hb)
                   have n5_ := am (Kd.R_below (rz HO220.out) hb)
                   have n6_ := am (Kd.R_below (rz HO227.out) hb)
                   have n7_ := am (Kd.R_below (rz HO232.out) hb)
                   have n8_ := am (Kd.R_below (rz HO245.out) hb)
                   have n9_ := am (Kd.R_below (rz HO249.out) hb)
                   have n10_ := am (Kd.R_below (rz HO253.out) hb)
                   have n11_ := bk BK189 hb
                   have n12_ := bk BK190 hb
                   have n13_ := bk BK206 hb
                   have n14_ := bk BK211 hb
                   have n15_ := bk BK216 hb
                   have n16_ := bk BK222 hb
                   have n17_ := am (below_step (bw HB.out) hb)
                   have n18_ := am (hbox)
                   have n19_ := am ((by rw [hg]; exact (below_size (bw HB.out)) : w.heap.size ≤ gb255))
                   have n20_ := am ((by rw [hg]; exact (below_size (bw HB.out)) : w.heap.size ≤ gb255))
                   have n21_ := am ((by rw [hg]; exact Nat.ne_of_lt (blk_lt (kz BK189.out)) : gb189 ≠ gb255))
                   have n22_ := am ((by rw [hg]; exact Nat.ne_of_gt (blk_lt (kz BK189.out)) : gb255 ≠ gb189))
                   have n23_ := am ((by rw [hg]; exact Nat.ne_of_lt (blk_lt (kz BK190.out)) : gb190 ≠ gb255))
                   have n24_ := am ((by rw [hg]; exact Nat.ne_of_gt (blk_lt (kz BK190.out)) : gb255 ≠ gb190))
                   have n25_ := am ((by rw [hg]; exact Nat.ne_of_lt (blk_lt (kz BK206.out)) : gb206 ≠ gb255))
                   have n26_ := am ((by rw [hg]; exact Nat.ne_of_gt (blk_lt (kz BK206.out)) : gb255 ≠ gb206))
                   have n27_ := am ((by rw [hg]; exact Nat.ne_of_lt (blk_lt (kz BK211.out)) : gb211 ≠ gb255))
                   have n28_ := am ((by rw [hg]; exact Nat.ne_of_gt (blk_lt (kz BK211.out)) : gb255 ≠ gb211))
                   have n29_ := am ((by rw [hg]; exact Nat.ne_of_lt (blk_lt (kz BK216.out)) : gb216 ≠ gb255))
                   have n30_ := am ((by rw [hg]; exact Nat.ne_of_gt (blk_lt (kz BK216.out)) : gb255 ≠ gb216))
                   have n31_ := am ((by rw [hg]; exact Nat.ne_of_lt (blk_lt (kz BK222.out)) : gb222 ≠ gb255))
                   have n32_ := am ((by rw [hg]; exact Nat.ne_of_gt (blk_lt (kz BK222.out)) : gb255 ≠ gb222))
                   clear HO196 HO200 HO204 HO210 HO215 HO220 HO227 HO232 HO245 HO249 HO253 BK189 BK190 BK206 BK211 BK216 BK222 HB
                   revert n0_ n1_ n2_ n3_ n4_ n5_ n6_ n7_ n8_ n9_ n10_ n11_ n12_ n13_ n14_ n15_ n16_ n17_ n18_ n19_ n20_ n21_ n22_ n23_ n24_ n25_ n26_ n27_ n28_ n29_ n30_ n31_ n32_; intro HO196 HO200 HO204 HO210 HO215 HO220 HO227 HO232 HO245 HO249 HO253 BK189 BK190 BK206 BK211 BK216 BK222 HB BK255 GW255 GE255 NB189_255 NB255_189 NB190_255 NB255_190 NB206_255 NB255_206 NB211_255 NB255_211 NB216_255 NB255_216 NB222_255 NB255_222; clear hb hbox hg
                   refine hK.out _ _ ⟨(blk_cell BK189.out 0).trans rfl, (blk_cell BK189.out 1).trans rfl, (blk_cell BK190.out 0).trans rfl, (blk_cell BK190.out 1).trans rfl⟩ (fun hHeld => ?_)
                   clear hK K
                   refine norm_ (a' := ?_) ?_ ?_
                   rotate_left
                   ·show Act.put _ (some 15) _ = _
                    simp only [Act.put, List.setIfInBounds_toArray, List.set_cons_zero, List.set_cons_succ, i64_w, i32_w]
                    rfl
                   exact norm_ (by simp only [putAll, Act.put, List.setIfInBounds_toArray, List.set_cons_zero, List.set_cons_succ]) (hCont (.slice Ao123 t243.length co123, .slice Ao124 t247.length co124, v252, gb255) _ ⟨hHeld, (by (with_reducible repeat (first | apply ra | apply rn | apply rw_)); exact Kd.R_mono HO196.out (fun _ hk => ⟨hk.1.1.1.1, ⟨hk.1.1.1.2.1, ⟨hk.1.1.1.2.2.1, ⟨hk.1.1.1.2.2.2.1, ⟨hk.1.1.1.2.2.2.2.1, ⟨hk.1.1.1.2.2.2.2.2.1, ⟨hk.1.1.1.2.2.2.2.2.2, ⟨hk.1.1.2, ⟨hk.1.2, hk.2⟩⟩⟩⟩⟩⟩⟩⟩⟩)), (by (with_reducible repeat (first | apply ra | apply rn | apply rw_)); exact Kd.R_mono HO200.out (fun _ hk => ⟨hk.1.1.1.1, ⟨hk.1.1.1.2.1, ⟨hk.1.1.1.2.2.1, ⟨hk.1.1.1.2.2.2.1, ⟨hk.1.1.1.2.2.2.2.1, ⟨hk.1.1.1.2.2.2.2.2.1, ⟨hk.1.1.1.2.2.2.2.2.2, ⟨hk.1.1.2, ⟨hk.1.2, hk.2⟩⟩⟩⟩⟩⟩⟩⟩⟩)), (by (with_reducible repeat (first | apply ra | apply rn | apply rw_)); exact Kd.R_mono HO204.out (fun _ hk => ⟨hk.1.1.1.1, ⟨hk.1.1.1.2.1, ⟨hk.1.1.1.2.2.1, ⟨hk.1.1.1.2.2.2.1, ⟨hk.1.1.1.2.2.2.2.1, ⟨hk.1.1.1.2.2.2.2.2.1, ⟨hk.1.1.1.2.2.2.2.2.2, ⟨hk.1.1.2, ⟨hk.1.2, hk.2⟩⟩⟩⟩⟩⟩⟩⟩⟩)), (by (with_reducible repeat (first | apply ra | apply rn | apply rw_)); exact Kd.R_mono HO210.out (fun _ hk => ⟨hk.1.1.1.1, ⟨hk.1.1.1.2.1, ⟨hk.1.1.1.2.2.1, ⟨hk.1.1.1.2.2.2.1, ⟨hk.1.1.1.2.2.2.2.1, ⟨hk.1.1.1.2.2.2.2.2.1, ⟨hk.1.1.1.2.2.2.2.2.2, ⟨hk.1.1.2, ⟨hk.1.2, hk.2⟩⟩⟩⟩⟩⟩⟩⟩⟩)), (by (with_reducible repeat (first | apply ra | apply rn | apply rw_)); exact Kd.R_mono HO215.out (fun _ hk => ⟨hk.1.1.1.1, ⟨hk.1.1.1.2.1, ⟨hk.1.1.1.2.2.1, ⟨hk.1.1.1.2.2.2.1, ⟨hk.1.1.1.2.2.2.2.1, ⟨hk.1.1.1.2.2.2.2.2.1, ⟨hk.1.1.1.2.2.2.2.2.2, ⟨hk.1.1.2, ⟨hk.1.2, hk.2⟩⟩⟩⟩⟩⟩⟩⟩⟩)), (by (with_reducible repeat (first | apply ra | apply rn | apply rw_)); exact Kd.R_mono HO220.out (fun _ hk => ⟨hk.1.1.1.1, ⟨hk.1.1.1.2.1, ⟨hk.1.1.1.2.2.1, ⟨hk.1.1.1.2.2.2.1, ⟨hk.1.1.1.2.2.2.2.1, ⟨hk.1.1.1.2.2.2.2.2.1, ⟨hk.1.1.1.2.2.2.2.2.2, ⟨hk.1.1.2, ⟨hk.1.2, hk.2⟩⟩⟩⟩⟩⟩⟩⟩⟩)), (by (with_reducible repeat (first | apply ra | apply rn | apply rw_)); exact Kd.R_mono HO227.out (fun _ hk => ⟨hk.1.1.1.1, ⟨hk.1.1.1.2.1, ⟨hk.1.1.1.2.2.1, ⟨hk.1.1.1.2.2.2.1, ⟨hk.1.1.1.2.2.2.2.1, ⟨hk.1.1.1.2.2.2.2.2.1, ⟨hk.1.1.1.2.2.2.2.2.2, ⟨hk.1.1.2, ⟨hk.1.2, hk.2⟩⟩⟩⟩⟩⟩⟩⟩⟩)), (by (with_reducible repeat (first | apply ra | apply rn | apply rw_)); exact Kd.R_mono HO232.out (fun _ hk => ⟨hk.1.1.1.1, ⟨hk.1.1.1.2.1, ⟨hk.1.1.1.2.2.1, ⟨hk.1.1.1.2.2.2.1, ⟨hk.1.1.1.2.2.2.2.1, ⟨hk.1.1.1.2.2.2.2.2.1, ⟨hk.1.1.1.2.2.2.2.2.2, ⟨hk.1.1.2, ⟨hk.1.2, hk.2⟩⟩⟩⟩⟩⟩⟩⟩⟩)), (by (with_reducible repeat (first | apply ra | apply rn | apply rw_)); exact Kd.R_mono HO245.out (fun _ hk => ⟨hk.1.1.1.1.1.1.1.1.1.2, ⟨hk.1.1.1.1.1.1.1.1.2, ⟨hk.1.1.1.1.1.1.1.2, ⟨hk.1.1.1.1.1.1.2, ⟨hk.1.1.1.1.1.2, ⟨hk.1.1.1.1.2, ⟨hk.1.1.1.2, ⟨hk.1.1.2, ⟨hk.1.2, hk.2⟩⟩⟩⟩⟩⟩⟩⟩⟩)), (by (with_reducible repeat (first | apply ra | apply rn | apply rw_)); exact Kd.R_mono HO249.out (fun _ hk => ⟨hk.1.1.1.1.1.1.1.1.1.2, ⟨hk.1.1.1.1.1.1.1.1.2, ⟨hk.1.1.1.1.1.1.1.2, ⟨hk.1.1.1.1.1.1.2, ⟨hk.1.1.1.1.1.2, ⟨hk.1.1.1.1.2, ⟨hk.1.1.1.2, ⟨hk.1.1.2, ⟨hk.1.2, hk.2⟩⟩⟩⟩⟩⟩⟩⟩⟩)), (by (with_reducible repeat (first | apply ra | apply rn | apply rw_)); exact Kd.R_mono HO253.out (fun _ hk => ⟨hk.1.1.1.1.1.1.1.1.1.2, ⟨hk.1.1.1.1.1.1.1.1.2, ⟨hk.1.1.1.1.1.1.1.2, ⟨hk.1.1.1.1.1.1.2, ⟨hk.1.1.1.1.1.2, ⟨hk.1.1.1.1.2, ⟨hk.1.1.1.2, ⟨hk.1.1.2, ⟨hk.1.2, hk.2⟩⟩⟩⟩⟩⟩⟩⟩⟩)), (kz BK189.out), (kz BK190.out), (kz BK206.out), (kz BK211.out), (kz BK216.out), (kz BK222.out), (kz BK255.out), GW255.out, GE255.out, NB189_255.out, NB255_189.out, NB190_255.out, NB255_190.out, NB206_255.out, NB255_206.out, NB211_255.out, NB255_211.out, NB216_255.out, NB255_216.out, NB222_255.out, NB255_222.out, (bw HB.out)⟩)
                  ·skip
                   refine box_step ?hg (N := 15) ?hd (cs := #[.int .i64 0, .slice none 0 0]) (t := 27) ?hr ?_; (case hd => rfl); (case hg => rfl); (case hr => first | (go_simp; done) | (go_simp; rfl))
                   intro gb255 hg w123 hbox hb
                   have n0_ := am (Kd.R_below (rz HO196.out) hb)
                   have n1_ := am (Kd.R_below (rz HO200.out) hb)
                   have n2_ := am (Kd.R_below (rz HO204.out) hb)
                   have n3_ := am (Kd.R_below (rz HO210.out) hb)
                   have n4_ := am (Kd.R_below (rz HO215.out) hb)
                   have n5_ := am (Kd.R_below (rz HO220.out) hb)
                   have n6_ := am (Kd.R_below (rz HO227.out) hb)
                   have n7_ := am (Kd.R_below (rz HO232.out) hb)
                   have n8_ := am (Kd.R_below (rz HO245.out) hb)
                   have n9_ := am (Kd.R_below (rz HO249.out) hb)
                   have n10_ := bk BK189 hb
                   have n11_ := bk BK190 hb
                   have n12_ := bk BK206 hb
                   have n13_ := bk BK211 hb
                   have n14_ := bk BK216 hb
                   have n15_ := bk BK222 hb
                   have n16_ := am (below_step (bw HB.out) hb)
                   have n17_ := am (hbox)
                   have n18_ := am ((by rw [hg]; exact (below_size (bw HB.out)) : w.heap.size ≤ gb255))
                   have n19_ := am ((by rw [hg]; exact (below_size (bw HB.out)) : w.heap.size ≤ gb255))
                   have n20_ := am ((by rw [hg]; exact Nat.ne_of_lt (blk_lt (kz BK189.out)) : gb189 ≠ gb255))
                   have n21_ := am ((by rw [hg]; exact Nat.ne_of_gt (blk_lt (kz BK189.out)) : gb255 ≠ gb189))
                   have n22_ := am ((by rw [hg]; exact Nat.ne_of_lt (blk_lt (kz BK190.out)) : gb190 ≠ gb255))
                   have n23_ := am ((by rw [hg]; exact Nat.ne_of_gt (blk_lt (kz BK190.out)) : gb255 ≠ gb190))
                   have n24_ := am ((by rw [hg]; exact Nat.ne_of_lt (blk_lt (kz BK206.out)) : gb206 ≠ gb255))
                   have n25_ := am ((by rw [hg]; exact Nat.ne_of_gt (blk_lt (kz BK206.out)) : gb255 ≠ gb206))
                   have n26_ := am ((by rw [hg]; exact Nat.ne_of_lt (blk_lt (kz BK211.out)) : gb211 ≠ gb255))
                   have n27_ := am ((by rw [hg]; exact Nat.ne_of_gt (blk_lt (kz BK211.out)) : gb255 ≠ gb211))
                   have n28_ := am ((by rw [hg]; exact Nat.ne_of_lt (blk_lt (kz BK216.out)) : gb216 ≠ gb255))
                   have n29_ := am ((by rw [hg]; exact Nat.ne_of_gt (blk_lt (kz BK216.out)) : gb255 ≠ gb216))
                   have n30_ := am ((by rw [hg]; exact Nat.ne_of_lt (blk_lt (kz BK222.out)) : gb222 ≠ gb255))
                   have n31_ := am ((by rw [hg]; exact Nat.ne_of_gt (blk_lt (kz BK222.out)) : gb255 ≠ gb222))
                   clear HO196 HO200 HO204 HO210 HO215 HO220 HO227 HO232 HO245 HO249 BK189 BK190 BK206 BK211 BK216 BK222 HB
                   revert n0_ n1_ n2_ n3_ n4_ n5_ n6_ n7_ n8_ n9_ n10_ n11_ n12_ n13_ n14_ n15_ n16_ n17_ n18_ n19_ n20_ n21_ n22_ n23_ n24_ n25_ n26_ n27_ n28_ n29_ n30_ n31_; intro HO196 HO200 HO204 HO210 HO215 HO220 HO227 HO232 HO245 HO249 BK189 BK190 BK206 BK211 BK216 BK222 HB BK255 GW255 GE255 NB189_255 NB255_189 NB190_255 NB255_190 NB206_255 NB255_206 NB211_255 NB255_211 NB216_255 NB255_216 NB222_255 NB255_222; clear hb hbox hg
                   obtain ⟨Ao124, co124, eo124⟩ := Kd.R_slice HO245.out
                   (first | subst eo124 | (injection eo124 with f1_ f2_ f3_; have f4_ := f1_.symm; have f5_ := f3_.symm; clear f1_ f2_ f3_; subst f4_; subst f5_))
                   obtain ⟨Ao125, co125, eo125⟩ := Kd.R_slice HO249.out
                   (first | subst eo125 | (injection eo125 with f1_ f2_ f3_; have f4_ := f1_.symm; have f5_ := f3_.symm; clear f1_ f2_ f3_; subst f4_; subst f5_))
                   refine hK.out _ _ ⟨(blk_cell BK189.out 0).trans rfl, (blk_cell BK189.out 1).trans rfl, (blk_cell BK190.out 0).trans rfl, (blk_cell BK190.out 1).trans rfl⟩ (fun hHeld => ?_)
                   clear hK K
                   refine norm_ (a' := ?_) ?_ ?_
                   rotate_left
                   ·show Act.put _ (some 15) _ = _
                    simp only [Act.put, List.setIfInBounds_toArray, List.set_cons_zero, List.set_cons_succ, i64_w, i32_w]
                    rfl
                   refine one_ (i := 4) (N := some 99) (mk 11 287) rfl rfl (one_of HT_.out (by kernel_rfl)) (by decide) (fun K hK => ?_)
                   refine goes_ Try.func28 (by kernel_rfl) rfl #[.agg #[.int .i64 t242, .slice Ao124 t243.length co124], .agg #[.int .i64 t246, .slice Ao125 t247.length co125]] (by rfl) rfl rfl (by (try simp only [List.map_toArray, List.map_cons, List.map_nil]); first | done | rfl | (simp only [List.length_drop, List.length_take]; rfl)) ?_
                   with_reducible refine (impl_MulMatrix.calls k t242 _ _ t243 t246 _ _ t247 t250 t251 t254 _ ?side1 ?side2 ?side3 ?side4 A45.out).mono ?_
                   (case side1 => repeat (first | exact (Kd.R_reads' HO245.out).2.2 | (with_reducible refine Kd.C_alloc ?_ _) | (with_reducible refine Kd.C_drewN ?_ _) | (with_reducible refine Kd.C_drew ?_)))
                   (case side2 => exact (Kd.R_reads' HO245.out).2.1)
                   (case side3 => repeat (first | exact (Kd.R_reads' HO249.out).2.2 | (with_reducible refine Kd.C_alloc ?_ _) | (with_reducible refine Kd.C_drewN ?_ _) | (with_reducible refine Kd.C_drew ?_)))
                   (case side4 => exact (Kd.R_reads' HO249.out).2.1)
                   rintro e w126 ⟨v252, rfl, ho0, hb⟩
                   refine ⟨_, rfl, ?_⟩
                   have n0_ := el HO196 (Kd.R_base ho0) hb
                   have n1_ := el HO200 (Kd.R_base ho0) hb
                   have n2_ := el HO204 (Kd.R_base ho0) hb
                   have n3_ := el HO210 (Kd.R_base ho0) hb
                   have n4_ := el HO215 (Kd.R_base ho0) hb
                   have n5_ := el HO220 (Kd.R_base ho0) hb
                   have n6_ := el HO227 (Kd.R_base ho0) hb
                   have n7_ := el HO232 (Kd.R_base ho0) hb
                   have n8_ := el HO245 (Kd.R_base ho0) hb
                   have n9_ := el HO249 (Kd.R_base ho0) hb
                   have n10_ := am (Kd.R_lower (Kd.R_new' (Kd.R_new' (Kd.R_new' (Kd.R_new' (Kd.R_new' (Kd.R_new' (Kd.R_new' (Kd.R_new' (Kd.R_new' (Kd.R_new' ho0 (Kd.R_lt (rz HO196.out))) (Kd.R_lt (rz HO200.out))) (Kd.R_lt (rz HO204.out))) (Kd.R_lt (rz HO210.out))) (Kd.R_lt (rz HO215.out))) (Kd.R_lt (rz HO220.out))) (Kd.R_lt (rz HO227.out))) (Kd.R_lt (rz HO232.out))) (Kd.R_lt (rz HO245.out))) (Kd.R_lt (rz HO249.out))) (below_size (bw HB.out)))
                   have n11_ := bk BK189 hb
                   have n12_ := bk BK190 hb
                   have n13_ := bk BK206 hb
                   have n14_ := bk BK211 hb
                   have n15_ := bk BK216 hb
                   have n16_ := bk BK222 hb
                   have n17_ := bk BK255 hb
                   have n18_ := am (below_step (bw HB.out) hb)
                   clear HO196 HO200 HO204 HO210 HO215 HO220 HO227 HO232 HO245 HO249 BK189 BK190 BK206 BK211 BK216 BK222 BK255 HB
                   revert n0_ n1_ n2_ n3_ n4_ n5_ n6_ n7_ n8_ n9_ n10_ n11_ n12_ n13_ n14_ n15_ n16_ n17_ n18_; intro HO196 HO200 HO204 HO210 HO215 HO220 HO227 HO232 HO245 HO249 HO253 BK189 BK190 BK206 BK211 BK216 BK222 BK255 HB
                   (try clear hb)
                   (try clear hb2)
                   (try clear hk)
                   (try clear hi)
                   (try clear ho0)
                   refine hK.out _ _ ⟨(blk_cell BK189.out 0).trans rfl, (blk_cell BK189.out 1).trans rfl, (blk_cell BK190.out 0).trans rfl, (blk_cell BK190.out 1).trans rfl⟩ (fun hHeld => ?_)
                   clear hK K
                   refine norm_ (a' := ?_) ?_ ?_
                   rotate_left
                   ·show Act.put _ (some 99) _ = _
                    simp only [Act.put, List.setIfInBounds_toArray, List.set_cons_zero, List.set_cons_succ, i64_w, i32_w]
                    rfl
                   refine pv 5 94 11 319 HT_ ?_
                   refine pv 6 100 11 383 HT_ ?_
                   refine pv 7 101 11 511 HT_ ?_
                   exact norm_ (by simp only [putAll, Act.put, List.setIfInBounds_toArray, List.set_cons_zero, List.set_cons_succ]) (hCont (.slice Ao124 t243.length co124, .slice Ao125 t247.length co125, v252, gb255) _ ⟨hHeld, (by (with_reducible repeat (first | apply ra | apply rn | apply rw_)); exact Kd.R_mono HO196.out (fun _ hk => ⟨hk.1.1.1.1, ⟨hk.1.1.1.2.1, ⟨hk.1.1.1.2.2.1, ⟨hk.1.1.1.2.2.2.1, ⟨hk.1.1.1.2.2.2.2.1, ⟨hk.1.1.1.2.2.2.2.2.1, ⟨hk.1.1.1.2.2.2.2.2.2, ⟨hk.1.1.2, ⟨hk.1.2, hk.2⟩⟩⟩⟩⟩⟩⟩⟩⟩)), (by (with_reducible repeat (first | apply ra | apply rn | apply rw_)); exact Kd.R_mono HO200.out (fun _ hk => ⟨hk.1.1.1.1, ⟨hk.1.1.1.2.1, ⟨hk.1.1.1.2.2.1, ⟨hk.1.1.1.2.2.2.1, ⟨hk.1.1.1.2.2.2.2.1, ⟨hk.1.1.1.2.2.2.2.2.1, ⟨hk.1.1.1.2.2.2.2.2.2, ⟨hk.1.1.2, ⟨hk.1.2, hk.2⟩⟩⟩⟩⟩⟩⟩⟩⟩)), (by (with_reducible repeat (first | apply ra | apply rn | apply rw_)); exact Kd.R_mono HO204.out (fun _ hk => ⟨hk.1.1.1.1, ⟨hk.1.1.1.2.1, ⟨hk.1.1.1.2.2.1, ⟨hk.1.1.1.2.2.2.1, ⟨hk.1.1.1.2.2.2.2.1, ⟨hk.1.1.1.2.2.2.2.2.1, ⟨hk.1.1.1.2.2.2.2.2.2, ⟨hk.1.1.2, ⟨hk.1.2, hk.2⟩⟩⟩⟩⟩⟩⟩⟩⟩)), (by (with_reducible repeat (first | apply ra | apply rn | apply rw_)); exact Kd.R_mono HO210.out (fun _ hk => ⟨hk.1.1.1.1, ⟨hk.1.1.1.2.1, ⟨hk.1.1.1.2.2.1, ⟨hk.1.1.1.2.2.2.1, ⟨hk.1.1.1.2.2.2.2.1, ⟨hk.1.1.1.2.2.2.2.2.1, ⟨hk.1.1.1.2.2.2.2.2.2, ⟨hk.1.1.2, ⟨hk.1.2, hk.2⟩⟩⟩⟩⟩⟩⟩⟩⟩)), (by (with_reducible repeat (first | apply ra | apply rn | apply rw_)); exact Kd.R_mono HO215.out (fun _ hk => ⟨hk.1.1.1.1, ⟨hk.1.1.1.2.1, ⟨hk.1.1.1.2.2.1, ⟨hk.1.1.1.2.2.2.1, ⟨hk.1.1.1.2.2.2.2.1, ⟨hk.1.1.1.2.2.2.2.2.1, ⟨hk.1.1.1.2.2.2.2.2.2, ⟨hk.1.1.2, ⟨hk.1.2, hk.2⟩⟩⟩⟩⟩⟩⟩⟩⟩)), (by (with_reducible repeat (first | apply ra | apply rn | apply rw_)); exact Kd.R_mono HO220.out (fun _ hk => ⟨hk.1.1.1.1, ⟨hk.1.1.1.2.1, ⟨hk.1.1.1.2.2.1, ⟨hk.1.1.1.2.2.2.1, ⟨hk.1.1.1.2.2.2.2.1, ⟨hk.1.1.1.2.2.2.2.2.1, ⟨hk.1.1.1.2.2.2.2.2.2, ⟨hk.1.1.2, ⟨hk.1.2, hk.2⟩⟩⟩⟩⟩⟩⟩⟩⟩)), (by (with_reducible repeat (first | apply ra | apply rn | apply rw_)); exact Kd.R_mono HO227.out (fun _ hk => ⟨hk.1.1.1.1, ⟨hk.1.1.1.2.1, ⟨hk.1.1.1.2.2.1, ⟨hk.1.1.1.2.2.2.1, ⟨hk.1.1.1.2.2.2.2.1, ⟨hk.1.1.1.2.2.2.2.2.1, ⟨hk.1.1.1.2.2.2.2.2.2, ⟨hk.1.1.2, ⟨hk.1.2, hk.2⟩⟩⟩⟩⟩⟩⟩⟩⟩)), (by (with_reducible repeat (first | apply ra | apply rn | apply rw_)); exact Kd.R_mono HO232.out (fun _ hk => ⟨hk.1.1.1.1, ⟨hk.1.1.1.2.1, ⟨hk.1.1.1.2.2.1, ⟨hk.1.1.1.2.2.2.1, ⟨hk.1.1.1.2.2.2.2.1, ⟨hk.1.1.1.2.2.2.2.2.1, ⟨hk.1.1.1.2.2.2.2.2.2, ⟨hk.1.1.2, ⟨hk.1.2, hk.2⟩⟩⟩⟩⟩⟩⟩⟩⟩)), (by (with_reducible repeat (first | apply ra | apply rn | apply rw_)); exact Kd.R_mono HO245.out (fun _ hk => ⟨hk.1.1.1.1.1.1.1.1.1.2, ⟨hk.1.1.1.1.1.1.1.1.2, ⟨hk.1.1.1.1.1.1.1.2, ⟨hk.1.1.1.1.1.1.2, ⟨hk.1.1.1.1.1.2, ⟨hk.1.1.1.1.2, ⟨hk.1.1.1.2, ⟨hk.1.1.2, ⟨hk.1.2, hk.2⟩⟩⟩⟩⟩⟩⟩⟩⟩)), (by (with_reducible repeat (first | apply ra | apply rn | apply rw_)); exact Kd.R_mono HO249.out (fun _ hk => ⟨hk.1.1.1.1.1.1.1.1.1.2, ⟨hk.1.1.1.1.1.1.1.1.2, ⟨hk.1.1.1.1.1.1.1.2, ⟨hk.1.1.1.1.1.1.2, ⟨hk.1.1.1.1.1.2, ⟨hk.1.1.1.1.2, ⟨hk.1.1.1.2, ⟨hk.1.1.2, ⟨hk.1.2, hk.2⟩⟩⟩⟩⟩⟩⟩⟩⟩)), (by (with_reducible repeat (first | apply ra | apply rn | apply rw_)); exact Kd.R_mono HO253.out (fun _ hk => ⟨hk.1.1.1.1.1.1.1.1.1.2, ⟨hk.1.1.1.1.1.1.1.1.2, ⟨hk.1.1.1.1.1.1.1.2, ⟨hk.1.1.1.1.1.1.2, ⟨hk.1.1.1.1.1.2, ⟨hk.1.1.1.1.2, ⟨hk.1.1.1.2, ⟨hk.1.1.2, ⟨hk.1.2, hk.2⟩⟩⟩⟩⟩⟩⟩⟩⟩)), (kz BK189.out), (kz BK190.out), (kz BK206.out), (kz BK211.out), (kz BK216.out), (kz BK222.out), (kz BK255.out), GW255.out, GE255.out, NB189_255.out, NB255_189.out, NB190_255.out, NB255_190.out, NB206_255.out, NB255_206.out, NB211_255.out, NB255_211.out, NB216_255.out, NB255_216.out, NB222_255.out, NB255_222.out, (bw HB.out)⟩)
                 ·skip
                  refine box_step ?hg (N := 15) ?hd (cs := #[.int .i64 0, .slice none 0 0]) (t := 27) ?hr ?_; (case hd => rfl); (case hg => rfl); (case hr => first | (go_simp; done) | (go_simp; rfl))
                  intro gb255 hg w122 hbox hb
                  have n0_ := am (Kd.R_below (rz HO196.out) hb)
                  have n1_ := am (Kd.R_below (rz HO200.out) hb)
                  have n2_ := am (Kd.R_below (rz HO204.out) hb)
                  have n3_ := am (Kd.R_below (rz HO210.out) hb)
                  have n4_ := am (Kd.R_below (rz HO215.out) hb)
                  have n5_ := am (Kd.R_below (rz HO220.out) hb)
                  have n6_ := am (Kd.R_below (rz HO227.out) hb)
                  have n7_ := am (Kd.R_below (rz HO232.out) hb)
                  have n8_ := am (Kd.R_below (rz HO245.out) hb)
                  have n9_ := bk BK189 hb
                  have n10_ := bk BK190 hb
                  have n11_ := bk BK206 hb
                  have n12_ := bk BK211 hb
                  have n13_ := bk BK216 hb
                  have n14_ := bk BK222 hb
                  have n15_ := am (below_step (bw HB.out) hb)
                  have n16_ := am (hbox)
                  have n17_ := am ((by rw [hg]; exact (below_size (bw HB.out)) : w.heap.size ≤ gb255))
                  have n18_ := am ((by rw [hg]; exact (below_size (bw HB.out)) : w.heap.size ≤ gb255))
                  have n19_ := am ((by rw [hg]; exact Nat.ne_of_lt (blk_lt (kz BK189.out)) : gb189 ≠ gb255))
                  have n20_ := am ((by rw [hg]; exact Nat.ne_of_gt (blk_lt (kz BK189.out)) : gb255 ≠ gb189))
                  have n21_ := am ((by rw [hg]; exact Nat.ne_of_lt (blk_lt (kz BK190.out)) : gb190 ≠ gb255))
                  have n22_ := am ((by rw [hg]; exact Nat.ne_of_gt (blk_lt (kz BK190.out)) : gb255 ≠ gb190))
                  have n23_ := am ((by rw [hg]; exact Nat.ne_of_lt (blk_lt (kz BK206.out)) : gb206 ≠ gb255))
                  have n24_ := am ((by rw [hg]; exact Nat.ne_of_gt (blk_lt (kz BK206.out)) : gb255 ≠ gb206))
                  have n25_ := am ((by rw [hg]; exact Nat.ne_of_lt (blk_lt (kz BK211.out)) : gb211 ≠ gb255))
                  have n26_ := am ((by rw [hg]; exact Nat.ne_of_gt (blk_lt (kz BK211.out)) : gb255 ≠ gb211))
                  have n27_ := am ((by rw [hg]; exact Nat.ne_of_lt (blk_lt (kz BK216.out)) : gb216 ≠ gb255))
                  have n28_ := am ((by rw [hg]; exact Nat.ne_of_gt (blk_lt (kz BK216.out)) : gb255 ≠ gb216))
                  have n29_ := am ((by rw [hg]; exact Nat.ne_of_lt (blk_lt (kz BK222.out)) : gb222 ≠ gb255))
                  have n30_ := am ((by rw [hg]; exact Nat.ne_of_gt (blk_lt (kz BK222.out)) : gb255 ≠ gb222))
                  clear HO196 HO200 HO204 HO210 HO215 HO220 HO227 HO232 HO245 BK189 BK190 BK206 BK211 BK216 BK222 HB
                  revert n0_ n1_ n2_ n3_ n4_ n5_ n6_ n7_ n8_ n9_ n10_ n11_ n12_ n13_ n14_ n15_ n16_ n17_ n18_ n19_ n20_ n21_ n22_ n23_ n24_ n25_ n26_ n27_ n28_ n29_ n30_; intro HO196 HO200 HO204 HO210 HO215 HO220 HO227 HO232 HO245 BK189 BK190 BK206 BK211 BK216 BK222 HB BK255 GW255 GE255 NB189_255 NB255_189 NB190_255 NB255_190 NB206_255 NB255_206 NB211_255 NB255_211 NB216_255 NB255_216 NB222_255 NB255_222; clear hb hbox hg
                  refine hK.out _ _ ⟨(blk_cell BK189.out 0).trans rfl, (blk_cell BK189.out 1).trans rfl, (blk_cell BK190.out 0).trans rfl, (blk_cell BK190.out 1).trans rfl⟩ (fun hHeld => ?_)
                  clear hK K
                  refine norm_ (a' := ?_) ?_ ?_
                  rotate_left
                  ·show Act.put _ (some 15) _ = _
                   simp only [Act.put, List.setIfInBounds_toArray, List.set_cons_zero, List.set_cons_succ, i64_w, i32_w]
                   rfl
                  refine one_ (i := 3) (N := some 98) (mk 11 271) rfl rfl (one_of HT_.out (by kernel_rfl)) (by decide) (fun K hK => ?_)
                  refine goes_ Try.func16 (by kernel_rfl) rfl #[.agg #[.int .i64 a1_0, .slice A1_1 l1_1.length c1_1]] (by rfl) rfl rfl (by (try simp only [List.map_toArray, List.map_cons, List.map_nil]); first | done | rfl | (simp only [List.length_drop, List.length_take]; rfl)) ?_
                  with_reducible refine (laws_toMatrix.calls k a1_0 _ _ l1_1 t246 t247 _ ?side1 ?side2 A44.out).mono ?_
                  (case side1 => repeat (first | exact (Kd.C_below HR1_1.out HB.out) | (with_reducible refine Kd.C_alloc ?_ _) | (with_reducible refine Kd.C_drewN ?_ _) | (with_reducible refine Kd.C_drew ?_)))
                  (case side2 => exact HC1_1.out)
                  rintro e w123 ⟨v248, rfl, ho0, hb⟩
                  refine ⟨_, rfl, ?_⟩
                  have n0_ := el HO196 (Kd.R_base ho0) hb
                  have n1_ := el HO200 (Kd.R_base ho0) hb
                  have n2_ := el HO204 (Kd.R_base ho0) hb
                  have n3_ := el HO210 (Kd.R_base ho0) hb
                  have n4_ := el HO215 (Kd.R_base ho0) hb
                  have n5_ := el HO220 (Kd.R_base ho0) hb
                  have n6_ := el HO227 (Kd.R_base ho0) hb
                  have n7_ := el HO232 (Kd.R_base ho0) hb
                  have n8_ := el HO245 (Kd.R_base ho0) hb
                  have n9_ := am (Kd.R_lower (Kd.R_new' (Kd.R_new' (Kd.R_new' (Kd.R_new' (Kd.R_new' (Kd.R_new' (Kd.R_new' (Kd.R_new' (Kd.R_new' ho0 (Kd.R_lt (rz HO196.out))) (Kd.R_lt (rz HO200.out))) (Kd.R_lt (rz HO204.out))) (Kd.R_lt (rz HO210.out))) (Kd.R_lt (rz HO215.out))) (Kd.R_lt (rz HO220.out))) (Kd.R_lt (rz HO227.out))) (Kd.R_lt (rz HO232.out))) (Kd.R_lt (rz HO245.out))) (below_size (bw HB.out)))
                  have n10_ := bk BK189 hb
                  have n11_ := bk BK190 hb
                  have n12_ := bk BK206 hb
                  have n13_ := bk BK211 hb
                  have n14_ := bk BK216 hb
                  have n15_ := bk BK222 hb
                  have n16_ := bk BK255 hb
                  have n17_ := am (below_step (bw HB.out) hb)
                  clear HO196 HO200 HO204 HO210 HO215 HO220 HO227 HO232 HO245 BK189 BK190 BK206 BK211 BK216 BK222 BK255 HB
                  revert n0_ n1_ n2_ n3_ n4_ n5_ n6_ n7_ n8_ n9_ n10_ n11_ n12_ n13_ n14_ n15_ n16_ n17_; intro HO196 HO200 HO204 HO210 HO215 HO220 HO227 HO232 HO245 HO249 BK189 BK190 BK206 BK211 BK216 BK222 BK255 HB
                  (try clear hb)
                  (try clear hb2)
                  (try clear hk)
                  (try clear hi)
                  (try clear ho0)
                  obtain ⟨Ao124, co124, eo124⟩ := Kd.R_slice HO245.out
                  (first | subst eo124 | (injection eo124 with f1_ f2_ f3_; have f4_ := f1_.symm; have f5_ := f3_.symm; clear f1_ f2_ f3_; subst f4_; subst f5_))
                  obtain ⟨Ao125, co125, eo125⟩ := Kd.R_slice HO249.out
                  (first | subst eo125 | (injection eo125 with f1_ f2_ f3_; have f4_ := f1_.symm; have f5_ := f3_.symm; clear f1_ f2_ f3_; subst f4_; subst f5_))
                  refine hK.out _ _ ⟨(blk_cell BK189.out 0).trans rfl, (blk_cell BK189.out 1).trans rfl, (blk_cell BK190.out 0).trans rfl, (blk_cell BK190.out 1).trans rfl⟩ (fun hHeld => ?_)
                  clear hK K
                  refine norm_ (a' := ?_) ?_ ?_
                  rotate_left
                  ·show Act.put _ (some 98) _ = _
                   simp only [Act.put, List.setIfInBounds_toArray, List.set_cons_zero, List.set_cons_succ, i64_w, i32_w]
                   rfl
                  refine one_ (i := 4) (N := some 99) (mk 11 287) rfl rfl (one_of HT_.out (by kernel_rfl)) (by decide) (fun K hK => ?_)
                  refine goes_ Try.func28 (by kernel_rfl) rfl #[.agg #[.int .i64 t242, .slice Ao124 t243.length co124], .agg #[.int .i64 t246, .slice Ao125 t247.length co125]] (by rfl) rfl rfl (by (try simp only [List.map_toArray, List.map_cons, List.map_nil]); first | done | rfl | (simp only [List.length_drop, List.length_take]; rfl)) ?_
                  with_reducible refine (impl_MulMatrix.calls k t242 _ _ t243 t246 _ _ t247 t250 t251 t254 _ ?side1 ?side2 ?side3 ?side4 A45.out).mono ?_
                  (case side1 => repeat (first | exact (Kd.R_reads' HO245.out).2.2 | (with_reducible refine Kd.C_alloc ?_ _) | (with_reducible refine Kd.C_drewN ?_ _) | (with_reducible refine Kd.C_drew ?_)))
                  (case side2 => exact (Kd.R_reads' HO245.out).2.1)
                  (case side3 => repeat (first | exact (Kd.R_reads' HO249.out).2.2 | (with_reducible refine Kd.C_alloc ?_ _) | (with_reducible refine Kd.C_drewN ?_ _) | (with_reducible refine Kd.C_drew ?_)))
                  (case side4 => exact (Kd.R_reads' HO249.out).2.1)
                  rintro e w126 ⟨v252, rfl, ho0, hb⟩
                  refine ⟨_, rfl, ?_⟩
                  have n0_ := el HO196 (Kd.R_base ho0) hb
                  have n1_ := el HO200 (Kd.R_base ho0) hb
                  have n2_ := el HO204 (Kd.R_base ho0) hb
                  have n3_ := el HO210 (Kd.R_base ho0) hb
                  have n4_ := el HO215 (Kd.R_base ho0) hb
                  have n5_ := el HO220 (Kd.R_base ho0) hb
                  have n6_ := el HO227 (Kd.R_base ho0) hb
                  have n7_ := el HO232 (Kd.R_base ho0) hb
                  have n8_ := el HO245 (Kd.R_base ho0) hb
                  have n9_ := el HO249 (Kd.R_base ho0) hb
                  have n10_ := am (Kd.R_lower (Kd.R_new' (Kd.R_new' (Kd.R_new' (Kd.R_new' (Kd.R_new' (Kd.R_new' (Kd.R_new' (Kd.R_new' (Kd.R_new' (Kd.R_new' ho0 (Kd.R_lt (rz HO196.out))) (Kd.R_lt (rz HO200.out))) (Kd.R_lt (rz HO204.out))) (Kd.R_lt (rz HO210.out))) (Kd.R_lt (rz HO215.out))) (Kd.R_lt (rz HO220.out))) (Kd.R_lt (rz HO227.out))) (Kd.R_lt (rz HO232.out))) (Kd.R_lt (rz HO245.out))) (Kd.R_lt (rz HO249.out))) (below_size (bw HB.out)))
                  have n11_ := bk BK189 hb
                  have n12_ := bk BK190 hb
                  have n13_ := bk BK206 hb
                  have n14_ := bk BK211 hb
                  have n15_ := bk BK216 hb
                  have n16_ := bk BK222 hb
                  have n17_ := bk BK255 hb
                  have n18_ := am (below_step (bw HB.out) hb)
                  clear HO196 HO200 HO204 HO210 HO215 HO220 HO227 HO232 HO245 HO249 BK189 BK190 BK206 BK211 BK216 BK222 BK255 HB
                  revert n0_ n1_ n2_ n3_ n4_ n5_ n6_ n7_ n8_ n9_ n10_ n11_ n12_ n13_ n14_ n15_ n16_ n17_ n18_; intro HO196 HO200 HO204 HO210 HO215 HO220 HO227 HO232 HO245 HO249 HO253 BK189 BK190 BK206 BK211 BK216 BK222 BK255 HB
                  (try clear hb)
                  (try clear hb2)
                  (try clear hk)
                  (try clear hi)
                  (try clear ho0)
                  refine hK.out _ _ ⟨(blk_cell BK189.out 0).trans rfl, (blk_cell BK189.out 1).trans rfl, (blk_cell BK190.out 0).trans rfl, (blk_cell BK190.out 1).trans rfl⟩ (fun hHeld => ?_)
                  clear hK K
                  refine norm_ (a' := ?_) ?_ ?_
                  rotate_left
                  ·show Act.put _ (some 99) _ = _
                   simp only [Act.put, List.setIfInBounds_toArray, List.set_cons_zero, List.set_cons_succ, i64_w, i32_w]
                   rfl
                  refine pv 5 94 11 319 HT_ ?_
                  refine pv 6 100 11 383 HT_ ?_
                  refine pv 7 101 11 511 HT_ ?_
                  exact norm_ (by simp only [putAll, Act.put, List.setIfInBounds_toArray, List.set_cons_zero, List.set_cons_succ]) (hCont (.slice Ao124 t243.length co124, .slice Ao125 t247.length co125, v252, gb255) _ ⟨hHeld, (by (with_reducible repeat (first | apply ra | apply rn | apply rw_)); exact Kd.R_mono HO196.out (fun _ hk => ⟨hk.1.1.1.1, ⟨hk.1.1.1.2.1, ⟨hk.1.1.1.2.2.1, ⟨hk.1.1.1.2.2.2.1, ⟨hk.1.1.1.2.2.2.2.1, ⟨hk.1.1.1.2.2.2.2.2.1, ⟨hk.1.1.1.2.2.2.2.2.2, ⟨hk.1.1.2, ⟨hk.1.2, hk.2⟩⟩⟩⟩⟩⟩⟩⟩⟩)), (by (with_reducible repeat (first | apply ra | apply rn | apply rw_)); exact Kd.R_mono HO200.out (fun _ hk => ⟨hk.1.1.1.1, ⟨hk.1.1.1.2.1, ⟨hk.1.1.1.2.2.1, ⟨hk.1.1.1.2.2.2.1, ⟨hk.1.1.1.2.2.2.2.1, ⟨hk.1.1.1.2.2.2.2.2.1, ⟨hk.1.1.1.2.2.2.2.2.2, ⟨hk.1.1.2, ⟨hk.1.2, hk.2⟩⟩⟩⟩⟩⟩⟩⟩⟩)), (by (with_reducible repeat (first | apply ra | apply rn | apply rw_)); exact Kd.R_mono HO204.out (fun _ hk => ⟨hk.1.1.1.1, ⟨hk.1.1.1.2.1, ⟨hk.1.1.1.2.2.1, ⟨hk.1.1.1.2.2.2.1, ⟨hk.1.1.1.2.2.2.2.1, ⟨hk.1.1.1.2.2.2.2.2.1, ⟨hk.1.1.1.2.2.2.2.2.2, ⟨hk.1.1.2, ⟨hk.1.2, hk.2⟩⟩⟩⟩⟩⟩⟩⟩⟩)), (by (with_reducible repeat (first | apply ra | apply rn | apply rw_)); exact Kd.R_mono HO210.out (fun _ hk => ⟨hk.1.1.1.1, ⟨hk.1.1.1.2.1, ⟨hk.1.1.1.2.2.1, ⟨hk.1.1.1.2.2.2.1, ⟨hk.1.1.1.2.2.2.2.1, ⟨hk.1.1.1.2.2.2.2.2.1, ⟨hk.1.1.1.2.2.2.2.2.2, ⟨hk.1.1.2, ⟨hk.1.2, hk.2⟩⟩⟩⟩⟩⟩⟩⟩⟩)), (by (with_reducible repeat (first | apply ra | apply rn | apply rw_)); exact Kd.R_mono HO215.out (fun _ hk => ⟨hk.1.1.1.1, ⟨hk.1.1.1.2.1, ⟨hk.1.1.1.2.2.1, ⟨hk.1.1.1.2.2.2.1, ⟨hk.1.1.1.2.2.2.2.1, ⟨hk.1.1.1.2.2.2.2.2.1, ⟨hk.1.1.1.2.2.2.2.2.2, ⟨hk.1.1.2, ⟨hk.1.2, hk.2⟩⟩⟩⟩⟩⟩⟩⟩⟩)), (by (with_reducible repeat (first | apply ra | apply rn | apply rw_)); exact Kd.R_mono HO220.out (fun _ hk => ⟨hk.1.1.1.1, ⟨hk.1.1.1.2.1, ⟨hk.1.1.1.2.2.1, ⟨hk.1.1.1.2.2.2.1, ⟨hk.1.1.1.2.2.2.2.1, ⟨hk.1.1.1.2.2.2.2.2.1, ⟨hk.1.1.1.2.2.2.2.2.2, ⟨hk.1.1.2, ⟨hk.1.2, hk.2⟩⟩⟩⟩⟩⟩⟩⟩⟩)), (by (with_reducible repeat (first | apply ra | apply rn | apply rw_)); exact Kd.R_mono HO227.out (fun _ hk => ⟨hk.1.1.1.1, ⟨hk.1.1.1.2.1, ⟨hk.1.1.1.2.2.1, ⟨hk.1.1.1.2.2.2.1, ⟨hk.1.1.1.2.2.2.2.1, ⟨hk.1.1.1.2.2.2.2.2.1, ⟨hk.1.1.1.2.2.2.2.2.2, ⟨hk.1.1.2, ⟨hk.1.2, hk.2⟩⟩⟩⟩⟩⟩⟩⟩⟩)), (by (with_reducible repeat (first | apply ra | apply rn | apply rw_)); exact Kd.R_mono HO232.out (fun _ hk => ⟨hk.1.1.1.1, ⟨hk.1.1.1.2.1, ⟨hk.1.1.1.2.2.1, ⟨hk.1.1.1.2.2.2.1, ⟨hk.1.1.1.2.2.2.2.1, ⟨hk.1.1.1.2.2.2.2.2.1, ⟨hk.1.1.1.2.2.2.2.2.2, ⟨hk.1.1.2, ⟨hk.1.2, hk.2⟩⟩⟩⟩⟩⟩⟩⟩⟩)), (by (with_reducible repeat (first | apply ra | apply rn | apply rw_)); exact Kd.R_mono HO245.out (fun _ hk => ⟨hk.1.1.1.1.1.1.1.1.1.2, ⟨hk.1.1.1.1.1.1.1.1.2, ⟨hk.1.1.1.1.1.1.1.2, ⟨hk.1.1.1.1.1.1.2, ⟨hk.1.1.1.1.1.2, ⟨hk.1.1.1.1.2, ⟨hk.1.1.1.2, ⟨hk.1.1.2, ⟨hk.1.2, hk.2⟩⟩⟩⟩⟩⟩⟩⟩⟩)), (by (with_reducible repeat (first | apply ra | apply rn | apply rw_)); exact Kd.R_mono HO249.out (fun _ hk => ⟨hk.1.1.1.1.1.1.1.1.1.2, ⟨hk.1.1.1.1.1.1.1.1.2, ⟨hk.1.1.1.1.1.1.1.2, ⟨hk.1.1.1.1.1.1.2, ⟨hk.1.1.1.1.1.2, ⟨hk.1.1.1.1.2, ⟨hk.1.1.1.2, ⟨hk.1.1.2, ⟨hk.1.2, hk.2⟩⟩⟩⟩⟩⟩⟩⟩⟩)), (by (with_reducible repeat (first | apply ra | apply rn | apply rw_)); exact Kd.R_mono HO253.out (fun _ hk => ⟨hk.1.1.1.1.1.1.1.1.1.2, ⟨hk.1.1.1.1.1.1.1.1.2, ⟨hk.1.1.1.1.1.1.1.2, ⟨hk.1.1.1.1.1.1.2, ⟨hk.1.1.1.1.1.2, ⟨hk.1.1.1.1.2, ⟨hk.1.1.1.2, ⟨hk.1.1.2, ⟨hk.1.2, hk.2⟩⟩⟩⟩⟩⟩⟩⟩⟩)), (kz BK189.out), (kz BK190.out), (kz BK206.out), (kz BK211.out), (kz BK216.out), (kz BK222.out), (kz BK255.out), GW255.out, GE255.out, NB189_255.out, NB255_189.out, NB190_255.out, NB255_190.out, NB206_255.out, NB255_206.out, NB211_255.out, NB255_211.out, NB216_255.out, NB255_216.out, NB222_255.out, NB255_222.out, (bw HB.out)⟩)
                ·skip
                 refine box_step ?hg (N := 15) ?hd (cs := #[.int .i64 0, .slice none 0 0]) (t := 27) ?hr ?_; (case hd => rfl); (case hg => rfl); (case hr => first | (go_simp; done) | (go_simp; rfl))
                 intro gb255 hg w121 hbox hb
                 have n0_ := am (Kd.R_below (rz HO196.out) hb)
                 have n1_ := am (Kd.R_below (rz HO200.out) hb)
                 have n2_ := am (Kd.R_below (rz HO204.out) hb)
                 have n3_ := am (Kd.R_below (rz HO210.out) hb)
                 have n4_ := am (Kd.R_below (rz HO215.out) hb)
                 have n5_ := am (Kd.R_below (rz HO220.out) hb)
                 have n6_ := am (Kd.R_below (rz HO227.out) hb)
                 have n7_ := am (Kd.R_below (rz HO232.out) hb)
                 have n8_ := bk BK189 hb
                 have n9_ := bk BK190 hb
                 have n10_ := bk BK206 hb
                 have n11_ := bk BK211 hb
                 have n12_ := bk BK216 hb
                 have n13_ := bk BK222 hb
                 have n14_ := am (below_step (bw HB.out) hb)
                 have n15_ := am (hbox)
                 have n16_ := am ((by rw [hg]; exact (below_size (bw HB.out)) : w.heap.size ≤ gb255))
                 have n17_ := am ((by rw [hg]; exact (below_size (bw HB.out)) : w.heap.size ≤ gb255))
                 have n18_ := am ((by rw [hg]; exact Nat.ne_of_lt (blk_lt (kz BK189.out)) : gb189 ≠ gb255))
                 have n19_ := am ((by rw [hg]; exact Nat.ne_of_gt (blk_lt (kz BK189.out)) : gb255 ≠ gb189))
                 have n20_ := am ((by rw [hg]; exact Nat.ne_of_lt (blk_lt (kz BK190.out)) : gb190 ≠ gb255))
                 have n21_ := am ((by rw [hg]; exact Nat.ne_of_gt (blk_lt (kz BK190.out)) : gb255 ≠ gb190))
                 have n22_ := am ((by rw [hg]; exact Nat.ne_of_lt (blk_lt (kz BK206.out)) : gb206 ≠ gb255))
                 have n23_ := am ((by rw [hg]; exact Nat.ne_of_gt (blk_lt (kz BK206.out)) : gb255 ≠ gb206))
                 have n24_ := am ((by rw [hg]; exact Nat.ne_of_lt (blk_lt (kz BK211.out)) : gb211 ≠ gb255))
                 have n25_ := am ((by rw [hg]; exact Nat.ne_of_gt (blk_lt (kz BK211.out)) : gb255 ≠ gb211))
                 have n26_ := am ((by rw [hg]; exact Nat.ne_of_lt (blk_lt (kz BK216.out)) : gb216 ≠ gb255))
                 have n27_ := am ((by rw [hg]; exact Nat.ne_of_gt (blk_lt (kz BK216.out)) : gb255 ≠ gb216))
                 have n28_ := am ((by rw [hg]; exact Nat.ne_of_lt (blk_lt (kz BK222.out)) : gb222 ≠ gb255))
                 have n29_ := am ((by rw [hg]; exact Nat.ne_of_gt (blk_lt (kz BK222.out)) : gb255 ≠ gb222))
                 clear HO196 HO200 HO204 HO210 HO215 HO220 HO227 HO232 BK189 BK190 BK206 BK211 BK216 BK222 HB
                 revert n0_ n1_ n2_ n3_ n4_ n5_ n6_ n7_ n8_ n9_ n10_ n11_ n12_ n13_ n14_ n15_ n16_ n17_ n18_ n19_ n20_ n21_ n22_ n23_ n24_ n25_ n26_ n27_ n28_ n29_; intro HO196 HO200 HO204 HO210 HO215 HO220 HO227 HO232 BK189 BK190 BK206 BK211 BK216 BK222 HB BK255 GW255 GE255 NB189_255 NB255_189 NB190_255 NB255_190 NB206_255 NB255_206 NB211_255 NB255_211 NB216_255 NB255_216 NB222_255 NB255_222; clear hb hbox hg
                 refine hK.out _ _ ⟨(blk_cell BK189.out 0).trans rfl, (blk_cell BK189.out 1).trans rfl, (blk_cell BK190.out 0).trans rfl, (blk_cell BK190.out 1).trans rfl⟩ (fun hHeld => ?_)
                 clear hK K
                 refine norm_ (a' := ?_) ?_ ?_
                 rotate_left
                 ·show Act.put _ (some 15) _ = _
                  simp only [Act.put, List.setIfInBounds_toArray, List.set_cons_zero, List.set_cons_succ, i64_w, i32_w]
                  rfl
                 refine one_ (i := 1) (N := some 96) (mk 11 263) rfl rfl (one_of HT_.out (by kernel_rfl)) (by decide) (fun K hK => ?_)
                 refine goes_ Try.func16 (by kernel_rfl) rfl #[.agg #[.int .i64 a0_0, .slice A0_1 l0_1.length c0_1]] (by rfl) rfl rfl (by (try simp only [List.map_toArray, List.map_cons, List.map_nil]); first | done | rfl | (simp only [List.length_drop, List.length_take]; rfl)) ?_
                 with_reducible refine (laws_toMatrix.calls k a0_0 _ _ l0_1 t242 t243 _ ?side1 ?side2 A43.out).mono ?_
                 (case side1 => repeat (first | exact (Kd.C_below HR0_1.out HB.out) | (with_reducible refine Kd.C_alloc ?_ _) | (with_reducible refine Kd.C_drewN ?_ _) | (with_reducible refine Kd.C_drew ?_)))
                 (case side2 => exact HC0_1.out)
                 rintro e w122 ⟨v244, rfl, ho0, hb⟩
                 refine ⟨_, rfl, ?_⟩
                 have n0_ := el HO196 (Kd.R_base ho0) hb
                 have n1_ := el HO200 (Kd.R_base ho0) hb
                 have n2_ := el HO204 (Kd.R_base ho0) hb
                 have n3_ := el HO210 (Kd.R_base ho0) hb
                 have n4_ := el HO215 (Kd.R_base ho0) hb
                 have n5_ := el HO220 (Kd.R_base ho0) hb
                 have n6_ := el HO227 (Kd.R_base ho0) hb
                 have n7_ := el HO232 (Kd.R_base ho0) hb
                 have n8_ := am (Kd.R_lower (Kd.R_new' (Kd.R_new' (Kd.R_new' (Kd.R_new' (Kd.R_new' (Kd.R_new' (Kd.R_new' (Kd.R_new' ho0 (Kd.R_lt (rz HO196.out))) (Kd.R_lt (rz HO200.out))) (Kd.R_lt (rz HO204.out))) (Kd.R_lt (rz HO210.out))) (Kd.R_lt (rz HO215.out))) (Kd.R_lt (rz HO220.out))) (Kd.R_lt (rz HO227.out))) (Kd.R_lt (rz HO232.out))) (below_size (bw HB.out)))
                 have n9_ := bk BK189 hb
                 have n10_ := bk BK190 hb
                 have n11_ := bk BK206 hb
                 have n12_ := bk BK211 hb
                 have n13_ := bk BK216 hb
                 have n14_ := bk BK222 hb
                 have n15_ := bk BK255 hb
                 have n16_ := am (below_step (bw HB.out) hb)
                 clear HO196 HO200 HO204 HO210 HO215 HO220 HO227 HO232 BK189 BK190 BK206 BK211 BK216 BK222 BK255 HB
                 revert n0_ n1_ n2_ n3_ n4_ n5_ n6_ n7_ n8_ n9_ n10_ n11_ n12_ n13_ n14_ n15_ n16_; intro HO196 HO200 HO204 HO210 HO215 HO220 HO227 HO232 HO245 BK189 BK190 BK206 BK211 BK216 BK222 BK255 HB
                 (try clear hb)
                 (try clear hb2)
                 (try clear hk)
                 (try clear hi)
                 (try clear ho0)
                 refine hK.out _ _ ⟨(blk_cell BK189.out 0).trans rfl, (blk_cell BK189.out 1).trans rfl, (blk_cell BK190.out 0).trans rfl, (blk_cell BK190.out 1).trans rfl⟩ (fun hHeld => ?_)
                 clear hK K
                 refine norm_ (a' := ?_) ?_ ?_
                 rotate_left
                 ·show Act.put _ (some 96) _ = _
                  simp only [Act.put, List.setIfInBounds_toArray, List.set_cons_zero, List.set_cons_succ, i64_w, i32_w]
                  rfl
                 refine one_ (i := 3) (N := some 98) (mk 11 271) rfl rfl (one_of HT_.out (by kernel_rfl)) (by decide) (fun K hK => ?_)
                 refine goes_ Try.func16 (by kernel_rfl) rfl #[.agg #[.int .i64 a1_0, .slice A1_1 l1_1.length c1_1]] (by rfl) rfl rfl (by (try simp only [List.map_toArray, List.map_cons, List.map_nil]); first | done | rfl | (simp only [List.length_drop, List.length_take]; rfl)) ?_
                 with_reducible refine (laws_toMatrix.calls k a1_0 _ _ l1_1 t246 t247 _ ?side1 ?side2 A44.out).mono ?_
                 (case side1 => repeat (first | exact (Kd.C_below HR1_1.out HB.out) | (with_reducible refine Kd.C_alloc ?_ _) | (with_reducible refine Kd.C_drewN ?_ _) | (with_reducible refine Kd.C_drew ?_)))
                 (case side2 => exact HC1_1.out)
                 rintro e w123 ⟨v248, rfl, ho0, hb⟩
                 refine ⟨_, rfl, ?_⟩
                 have n0_ := el HO196 (Kd.R_base ho0) hb
                 have n1_ := el HO200 (Kd.R_base ho0) hb
                 have n2_ := el HO204 (Kd.R_base ho0) hb
                 have n3_ := el HO210 (Kd.R_base ho0) hb
                 have n4_ := el HO215 (Kd.R_base ho0) hb
                 have n5_ := el HO220 (Kd.R_base ho0) hb
                 have n6_ := el HO227 (Kd.R_base ho0) hb
                 have n7_ := el HO232 (Kd.R_base ho0) hb
                 have n8_ := el HO245 (Kd.R_base ho0) hb
                 have n9_ := am (Kd.R_lower (Kd.R_new' (Kd.R_new' (Kd.R_new' (Kd.R_new' (Kd.R_new' (Kd.R_new' (Kd.R_new' (Kd.R_new' (Kd.R_new' ho0 (Kd.R_lt (rz HO196.out))) (Kd.R_lt (rz HO200.out))) (Kd.R_lt (rz HO204.out))) (Kd.R_lt (rz HO210.out))) (Kd.R_lt (rz HO215.out))) (Kd.R_lt (rz HO220.out))) (Kd.R_lt (rz HO227.out))) (Kd.R_lt (rz HO232.out))) (Kd.R_lt (rz HO245.out))) (below_size (bw HB.out)))
                 have n10_ := bk BK189 hb
                 have n11_ := bk BK190 hb
                 have n12_ := bk BK206 hb
                 have n13_ := bk BK211 hb
                 have n14_ := bk BK216 hb
                 have n15_ := bk BK222 hb
                 have n16_ := bk BK255 hb
                 have n17_ := am (below_step (bw HB.out) hb)
                 clear HO196 HO200 HO204 HO210 HO215 HO220 HO227 HO232 HO245 BK189 BK190 BK206 BK211 BK216 BK222 BK255 HB
                 revert n0_ n1_ n2_ n3_ n4_ n5_ n6_ n7_ n8_ n9_ n10_ n11_ n12_ n13_ n14_ n15_ n16_ n17_; intro HO196 HO200 HO204 HO210 HO215 HO220 HO227 HO232 HO245 HO249 BK189 BK190 BK206 BK211 BK216 BK222 BK255 HB
                 (try clear hb)
                 (try clear hb2)
                 (try clear hk)
                 (try clear hi)
                 (try clear ho0)
                 obtain ⟨Ao124, co124, eo124⟩ := Kd.R_slice HO245.out
                 (first | subst eo124 | (injection eo124 with f1_ f2_ f3_; have f4_ := f1_.symm; have f5_ := f3_.symm; clear f1_ f2_ f3_; subst f4_; subst f5_))
                 obtain ⟨Ao125, co125, eo125⟩ := Kd.R_slice HO249.out
                 (first | subst eo125 | (injection eo125 with f1_ f2_ f3_; have f4_ := f1_.symm; have f5_ := f3_.symm; clear f1_ f2_ f3_; subst f4_; subst f5_))
                 refine hK.out _ _ ⟨(blk_cell BK189.out 0).trans rfl, (blk_cell BK189.out 1).trans rfl, (blk_cell BK190.out 0).trans rfl, (blk_cell BK190.out 1).trans rfl⟩ (fun hHeld => ?_)
                 clear hK K
                 refine norm_ (a' := ?_) ?_ ?_
                 rotate_left
                 ·show Act.put _ (some 98) _ = _
                  simp only [Act.put, List.setIfInBounds_toArray, List.set_cons_zero, List.set_cons_succ, i64_w, i32_w]
                  rfl
                 refine one_ (i := 4) (N := some 99) (mk 11 287) rfl rfl (one_of HT_.out (by kernel_rfl)) (by decide) (fun K hK => ?_)
                 refine goes_ Try.func28 (by kernel_rfl) rfl #[.agg #[.int .i64 t242, .slice Ao124 t243.length co124], .agg #[.int .i64 t246, .slice Ao125 t247.length co125]] (by rfl) rfl rfl (by (try simp only [List.map_toArray, List.map_cons, List.map_nil]); first | done | rfl | (simp only [List.length_drop, List.length_take]; rfl)) ?_
                 with_reducible refine (impl_MulMatrix.calls k t242 _ _ t243 t246 _ _ t247 t250 t251 t254 _ ?side1 ?side2 ?side3 ?side4 A45.out).mono ?_
                 (case side1 => repeat (first | exact (Kd.R_reads' HO245.out).2.2 | (with_reducible refine Kd.C_alloc ?_ _) | (with_reducible refine Kd.C_drewN ?_ _) | (with_reducible refine Kd.C_drew ?_)))
                 (case side2 => exact (Kd.R_reads' HO245.out).2.1)
                 (case side3 => repeat (first | exact (Kd.R_reads' HO249.out).2.2 | (with_reducible refine Kd.C_alloc ?_ _) | (with_reducible refine Kd.C_drewN ?_ _) | (with_reducible refine Kd.C_drew ?_)))
                 (case side4 => exact (Kd.R_reads' HO249.out).2.1)
                 rintro e w126 ⟨v252, rfl, ho0, hb⟩
                 refine ⟨_, rfl, ?_⟩
                 have n0_ := el HO196 (Kd.R_base ho0) hb
                 have n1_ := el HO200 (Kd.R_base ho0) hb
                 have n2_ := el HO204 (Kd.R_base ho0) hb
                 have n3_ := el HO210 (Kd.R_base ho0) hb
                 have n4_ := el HO215 (Kd.R_base ho0) hb
                 have n5_ := el HO220 (Kd.R_base ho0) hb
                 have n6_ := el HO227 (Kd.R_base ho0) hb
                 have n7_ := el HO232 (Kd.R_base ho0) hb
                 have n8_ := el HO245 (Kd.R_base ho0) hb
                 have n9_ := el HO249 (Kd.R_base ho0) hb
                 have n10_ := am (Kd.R_lower (Kd.R_new' (Kd.R_new' (Kd.R_new' (Kd.R_new' (Kd.R_new' (Kd.R_new' (Kd.R_new' (Kd.R_new' (Kd.R_new' (Kd.R_new' ho0 (Kd.R_lt (rz HO196.out))) (Kd.R_lt (rz HO200.out))) (Kd.R_lt (rz HO204.out))) (Kd.R_lt (rz HO210.out))) (Kd.R_lt (rz HO215.out))) (Kd.R_lt (rz HO220.out))) (Kd.R_lt (rz HO227.out))) (Kd.R_lt (rz HO232.out))) (Kd.R_lt (rz HO245.out))) (Kd.R_lt (rz HO249.out))) (below_size (bw HB.out)))
                 have n11_ := bk BK189 hb
                 have n12_ := bk BK190 hb
                 have n13_ := bk BK206 hb
                 have n14_ := bk BK211 hb
                 have n15_ := bk BK216 hb
                 have n16_ := bk BK222 hb
                 have n17_ := bk BK255 hb
                 have n18_ := am (below_step (bw HB.out) hb)
                 clear HO196 HO200 HO204 HO210 HO215 HO220 HO227 HO232 HO245 HO249 BK189 BK190 BK206 BK211 BK216 BK222 BK255 HB
                 revert n0_ n1_ n2_ n3_ n4_ n5_ n6_ n7_ n8_ n9_ n10_ n11_ n12_ n13_ n14_ n15_ n16_ n17_ n18_; intro HO196 HO200 HO204 HO210 HO215 HO220 HO227 HO232 HO245 HO249 HO253 BK189 BK190 BK206 BK211 BK216 BK222 BK255 HB
                 (try clear hb)
                 (try clear hb2)
                 (try clear hk)
                 (try clear hi)
                 (try clear ho0)
                 refine hK.out _ _ ⟨(blk_cell BK189.out 0).trans rfl, (blk_cell BK189.out 1).trans rfl, (blk_cell BK190.out 0).trans rfl, (blk_cell BK190.out 1).trans rfl⟩ (fun hHeld => ?_)
                 clear hK K
                 refine norm_ (a' := ?_) ?_ ?_
                 rotate_left
                 ·show Act.put _ (some 99) _ = _
                  simp only [Act.put, List.setIfInBounds_toArray, List.set_cons_zero, List.set_cons_succ, i64_w, i32_w]
                  rfl
                 refine pv 5 94 11 319 HT_ ?_
                 refine pv 6 100 11 383 HT_ ?_
                 refine pv 7 101 11 511 HT_ ?_
                 exact norm_ (by simp only [putAll, Act.put, List.setIfInBounds_toArray, List.set_cons_zero, List.set_cons_succ]) (hCont (.slice Ao124 t243.length co124, .slice Ao125 t247.length co125, v252, gb255) _ ⟨hHeld, (by (with_reducible repeat (first | apply ra | apply rn | apply rw_)); exact Kd.R_mono HO196.out (fun _ hk => ⟨hk.1.1.1.1, ⟨hk.1.1.1.2.1, ⟨hk.1.1.1.2.2.1, ⟨hk.1.1.1.2.2.2.1, ⟨hk.1.1.1.2.2.2.2.1, ⟨hk.1.1.1.2.2.2.2.2.1, ⟨hk.1.1.1.2.2.2.2.2.2, ⟨hk.1.1.2, ⟨hk.1.2, hk.2⟩⟩⟩⟩⟩⟩⟩⟩⟩)), (by (with_reducible repeat (first | apply ra | apply rn | apply rw_)); exact Kd.R_mono HO200.out (fun _ hk => ⟨hk.1.1.1.1, ⟨hk.1.1.1.2.1, ⟨hk.1.1.1.2.2.1, ⟨hk.1.1.1.2.2.2.1, ⟨hk.1.1.1.2.2.2.2.1, ⟨hk.1.1.1.2.2.2.2.2.1, ⟨hk.1.1.1.2.2.2.2.2.2, ⟨hk.1.1.2, ⟨hk.1.2, hk.2⟩⟩⟩⟩⟩⟩⟩⟩⟩)), (by (with_reducible repeat (first | apply ra | apply rn | apply rw_)); exact Kd.R_mono HO204.out (fun _ hk => ⟨hk.1.1.1.1, ⟨hk.1.1.1.2.1, ⟨hk.1.1.1.2.2.1, ⟨hk.1.1.1.2.2.2.1, ⟨hk.1.1.1.2.2.2.2.1, ⟨hk.1.1.1.2.2.2.2.2.1, ⟨hk.1.1.1.2.2.2.2.2.2, ⟨hk.1.1.2, ⟨hk.1.2, hk.2⟩⟩⟩⟩⟩⟩⟩⟩⟩)), (by (with_reducible repeat (first | apply ra | apply rn | apply rw_)); exact Kd.R_mono HO210.out (fun _ hk => ⟨hk.1.1.1.1, ⟨hk.1.1.1.2.1, ⟨hk.1.1.1.2.2.1, ⟨hk.1.1.1.2.2.2.1, ⟨hk.1.1.1.2.2.2.2.1, ⟨hk.1.1.1.2.2.2.2.2.1, ⟨hk.1.1.1.2.2.2.2.2.2, ⟨hk.1.1.2, ⟨hk.1.2, hk.2⟩⟩⟩⟩⟩⟩⟩⟩⟩)), (by (with_reducible repeat (first | apply ra | apply rn | apply rw_)); exact Kd.R_mono HO215.out (fun _ hk => ⟨hk.1.1.1.1, ⟨hk.1.1.1.2.1, ⟨hk.1.1.1.2.2.1, ⟨hk.1.1.1.2.2.2.1, ⟨hk.1.1.1.2.2.2.2.1, ⟨hk.1.1.1.2.2.2.2.2.1, ⟨hk.1.1.1.2.2.2.2.2.2, ⟨hk.1.1.2, ⟨hk.1.2, hk.2⟩⟩⟩⟩⟩⟩⟩⟩⟩)), (by (with_reducible repeat (first | apply ra | apply rn | apply rw_)); exact Kd.R_mono HO220.out (fun _ hk => ⟨hk.1.1.1.1, ⟨hk.1.1.1.2.1, ⟨hk.1.1.1.2.2.1, ⟨hk.1.1.1.2.2.2.1, ⟨hk.1.1.1.2.2.2.2.1, ⟨hk.1.1.1.2.2.2.2.2.1, ⟨hk.1.1.1.2.2.2.2.2.2, ⟨hk.1.1.2, ⟨hk.1.2, hk.2⟩⟩⟩⟩⟩⟩⟩⟩⟩)), (by (with_reducible repeat (first | apply ra | apply rn | apply rw_)); exact Kd.R_mono HO227.out (fun _ hk => ⟨hk.1.1.1.1, ⟨hk.1.1.1.2.1, ⟨hk.1.1.1.2.2.1, ⟨hk.1.1.1.2.2.2.1, ⟨hk.1.1.1.2.2.2.2.1, ⟨hk.1.1.1.2.2.2.2.2.1, ⟨hk.1.1.1.2.2.2.2.2.2, ⟨hk.1.1.2, ⟨hk.1.2, hk.2⟩⟩⟩⟩⟩⟩⟩⟩⟩)), (by (with_reducible repeat (first | apply ra | apply rn | apply rw_)); exact Kd.R_mono HO232.out (fun _ hk => ⟨hk.1.1.1.1, ⟨hk.1.1.1.2.1, ⟨hk.1.1.1.2.2.1, ⟨hk.1.1.1.2.2.2.1, ⟨hk.1.1.1.2.2.2.2.1, ⟨hk.1.1.1.2.2.2.2.2.1, ⟨hk.1.1.1.2.2.2.2.2.2, ⟨hk.1.1.2, ⟨hk.1.2, hk.2⟩⟩⟩⟩⟩⟩⟩⟩⟩)), (by (with_reducible repeat (first | apply ra | apply rn | apply rw_)); exact Kd.R_mono HO245.out (fun _ hk => ⟨hk.1.1.1.1.1.1.1.1.1.2, ⟨hk.1.1.1.1.1.1.1.1.2, ⟨hk.1.1.1.1.1.1.1.2, ⟨hk.1.1.1.1.1.1.2, ⟨hk.1.1.1.1.1.2, ⟨hk.1.1.1.1.2, ⟨hk.1.1.1.2, ⟨hk.1.1.2, ⟨hk.1.2, hk.2⟩⟩⟩⟩⟩⟩⟩⟩⟩)), (by (with_reducible repeat (first | apply ra | apply rn | apply rw_)); exact Kd.R_mono HO249.out (fun _ hk => ⟨hk.1.1.1.1.1.1.1.1.1.2, ⟨hk.1.1.1.1.1.1.1.1.2, ⟨hk.1.1.1.1.1.1.1.2, ⟨hk.1.1.1.1.1.1.2, ⟨hk.1.1.1.1.1.2, ⟨hk.1.1.1.1.2, ⟨hk.1.1.1.2, ⟨hk.1.1.2, ⟨hk.1.2, hk.2⟩⟩⟩⟩⟩⟩⟩⟩⟩)), (by (with_reducible repeat (first | apply ra | apply rn | apply rw_)); exact Kd.R_mono HO253.out (fun _ hk => ⟨hk.1.1.1.1.1.1.1.1.1.2, ⟨hk.1.1.1.1.1.1.1.1.2, ⟨hk.1.1.1.1.1.1.1.2, ⟨hk.1.1.1.1.1.1.2, ⟨hk.1.1.1.1.1.2, ⟨hk.1.1.1.1.2, ⟨hk.1.1.1.2, ⟨hk.1.1.2, ⟨hk.1.2, hk.2⟩⟩⟩⟩⟩⟩⟩⟩⟩)), (kz BK189.out), (kz BK190.out), (kz BK206.out), (kz BK211.out), (kz BK216.out), (kz BK222.out), (kz BK255.out), GW255.out, GE255.out, NB189_255.out, NB255_189.out, NB190_255.out, NB255_190.out, NB206_255.out, NB255_206.out, NB211_255.out, NB255_211.out, NB216_255.out, NB255_216.out, NB222_255.out, NB255_222.out, (bw HB.out)⟩)
               rintro ⟨v244, v248, v252, gb255⟩ w127 ⟨hS_, h0_, h1_, h2_, h3_, h4_, h5_, h6_, h7_, h8_, h9_, h10_, h11_, h12_, h13_, h14_, h15_, h16_, h17_, h18_, h19_, h20_, h21_, h22_, h23_, h24_, h25_, h26_, h27_, h28_, h29_, h30_, h31_, h32_⟩
               have n0_ : Aside0 (Kd.R (Kd.int .i64) 3 w127 w.heap.size (fun k_ => some k_ ≠ (v199 : Value).ownBlock ∧ NS Ao68 t202 co68 k_ ∧ NS Ao78 t208 co78 k_ ∧ NS Ao88 t213 co88 k_ ∧ NS Ao98 t218 co98 k_ ∧ NS Ao103 t225 co103 k_ ∧ NS Ao107 t230 co107 k_ ∧ some k_ ≠ (v244 : Value).ownBlock ∧ some k_ ≠ (v248 : Value).ownBlock ∧ some k_ ≠ (v252 : Value).ownBlock) v195 t194) := ⟨h0_⟩
               have n1_ : Aside0 (Kd.R (Kd.int .i64) 3 w127 w.heap.size (fun k_ => some k_ ≠ (v195 : Value).ownBlock ∧ NS Ao68 t202 co68 k_ ∧ NS Ao78 t208 co78 k_ ∧ NS Ao88 t213 co88 k_ ∧ NS Ao98 t218 co98 k_ ∧ NS Ao103 t225 co103 k_ ∧ NS Ao107 t230 co107 k_ ∧ some k_ ≠ (v244 : Value).ownBlock ∧ some k_ ≠ (v248 : Value).ownBlock ∧ some k_ ≠ (v252 : Value).ownBlock) v199 t198) := ⟨h1_⟩
               have n2_ : Aside0 (Kd.R (Kd.int .i64) 3 w127 w.heap.size (fun k_ => some k_ ≠ (v195 : Value).ownBlock ∧ some k_ ≠ (v199 : Value).ownBlock ∧ NS Ao78 t208 co78 k_ ∧ NS Ao88 t213 co88 k_ ∧ NS Ao98 t218 co98 k_ ∧ NS Ao103 t225 co103 k_ ∧ NS Ao107 t230 co107 k_ ∧ some k_ ≠ (v244 : Value).ownBlock ∧ some k_ ≠ (v248 : Value).ownBlock ∧ some k_ ≠ (v252 : Value).ownBlock) (.slice Ao68 t202.length co68) t202) := ⟨h2_⟩
               have n3_ : Aside0 (Kd.R (Kd.int .i64) 3 w127 w.heap.size (fun k_ => some k_ ≠ (v195 : Value).ownBlock ∧ some k_ ≠ (v199 : Value).ownBlock ∧ NS Ao68 t202 co68 k_ ∧ NS Ao88 t213 co88 k_ ∧ NS Ao98 t218 co98 k_ ∧ NS Ao103 t225 co103 k_ ∧ NS Ao107 t230 co107 k_ ∧ some k_ ≠ (v244 : Value).ownBlock ∧ some k_ ≠ (v248 : Value).ownBlock ∧ some k_ ≠ (v252 : Value).ownBlock) (.slice Ao78 t208.length co78) t235) := ⟨h3_⟩
               have n4_ : Aside0 (Kd.R (Kd.int .i64) 3 w127 w.heap.size (fun k_ => some k_ ≠ (v195 : Value).ownBlock ∧ some k_ ≠ (v199 : Value).ownBlock ∧ NS Ao68 t202 co68 k_ ∧ NS Ao78 t208 co78 k_ ∧ NS Ao98 t218 co98 k_ ∧ NS Ao103 t225 co103 k_ ∧ NS Ao107 t230 co107 k_ ∧ some k_ ≠ (v244 : Value).ownBlock ∧ some k_ ≠ (v248 : Value).ownBlock ∧ some k_ ≠ (v252 : Value).ownBlock) (.slice Ao88 t213.length co88) t237) := ⟨h4_⟩
               have n5_ : Aside0 (Kd.R (Kd.int .i64) 3 w127 w.heap.size (fun k_ => some k_ ≠ (v195 : Value).ownBlock ∧ some k_ ≠ (v199 : Value).ownBlock ∧ NS Ao68 t202 co68 k_ ∧ NS Ao78 t208 co78 k_ ∧ NS Ao88 t213 co88 k_ ∧ NS Ao103 t225 co103 k_ ∧ NS Ao107 t230 co107 k_ ∧ some k_ ≠ (v244 : Value).ownBlock ∧ some k_ ≠ (v248 : Value).ownBlock ∧ some k_ ≠ (v252 : Value).ownBlock) (.slice Ao98 t218.length co98) t240) := ⟨h5_⟩
               have n6_ : Aside0 (Kd.R (Kd.int .i64) 3 w127 w.heap.size (fun k_ => some k_ ≠ (v195 : Value).ownBlock ∧ some k_ ≠ (v199 : Value).ownBlock ∧ NS Ao68 t202 co68 k_ ∧ NS Ao78 t208 co78 k_ ∧ NS Ao88 t213 co88 k_ ∧ NS Ao98 t218 co98 k_ ∧ NS Ao107 t230 co107 k_ ∧ some k_ ≠ (v244 : Value).ownBlock ∧ some k_ ≠ (v248 : Value).ownBlock ∧ some k_ ≠ (v252 : Value).ownBlock) (.slice Ao103 t225.length co103) t225) := ⟨h6_⟩
               have n7_ : Aside0 (Kd.R (Kd.int .i64) 3 w127 w.heap.size (fun k_ => some k_ ≠ (v195 : Value).ownBlock ∧ some k_ ≠ (v199 : Value).ownBlock ∧ NS Ao68 t202 co68 k_ ∧ NS Ao78 t208 co78 k_ ∧ NS Ao88 t213 co88 k_ ∧ NS Ao98 t218 co98 k_ ∧ NS Ao103 t225 co103 k_ ∧ some k_ ≠ (v244 : Value).ownBlock ∧ some k_ ≠ (v248 : Value).ownBlock ∧ some k_ ≠ (v252 : Value).ownBlock) (.slice Ao107 t230.length co107) t230) := ⟨h7_⟩
               have n8_ : Aside0 (Kd.R (Kd.int .i64) 3 w127 w.heap.size (fun k_ => some k_ ≠ (v195 : Value).ownBlock ∧ some k_ ≠ (v199 : Value).ownBlock ∧ NS Ao68 t202 co68 k_ ∧ NS Ao78 t208 co78 k_ ∧ NS Ao88 t213 co88 k_ ∧ NS Ao98 t218 co98 k_ ∧ NS Ao103 t225 co103 k_ ∧ NS Ao107 t230 co107 k_ ∧ some k_ ≠ (v248 : Value).ownBlock ∧ some k_ ≠ (v252 : Value).ownBlock) v244 t243) := ⟨h8_⟩
               have n9_ : Aside0 (Kd.R (Kd.int .i64) 3 w127 w.heap.size (fun k_ => some k_ ≠ (v195 : Value).ownBlock ∧ some k_ ≠ (v199 : Value).ownBlock ∧ NS Ao68 t202 co68 k_ ∧ NS Ao78 t208 co78 k_ ∧ NS Ao88 t213 co88 k_ ∧ NS Ao98 t218 co98 k_ ∧ NS Ao103 t225 co103 k_ ∧ NS Ao107 t230 co107 k_ ∧ some k_ ≠ (v244 : Value).ownBlock ∧ some k_ ≠ (v252 : Value).ownBlock) v248 t247) := ⟨h9_⟩
               have n10_ : Aside0 (Kd.R (Kd.int .i64) 3 w127 w.heap.size (fun k_ => some k_ ≠ (v195 : Value).ownBlock ∧ some k_ ≠ (v199 : Value).ownBlock ∧ NS Ao68 t202 co68 k_ ∧ NS Ao78 t208 co78 k_ ∧ NS Ao88 t213 co88 k_ ∧ NS Ao98 t218 co98 k_ ∧ NS Ao103 t225 co103 k_ ∧ NS Ao107 t230 co107 k_ ∧ some k_ ≠ (v244 : Value).ownBlock ∧ some k_ ≠ (v248 : Value).ownBlock) v252 t251) := ⟨h10_⟩
               have n11_ : Aside0 (w127.heap[gb189]? = some (.cells #[.int .i64 a0_0, .slice A0_1 l0_1.length c0_1] 24 (0, 0))) := ⟨h11_⟩
               have n12_ : Aside0 (w127.heap[gb190]? = some (.cells #[.int .i64 a1_0, .slice A1_1 l1_1.length c1_1] 24 (0, 0))) := ⟨h12_⟩
               have n13_ : Aside0 (w127.heap[gb206]? = some (.cells #[.int .i64 t201, .slice Ao68 t202.length co68] 27 (0, 0))) := ⟨h13_⟩
               have n14_ : Aside0 (w127.heap[gb211]? = some (.cells #[.int .i64 t207, .slice Ao78 t208.length co78] 27 (0, 0))) := ⟨h14_⟩
               have n15_ : Aside0 (w127.heap[gb216]? = some (.cells #[.int .i64 t212, .slice Ao88 t213.length co88] 27 (0, 0))) := ⟨h15_⟩
               have n16_ : Aside0 (w127.heap[gb222]? = some (.cells #[.int .i64 t217, .slice Ao98 t218.length co98] 27 (0, 0))) := ⟨h16_⟩
               have n17_ : Aside0 (w127.heap[gb255]? = some (.cells #[.int .i64 0, .slice none 0 0] 27 (0, 0))) := ⟨h17_⟩
               have n18_ : Aside0 (w.heap.size ≤ gb255) := ⟨h18_⟩
               have n19_ : Aside0 (w.heap.size ≤ gb255) := ⟨h19_⟩
               have n20_ : Aside0 (gb189 ≠ gb255) := ⟨h20_⟩
               have n21_ : Aside0 (gb255 ≠ gb189) := ⟨h21_⟩
               have n22_ : Aside0 (gb190 ≠ gb255) := ⟨h22_⟩
               have n23_ : Aside0 (gb255 ≠ gb190) := ⟨h23_⟩
               have n24_ : Aside0 (gb206 ≠ gb255) := ⟨h24_⟩
               have n25_ : Aside0 (gb255 ≠ gb206) := ⟨h25_⟩
               have n26_ : Aside0 (gb211 ≠ gb255) := ⟨h26_⟩
               have n27_ : Aside0 (gb255 ≠ gb211) := ⟨h27_⟩
               have n28_ : Aside0 (gb216 ≠ gb255) := ⟨h28_⟩
               have n29_ : Aside0 (gb255 ≠ gb216) := ⟨h29_⟩
               have n30_ : Aside0 (gb222 ≠ gb255) := ⟨h30_⟩
               have n31_ : Aside0 (gb255 ≠ gb222) := ⟨h31_⟩
               have n32_ : Aside0 (Below w.heap.size w w127) := ⟨h32_⟩
               clear HO196 HO200 HO204 HO210 HO215 HO220 HO227 HO232 BK189 BK190 BK206 BK211 BK216 BK222 HB h0_ h1_ h2_ h3_ h4_ h5_ h6_ h7_ h8_ h9_ h10_ h11_ h12_ h13_ h14_ h15_ h16_ h17_ h18_ h19_ h20_ h21_ h22_ h23_ h24_ h25_ h26_ h27_ h28_ h29_ h30_ h31_ h32_
               revert n0_ n1_ n2_ n3_ n4_ n5_ n6_ n7_ n8_ n9_ n10_ n11_ n12_ n13_ n14_ n15_ n16_ n17_ n18_ n19_ n20_ n21_ n22_ n23_ n24_ n25_ n26_ n27_ n28_ n29_ n30_ n31_ n32_; intro HO196 HO200 HO204 HO210 HO215 HO220 HO227 HO232 HO245 HO249 HO253 BK189 BK190 BK206 BK211 BK216 BK222 BK255 GW255 GE255 NB189_255 NB255_189 NB190_255 NB255_190 NB206_255 NB255_206 NB211_255 NB255_211 NB216_255 NB255_216 NB222_255 NB255_222 HB
               have hHeld : w127.cell? ⟨gb189, 0, none⟩ = some (.int .i64 a0_0) ∧ w127.cell? ⟨gb189, 1, none⟩ = some (.slice A0_1 l0_1.length c0_1) ∧ w127.cell? ⟨gb190, 0, none⟩ = some (.int .i64 a1_0) ∧ w127.cell? ⟨gb190, 1, none⟩ = some (.slice A1_1 l1_1.length c1_1) := hS_
               obtain ⟨Ao129, co129, eo129⟩ := Kd.R_slice HO253.out
               (first | subst eo129 | (injection eo129 with f1_ f2_ f3_; have f4_ := f1_.symm; have f5_ := f3_.symm; clear f1_ f2_ f3_; subst f4_; subst f5_))
               refine norm_ (a' := ?_) ?_ ?_
               rotate_left
               ·simp only [putAll, Act.put, List.setIfInBounds_toArray, List.set_cons_zero, List.set_cons_succ]
                rfl
               refine one_ (i := 9) (N := none) (mk 11 1023) rfl rfl (one_of HT_.out (by kernel_rfl)) (by decide) (fun K hK => ?_)
               have hs128 : w127.cell? ⟨gb255, 0, none⟩ = some (.int .i64 0) := (blk_cell BK255.out 0).trans rfl
               have hfs128 := blk_frozen BK255.out 0
               have hns128_0 := NB189_255.out
               have hns128_1 := NB190_255.out
               have hns128_2 := NB206_255.out
               have hns128_3 := NB211_255.out
               have hns128_4 := NB216_255.out
               have hns128_5 := NB222_255.out
               have hms128_0 := NB255_189.out
               have hms128_1 := NB255_190.out
               have hms128_2 := NB255_206.out
               have hms128_3 := NB255_211.out
               have hms128_4 := NB255_216.out
               have hms128_5 := NB255_222.out
               have hs130 : w127.cell? ⟨gb255, 1, none⟩ = some (.slice none 0 0) := (blk_cell BK255.out 1).trans rfl
               have hfs130 := blk_frozen BK255.out 1
               have hns130_0 := NB189_255.out
               have hns130_1 := NB190_255.out
               have hns130_2 := NB206_255.out
               have hns130_3 := NB211_255.out
               have hns130_4 := NB216_255.out
               have hns130_5 := NB222_255.out
               have hms130_0 := NB255_189.out
               have hms130_1 := NB255_190.out
               have hms130_2 := NB255_206.out
               have hms130_3 := NB255_211.out
               have hms130_4 := NB255_216.out
               have hms130_5 := NB255_222.out
               refine skip_ (w1 := ?_) (by rfl) rfl ?_ ?_
               rotate_left
               ·go_simp
                rfl
               refine hK.out _ _ ⟨((cell_far (p := ⟨gb255, _, none⟩) NB189_255.out _).trans (((cell_far (p := ⟨gb255, _, none⟩) NB189_255.out _).trans (hHeld.1)))), ((cell_far (p := ⟨gb255, _, none⟩) NB189_255.out _).trans (((cell_far (p := ⟨gb255, _, none⟩) NB189_255.out _).trans (hHeld.2.1)))), ((cell_far (p := ⟨gb255, _, none⟩) NB190_255.out _).trans (((cell_far (p := ⟨gb255, _, none⟩) NB190_255.out _).trans (hHeld.2.2.1)))), ((cell_far (p := ⟨gb255, _, none⟩) NB190_255.out _).trans (((cell_far (p := ⟨gb255, _, none⟩) NB190_255.out _).trans (hHeld.2.2.2))))⟩ (fun hHeld => ?_)
               clear hK K
               refine pv 10 16 11 2047 HT_ ?_
               refine done_ (done_of HT_.out (by kernel_rfl)) ?_
               have hnb131 := NB255_189.out
               have hnc131 := NB189_255.out
               have hnb132 := NB255_190.out
               have hnc132 := NB190_255.out
               have hnb133 := NB255_206.out
               have hnc133 := NB206_255.out
               have hnb134 := NB255_211.out
               have hnc134 := NB211_255.out
               have hnb135 := NB255_216.out
               have hnc135 := NB216_255.out
               have hnb136 := NB255_222.out
               have hnc136 := NB222_255.out
               have hcz137_0 : w127.cell? ⟨gb255, 0, none⟩ = some (.int .i64 0) := (blk_cell BK255.out 0).trans rfl
               have hcz137_1 : w127.cell? ⟨gb255, 1, none⟩ = some (.slice none 0 0) := (blk_cell BK255.out 1).trans rfl
               have hfz137_0 := blk_frozen BK255.out 0
               have hfz137_1 := blk_frozen BK255.out 1
               have hcz138_0 : w127.cell? ⟨gb206, 0, none⟩ = some (.int .i64 t201) := (blk_cell BK206.out 0).trans rfl
               have hcz138_1 : w127.cell? ⟨gb206, 1, none⟩ = some (.slice Ao68 t202.length co68) := (blk_cell BK206.out 1).trans rfl
               have hfz138_0 := blk_frozen BK206.out 0
               have hfz138_1 := blk_frozen BK206.out 1
               try go_wp2_with (first | ((with_reducible refine gate_callee (f := 18) rfl ?_); refine goesL_ (some 104) rfl rfl Try.func18 (by kernel_rfl) rfl #[.agg #[.int .i64 t250, .slice Ao129 t251.length co129], .agg #[.int .i64 t201, .slice Ao68 t202.length co68]] rfl (by (try simp only [List.map_toArray, List.map_cons, List.map_nil]); first | done | rfl | (simp only [List.length_drop, List.length_take]; rfl)) ?_; (with_reducible refine (laws_eqMatrix.calls k t250 _ _ t251 t201 _ _ t202 true _ ?side1 ?side2 ?side3 ?side4 A46.out).mono ?_); (case side1 => refine (Kd.R_reads' (e := 3) (base := w.heap.size) (ok := fun k_ => (some k_ ≠ (v195 : Value).ownBlock ∧ (some k_ ≠ (v199 : Value).ownBlock ∧ (NS Ao68 t202 co68 k_ ∧ (NS Ao78 t208 co78 k_ ∧ (NS Ao88 t213 co88 k_ ∧ (NS Ao98 t218 co98 k_ ∧ (NS Ao103 t225 co103 k_ ∧ (NS Ao107 t230 co107 k_ ∧ (some k_ ≠ (v244 : Value).ownBlock ∧ some k_ ≠ (v248 : Value).ownBlock)))))))))) (n := t251.length) (c := co129) ?_).2.2; exact (r2z HO253 BK255 (by decide))); (case side2 => exact (Kd.R_reads' HO253.out).2.1); (case side3 => refine (Kd.R_reads' (e := 3) (base := w.heap.size) (ok := fun k_ => (some k_ ≠ (v195 : Value).ownBlock ∧ (some k_ ≠ (v199 : Value).ownBlock ∧ (NS Ao78 t208 co78 k_ ∧ (NS Ao88 t213 co88 k_ ∧ (NS Ao98 t218 co98 k_ ∧ (NS Ao103 t225 co103 k_ ∧ (NS Ao107 t230 co107 k_ ∧ (some k_ ≠ (v244 : Value).ownBlock ∧ (some k_ ≠ (v248 : Value).ownBlock ∧ NS Ao129 t251 co129 k_)))))))))) (n := t202.length) (c := co68) ?_).2.2; exact (r2z HO204 BK255 (by decide))); (case side4 => exact (Kd.R_reads' HO204.out).2.1); rintro e w139 ⟨rfl, hb⟩; refine ⟨_, rfl, ?_⟩; have n0_ := am (Kd.R_below (r2z HO196 BK255 (by decide)) hb); have n1_ := am (Kd.R_below (r2z HO200 BK255 (by decide)) hb); have n2_ := am (Kd.R_below (r2z HO204 BK255 (by decide)) hb); have n3_ := am (Kd.R_below (r2z HO210 BK255 (by decide)) hb); have n4_ := am (Kd.R_below (r2z HO215 BK255 (by decide)) hb); have n5_ := am (Kd.R_below (r2z HO220 BK255 (by decide)) hb); have n6_ := am (Kd.R_below (r2z HO227 BK255 (by decide)) hb); have n7_ := am (Kd.R_below (r2z HO232 BK255 (by decide)) hb); have n8_ := am (Kd.R_below (r2z HO245 BK255 (by decide)) hb); have n9_ := am (Kd.R_below (r2z HO249 BK255 (by decide)) hb); have n10_ := am (Kd.R_below (r2z HO253 BK255 (by decide)) hb); have n11_ := am (blk_below (kf BK189.out) hb); have n12_ := am (blk_below (kf BK190.out) hb); have n13_ := am (blk_below (kf BK206.out) hb); have n14_ := am (blk_below (kf BK211.out) hb); have n15_ := am (blk_below (kf BK216.out) hb); have n16_ := am (blk_below (kf BK222.out) hb); have n17_ := am (blk_below (g := gb255) (o := .cells #[.int .i64 t250, .slice Ao129 t251.length co129] 27 (0, 0)) (by (with_reducible repeat (first | refine kn ?_ _ | refine kd ?_ | refine ka ?_ _)); refine blk_put (cs := #[.int .i64 t250, .slice none 0 0]) ?_ 1 _ rfl; (with_reducible repeat (first | refine kn ?_ _ | refine kd ?_ | refine ka ?_ _)); refine blk_put (cs := #[.int .i64 0, .slice none 0 0]) ?_ 0 _ rfl; (with_reducible repeat (first | refine kn ?_ _ | refine kd ?_ | refine ka ?_ _)); exact BK255.out) hb); have n18_ := am (below_step (bw HB.out) hb); clear HO196 HO200 HO204 HO210 HO215 HO220 HO227 HO232 HO245 HO249 HO253 BK189 BK190 BK206 BK211 BK216 BK222 BK255 HB; revert n0_ n1_ n2_ n3_ n4_ n5_ n6_ n7_ n8_ n9_ n10_ n11_ n12_ n13_ n14_ n15_ n16_ n17_ n18_; intro HO196 HO200 HO204 HO210 HO215 HO220 HO227 HO232 HO245 HO249 HO253 BK189 BK190 BK206 BK211 BK216 BK222 BK255 HB; (try clear hb); (try clear hb2); (try clear hk); (try clear hi); have hcz140_0 := cz20 BK222.out; have hcz140_1 := cz21 BK222.out; have hfz140_0 := blk_frozen BK222.out 0; have hfz140_1 := blk_frozen BK222.out 1) | ((with_reducible refine gate_callee (f := 22) rfl ?_); refine goesL_ (some 113) rfl rfl Try.func22 (by kernel_rfl) rfl #[.agg #[.int .i64 t217, .slice Ao98 t240.length co98], .int .i64 1] rfl (by (try simp only [List.map_toArray, List.map_cons, List.map_nil]); first | done | (rw [show t240.length = t218.length from (Kd.R_reads' HO220.out).1.symm] <;> rfl) | rfl | (simp only [List.length_drop, List.length_take]; rfl)) ?_; (with_reducible refine (laws_heldMatrix.calls k t217 _ _ t240 1 t257 _ ?side1 ?side2 A49.out).mono ?_); (case side1 => repeat (first | exact (Kd.R_reads' HO220.out).2.2 | (with_reducible refine Kd.C_alloc ?_ _) | (with_reducible refine Kd.C_drewN ?_ _) | (with_reducible refine Kd.C_drew ?_))); (case side2 => rw [show t240.length = t218.length from (Kd.R_reads' HO220.out).1.symm]; exact (Kd.R_reads' HO220.out).2.1); rintro e w141 ⟨rfl, hb⟩; refine ⟨_, rfl, ?_⟩; have n0_ := am (Kd.R_below (rz HO196.out) hb); have n1_ := am (Kd.R_below (rz HO200.out) hb); have n2_ := am (Kd.R_below (rz HO204.out) hb); have n3_ := am (Kd.R_below (rz HO210.out) hb); have n4_ := am (Kd.R_below (rz HO215.out) hb); have n5_ := am (Kd.R_below (rz HO220.out) hb); have n6_ := am (Kd.R_below (rz HO227.out) hb); have n7_ := am (Kd.R_below (rz HO232.out) hb); have n8_ := am (Kd.R_below (rz HO245.out) hb); have n9_ := am (Kd.R_below (rz HO249.out) hb); have n10_ := am (Kd.R_below (rz HO253.out) hb); have n11_ := bk BK189 hb; have n12_ := bk BK190 hb; have n13_ := bk BK206 hb; have n14_ := bk BK211 hb; have n15_ := bk BK216 hb; have n16_ := bk BK222 hb; have n17_ := bk BK255 hb; have n18_ := am (below_step (bw HB.out) hb); clear HO196 HO200 HO204 HO210 HO215 HO220 HO227 HO232 HO245 HO249 HO253 BK189 BK190 BK206 BK211 BK216 BK222 BK255 HB; revert n0_ n1_ n2_ n3_ n4_ n5_ n6_ n7_ n8_ n9_ n10_ n11_ n12_ n13_ n14_ n15_ n16_ n17_ n18_; intro HO196 HO200 HO204 HO210 HO215 HO220 HO227 HO232 HO245 HO249 HO253 BK189 BK190 BK206 BK211 BK216 BK222 BK255 HB; (try clear hb); (try clear hb2); (try clear hk); (try clear hi)))
               go_ret
               exact ⟨by first | rfl | (simp [errW_none, errW_some] <;> rfl) | (simp [*, errW_none, errW_some] <;> rfl), by exact bw HB.out⟩
              ·rw [if_neg c51] at H
               exact absurd H (by simp)
           ·replace c47 := Bool.eq_false_iff.mpr c47
            subst c47
            have H1 : (none) = some r := by rw [if_neg (show ¬ (false = true) by decide)] at H; exact H
            clear H
            have H := H1
            clear H1
            exact absurd H (by simp)
          ·rw [if_neg c42] at H
           exact absurd H (by simp)
        ·replace c38 := Bool.eq_false_iff.mpr c38
         subst c38
         have H1 : (none) = some r := by rw [if_neg (show ¬ (false = true) by decide)] at H; exact H
         clear H
         have H := H1
         clear H1
         exact absurd H (by simp)
      ·replace c33 := Bool.eq_false_iff.mpr c33
       subst c33
       have H1 : (none) = some r := by rw [if_neg (show ¬ (false = true) by decide)] at H; exact H
       clear H
       have H := H1
       clear H1
       exact absurd H (by simp)
     ·replace c30 := Bool.eq_false_iff.mpr c30
      subst c30
      have H1 : (none) = some r := by rw [if_neg (show ¬ (false = true) by decide)] at H; exact H
      clear H
      have H := H1
      clear H1
      exact absurd H (by simp)
   ·replace c26 := Bool.eq_false_iff.mpr c26
    subst c26
    have H1 : (none) = some r := by rw [if_neg (show ¬ (false = true) by decide)] at H; exact H
    clear H
    have H := H1
    clear H1
    exact absurd H (by simp)

/-- THE ONE PURE STATEMENT of laws_FnExactMulMatrix. -/
def laws_FnExactMulMatrix.Pure : Prop := ∀ (a0_0 : Int) (l0_1 : List Int) (a1_0 : Int) (l1_1 : List Int), (Lit.int .i64 a0_0).wf = true → l0_1.length ≤ maxLen → (∀ x ∈ l0_1, (Lit.int .i64 x).wf = true) → (Lit.int .i64 a1_0).wf = true → l1_1.length ≤ maxLen → (∀ x ∈ l1_1, (Lit.int .i64 x).wf = true) → ∃ k, laws_FnExactMulMatrix.f k a0_0 l0_1 a1_0 l1_1 = some true
theorem laws_FnExactMulMatrix.walk (P : laws_FnExactMulMatrix.Pure) (a0_0 : Int) (a0_1 : Option Addr) (len0_1 cap0_1 : Nat) (z0_1 : List Int) (a1_0 : Int) (a1_1 : Option Addr) (len1_1 cap1_1 : Nat) (z1_1 : List Int) (w : World) (w0_0 : (Lit.int .i64 a0_0).wf = true) (w0_1 : (a0_1 = none ∧ len0_1 = 0 ∧ cap0_1 = 0 ∧ z0_1 = []) ∨ ∃ x, a0_1 = some x ∧ len0_1 ≤ cap0_1 ∧ cap0_1 ≤ maxLen ∧ z0_1.length = cap0_1 ∧ (∀ i, i < z0_1.length → w.cell? (x.add i) = some (.int .i64 (z0_1.getD i 0))) ∧ ∀ n ∈ z0_1, (Lit.int .i64 n).wf = true) (w1_0 : (Lit.int .i64 a1_0).wf = true) (w1_1 : (a1_1 = none ∧ len1_1 = 0 ∧ cap1_1 = 0 ∧ z1_1 = []) ∨ ∃ x, a1_1 = some x ∧ len1_1 ≤ cap1_1 ∧ cap1_1 ≤ maxLen ∧ z1_1.length = cap1_1 ∧ (∀ i, i < z1_1.length → w.cell? (x.add i) = some (.int .i64 (z1_1.getD i 0))) ∧ ∀ n ∈ z1_1, (Lit.int .i64 n).wf = true) :
  Calls Try.prog 7 #[.agg #[.int .i64 a0_0, .slice a0_1 len0_1 cap0_1], .agg #[.int .i64 a1_0, .slice a1_1 len1_1 cap1_1]] w fun e w' => e = .returned (.bool true) ∧ Below w.heap.size w w' := by
 obtain ⟨l0_1, rfl, hr0_1, hm0_1, hw0_1, hc0_1⟩ := ReadsInt.ofRowC w0_1
 obtain ⟨l1_1, rfl, hr1_1, hm1_1, hw1_1, hc1_1⟩ := ReadsInt.ofRowC w1_1
 obtain ⟨k, h⟩ := P a0_0 l0_1 a1_0 l1_1 w0_0 hm0_1 hw0_1 w1_0 hm1_1 hw1_1
 refine (laws_FnExactMulMatrix.calls k a0_0 _ _ l0_1 a1_0 _ _ l1_1 true w (Kd.C_of_reads (d := (0 : Int)) (h1 := fun _ => rfl) hr0_1) hc0_1 (Kd.C_of_reads (d := (0 : Int)) (h1 := fun _ => rfl) hr1_1) hc1_1 h).mono ?_
 rintro e w' ⟨rfl, hd⟩
 exact ⟨rfl, hd⟩

end Go.Proofs.Ythojienhgeiknaa.PFnExactMulMatrix
