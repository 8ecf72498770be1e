-- Written by a program (wip/myprint.py): the machine side of one law: each function that it reaches, as a plain function, and the proof that a call comes to just that.
import Derived.Test.YthgkfakkpinbcaaPFnSumsx0
import Derived.Test.YthgkfakkpinbcaaPFnSumsx1
import Derived.Test.YthgkfakkpinbcaaPFnSumsx2
namespace Go.Proofs.Ythgkfakkpinbcaa.PFnSums
open Go.RowKit Go.Proofs.YthgkfakkpinbcaaW.PrintWords Go.Proofs.YthgkfakkpinbcaaW.PrintLast Go.Proofs.YthgkfakkpinbcaaW.PrintMore
attribute [local go_sem] max2_int min2_int max_two min_two max_three min_three max_four min_four   -- for this text's walks alone
set_option linter.unusedVariables false
set_option linter.unusedSimpArgs false

/-! ### laws_FnSums: function 15 -/
mutual
def laws_FnSums.j0 : Nat → List Int → Int → Int → Bool → Option (Bool)
 | 0, _, _, _, _ => none
 | k + 1, x3, x4, x5, x31 => if x31 = true then ((spec_SumCosts.f k x3).bind fun t168 => (if x4 = t168 then ((spec_LeastCost.f k x3).bind fun t169 => (if x5 = t169 then (some (x5 == x4)) else (none))) else (none))) else (laws_FnSums.l0 k x3 x4 x5 (wrap64 ((x3.length : Int) / 2)) x3 (x3.length : Int) 0)
def laws_FnSums.l0 : Nat → List Int → Int → Int → Int → List Int → Int → Int → Option (Bool)
 | 0, _, _, _, _, _, _, _ => none
 | k + 1, x3, x4, x5, x6, x50, x51, x52 => if x52 < x51 then (if 0 ≤ x52 then (if x52 < (x50.length : Int) then ((impl_CostValid.f (rd x50 x52)).bind fun t171 => (if t171 = true then (if (rd x50 x52) < x5 then (none) else (if (rd x50 x52) > x4 then (none) else (laws_FnSums.l0 k x3 x4 x5 x6 x50 x51 (wrap64 (x52 + 1))))) else (none))) else (none)) else (none)) else (if 0 ≤ x6 then (if x6 ≤ (x3.length : Int) then ((impl_SumCosts.f k (x3.take (x6 : Int).toNat)).bind fun t176 => ((impl_SumCosts.f k (x3.drop (x6 : Int).toNat)).bind fun t181 => ((impl_AddCost.f t176 t181).bind fun t182 => (if t182 = x4 then ((impl_LeastCost.f k (x3.take (x6 : Int).toNat)).bind fun t187 => ((impl_LeastCost.f k (x3.drop (x6 : Int).toNat)).bind fun t192 => ((impl_MinCost.f t187 t192).bind fun t193 => (some (t193 == x5))))) else (none))))) else (none)) else (none))
end
def laws_FnSums.f (k : Nat) (l0 : List Int) : Option (Bool) := if (l0.length : Int) > 1048576 then (some true) else ((spec_DrawSumCosts.f k l0).bind fun t161 => ((impl_SumCosts.f k t161).bind fun t164 => ((impl_LeastCost.f k t161).bind fun t165 => ((spec_SumCosts.f k t161).bind fun t166 => (if t164 = t166 then ((spec_LeastCost.f k t161).bind fun t167 => (if t165 = t167 then (laws_FnSums.j0 k t161 t164 t165 (decide (t164 < 0))) else (laws_FnSums.j0 k t161 t164 t165 true))) else (laws_FnSums.j0 k t161 t164 t165 true))))))
theorem laws_FnSums.mono_l : ∀ k, (∀ y0 y1 y2 y3, LeO (laws_FnSums.j0 k y0 y1 y2 y3) (laws_FnSums.j0 (k + 1) y0 y1 y2 y3)) ∧ (∀ y0 y1 y2 y3 y4 y5 y6, LeO (laws_FnSums.l0 k y0 y1 y2 y3 y4 y5 y6) (laws_FnSums.l0 (k + 1) y0 y1 y2 y3 y4 y5 y6))
 | 0 => ⟨fun _ _ _ _ r h => by simp [laws_FnSums.j0] at h, fun _ _ _ _ _ _ _ r h => by simp [laws_FnSums.l0] at h⟩
 | k + 1 => by
  obtain ⟨ih0, ih1⟩ := laws_FnSums.mono_l k
  refine ⟨?_, ?_⟩
  ·intro y0 y1 y2 y3
   unfold laws_FnSums.j0
   repeat' first
   | (with_reducible exact ih0 _ _ _ _)
   | (with_reducible exact ih1 _ _ _ _ _ _ _)
   | (with_reducible exact impl_LeastCost.mono _ _)
   | (with_reducible exact impl_SumCosts.mono _ _)
   | (with_reducible exact spec_DrawSumCosts.mono _ _)
   | (with_reducible exact spec_LeastCost.mono _ _)
   | (with_reducible exact spec_SumCosts.mono _ _)
   | (with_reducible exact LeO.refl _)
   | (with_reducible exact LeO.none _)
   | (with_reducible refine LeO.ite ?_ ?_)
   | (with_reducible refine LeO.bind ?_ (fun _ => ?_))
   | exact ih0 _ _ _ _
   | exact ih1 _ _ _ _ _ _ _
   | exact impl_LeastCost.mono _ _
   | exact impl_SumCosts.mono _ _
   | exact spec_DrawSumCosts.mono _ _
   | exact spec_LeastCost.mono _ _
   | exact spec_SumCosts.mono _ _
   | exact LeO.none _
   | refine LeO.ite ?_ ?_
   | refine LeO.bind ?_ (fun _ => ?_)
  ·intro y0 y1 y2 y3 y4 y5 y6
   unfold laws_FnSums.l0
   repeat' first
   | (with_reducible exact ih0 _ _ _ _)
   | (with_reducible exact ih1 _ _ _ _ _ _ _)
   | (with_reducible exact impl_LeastCost.mono _ _)
   | (with_reducible exact impl_SumCosts.mono _ _)
   | (with_reducible exact spec_DrawSumCosts.mono _ _)
   | (with_reducible exact spec_LeastCost.mono _ _)
   | (with_reducible exact spec_SumCosts.mono _ _)
   | (with_reducible exact LeO.refl _)
   | (with_reducible exact LeO.none _)
   | (with_reducible refine LeO.ite ?_ ?_)
   | (with_reducible refine LeO.bind ?_ (fun _ => ?_))
   | exact ih0 _ _ _ _
   | exact ih1 _ _ _ _ _ _ _
   | exact impl_LeastCost.mono _ _
   | exact impl_SumCosts.mono _ _
   | exact spec_DrawSumCosts.mono _ _
   | exact spec_LeastCost.mono _ _
   | exact spec_SumCosts.mono _ _
   | exact LeO.none _
   | refine LeO.ite ?_ ?_
   | refine LeO.bind ?_ (fun _ => ?_)
theorem laws_FnSums.mono : ∀ a0 k, LeO (laws_FnSums.f k a0) (laws_FnSums.f (k + 1) a0) := by
 intro a0 k
 obtain ⟨ih0, ih1⟩ := laws_FnSums.mono_l k
 unfold laws_FnSums.f
 repeat' first
   | (with_reducible exact ih0 _ _ _ _)
   | (with_reducible exact ih1 _ _ _ _ _ _ _)
   | (with_reducible exact impl_LeastCost.mono _ _)
   | (with_reducible exact impl_SumCosts.mono _ _)
   | (with_reducible exact spec_DrawSumCosts.mono _ _)
   | (with_reducible exact spec_LeastCost.mono _ _)
   | (with_reducible exact spec_SumCosts.mono _ _)
   | (with_reducible exact LeO.refl _)
   | (with_reducible exact LeO.none _)
   | (with_reducible refine LeO.ite ?_ ?_)
   | (with_reducible refine LeO.bind ?_ (fun _ => ?_))
   | exact ih0 _ _ _ _
   | exact ih1 _ _ _ _ _ _ _
   | exact impl_LeastCost.mono _ _
   | exact impl_SumCosts.mono _ _
   | exact spec_DrawSumCosts.mono _ _
   | exact spec_LeastCost.mono _ _
   | exact spec_SumCosts.mono _ _
   | exact LeO.none _
   | refine LeO.ite ?_ ?_
   | refine LeO.bind ?_ (fun _ => ?_)
def laws_FnSums.T14 : Bool × List (List Nat × List Nat) := (true, [([], []), ([], []), ([0, 1], [0, 1]), ([2], [2]), ([], []), ([], []), ([4, 5], [4, 5]), ([6, 3], [6]), ([3, 7, 7], [3, 7]), ([], []), ([8, 9], [8, 9]), ([10, 8], [10]), ([11], [11]), ([11], [11]), ([12, 13, 11], [11, 12, 13]), ([14, 11, 11], [11, 14]), ([11], [11]), ([11], [11]), ([16, 17, 11], [11, 16, 17]), ([18, 15, 11], [11, 18]), ([15, 19, 19, 11], [11, 15, 19]), ([11], [11]), ([20, 21, 11], [11, 20, 21]), ([11, 22], [11, 22]), ([23, 20, 0, 1, 2, 3, 4, 5, 6, 7, 8, 9, 10, 11, 12, 13, 14, 15, 16, 17, 18, 19, 20, 21, 22, 23], [23])])
def laws_FnSums.B14 : List Nat := [0, 0, 3, 7, 0, 0, 48, 127, 255, 0, 1023, 2047, 4095, 4095, 16383, 32767, 4095, 4095, 200703, 524287, 1048575, 4095, 4194303, 8388607, 16777215]
theorem laws_FnSums.tab14 : rtab .any (opsOf Try.f15 14) = laws_FnSums.T14 := by kernel_rfl
theorem laws_FnSums.bits14 : waitsOk laws_FnSums.T14.2 laws_FnSums.B14 = true := by kernel_rfl
set_option maxHeartbeats 8000000 in
set_option maxRecDepth 100000 in
theorem laws_FnSums.calls (k : Nat) (A0 : Option Addr) (c0 : Nat) (l0 : List Int) (r : Bool) (w : World) (hr0 : Kd.C (Kd.int .u8) w A0 l0.length l0) (hc0 : l0.length ≤ c0) (h : laws_FnSums.f k l0 = some r) :
  Calls Try.prog 15 #[.slice A0 l0.length c0] w fun e w' => e = .returned (.bool r) ∧ Below w.heap.size w w' := by
 have HR0 := Aside0.mk hr0
 have HC0 := Aside0.mk hc0
 clear hr0 hc0
 have HB := Aside0.mk (Below.refl w.heap.size w)
 have H : (if (l0.length : Int) > 1048576 then (some true) else ((spec_DrawSumCosts.f k l0).bind fun t161 => ((impl_SumCosts.f k t161).bind fun t164 => ((impl_LeastCost.f k t161).bind fun t165 => ((spec_SumCosts.f k t161).bind fun t166 => (if t164 = t166 then ((spec_LeastCost.f k t161).bind fun t167 => (if t165 = t167 then (laws_FnSums.j0 k t161 t164 t165 (decide (t164 < 0))) else (laws_FnSums.j0 k t161 t164 t165 true))) else (laws_FnSums.j0 k t161 t164 t165 true))))))) = some r := h
 clear h
 by_cases c2 : (l0.length : Int) > 1048576
 ·rw [if_pos c2] at H
  have c2b0 : decide (1048576 < (l0.length : Int)) = true := decide_eq_true c2
  have c2b1 : decide (1048576 < l0.length) = true := decide_eq_true (by omega)
  clear c2
  obtain rfl := Option.some.inj H
  go_enter Try.func15, Try.ntmps15
  go_wp2
  go_ret
  exact ⟨by first | rfl | (simp [errW_none, errW_some] <;> rfl) | (simp [*, errW_none, errW_some] <;> rfl), by exact bz HB.out⟩
 ·rw [if_neg c2] at H
  have c2b0 : decide (1048576 < (l0.length : Int)) = false := decide_eq_false c2
  have c2b1 : decide (1048576 < l0.length) = false := decide_eq_false (by omega)
  clear c2
  replace H := Option.bind_eq_some_iff.mp H
  obtain ⟨t161, A30, H⟩ := H
  replace H : ((impl_SumCosts.f k t161).bind fun t164 => ((impl_LeastCost.f k t161).bind fun t165 => ((spec_SumCosts.f k t161).bind fun t166 => (if t164 = t166 then ((spec_LeastCost.f k t161).bind fun t167 => (if t165 = t167 then (laws_FnSums.j0 k t161 t164 t165 (decide (t164 < 0))) else (laws_FnSums.j0 k t161 t164 t165 true))) else (laws_FnSums.j0 k t161 t164 t165 true))))) = some r := H
  have A3 := Aside0.mk A30
  clear A30
  replace H := Option.bind_eq_some_iff.mp H
  obtain ⟨t164, A40, H⟩ := H
  replace H : ((impl_LeastCost.f k t161).bind fun t165 => ((spec_SumCosts.f k t161).bind fun t166 => (if t164 = t166 then ((spec_LeastCost.f k t161).bind fun t167 => (if t165 = t167 then (laws_FnSums.j0 k t161 t164 t165 (decide (t164 < 0))) else (laws_FnSums.j0 k t161 t164 t165 true))) else (laws_FnSums.j0 k t161 t164 t165 true)))) = some r := H
  have A4 := Aside0.mk A40
  clear A40
  replace H := Option.bind_eq_some_iff.mp H
  obtain ⟨t165, A50, H⟩ := H
  replace H : ((spec_SumCosts.f k t161).bind fun t166 => (if t164 = t166 then ((spec_LeastCost.f k t161).bind fun t167 => (if t165 = t167 then (laws_FnSums.j0 k t161 t164 t165 (decide (t164 < 0))) else (laws_FnSums.j0 k t161 t164 t165 true))) else (laws_FnSums.j0 k t161 t164 t165 true))) = some r := H
  have A5 := Aside0.mk A50
  clear A50
  have HC6 := Aside0.mk H
  clear H
  go_enter Try.func15, Try.ntmps15
  go_upto_region 5 with (first | ((with_reducible refine gate_callee (f := 45) rfl ?_); refine goesL_ (some 13) rfl rfl Try.func45 (by kernel_rfl) rfl #[.slice A0 l0.length c0] rfl (by (try simp only [List.map_toArray, List.map_cons, List.map_nil]); first | done | rfl | (simp only [List.length_drop, List.length_take]; rfl)) ?_; (with_reducible refine (spec_DrawSumCosts.calls k _ _ l0 t161 _ ?side1 ?side2 A3.out).mono ?_); (case side1 => repeat (first | exact HR0.out | (with_reducible refine Kd.C_alloc ?_ _) | (with_reducible refine Kd.C_drewN ?_ _) | (with_reducible refine Kd.C_drew ?_))); (case side2 => exact HC0.out); rintro e w7 ⟨v162, rfl, ho0, hb⟩; refine ⟨_, rfl, ?_⟩; have n0_ := Aside0.mk (Kd.R_lower ho0 (below_size (by exact bz HB.out))); have n1_ := Aside0.mk (below_step (by exact bz HB.out) hb); clear HB; have HO163 := n0_; have HB := n1_; clear n0_ n1_; (try clear hb); (try clear hb2); (try clear hk); (try clear hi); (try clear ho0); obtain ⟨Ao8, co8, eo8⟩ := Kd.R_slice HO163.out; subst eo8) | ((with_reducible refine gate_callee (f := 31) rfl ?_); refine goesL_ (some 15) rfl rfl Try.func31 (by kernel_rfl) rfl #[.slice Ao8 t161.length co8] rfl (by (try simp only [List.map_toArray, List.map_cons, List.map_nil]); first | done | rfl | (simp only [List.length_drop, List.length_take]; rfl)) ?_; (with_reducible refine (impl_SumCosts.calls k _ _ t161 t164 _ ?side1 ?side2 A4.out).mono ?_); (case side1 => repeat (first | exact (Kd.R_reads' HO163.out).2.2 | (with_reducible refine Kd.C_alloc ?_ _) | (with_reducible refine Kd.C_drewN ?_ _) | (with_reducible refine Kd.C_drew ?_))); (case side2 => exact (Kd.R_reads' HO163.out).2.1); rintro e w9 ⟨rfl, hb⟩; refine ⟨_, rfl, ?_⟩; have n0_ := Aside0.mk (Kd.R_below (rz HO163.out) hb); have n1_ := Aside0.mk (below_step (by exact bz HB.out) hb); clear HO163 HB; have HO163 := n0_; have HB := n1_; clear n0_ n1_; (try clear hb); (try clear hb2); (try clear hk); (try clear hi)) | ((with_reducible refine gate_callee (f := 28) rfl ?_); refine goesL_ (some 17) rfl rfl Try.func28 (by kernel_rfl) rfl #[.slice Ao8 t161.length co8] rfl (by (try simp only [List.map_toArray, List.map_cons, List.map_nil]); first | done | rfl | (simp only [List.length_drop, List.length_take]; rfl)) ?_; (with_reducible refine (impl_LeastCost.calls k _ _ t161 t165 _ ?side1 ?side2 A5.out).mono ?_); (case side1 => repeat (first | exact (Kd.R_reads' HO163.out).2.2 | (with_reducible refine Kd.C_alloc ?_ _) | (with_reducible refine Kd.C_drewN ?_ _) | (with_reducible refine Kd.C_drew ?_))); (case side2 => exact (Kd.R_reads' HO163.out).2.1); rintro e w10 ⟨rfl, hb⟩; refine ⟨_, rfl, ?_⟩; have n0_ := Aside0.mk (Kd.R_below (rz HO163.out) hb); have n1_ := Aside0.mk (below_step (by exact bz HB.out) hb); clear HO163 HB; have HO163 := n0_; have HB := n1_; clear n0_ n1_; (try clear hb); (try clear hb2); (try clear hk); (try clear hi)))
  (try simp only [Act.put, List.setIfInBounds_toArray, List.set_cons_zero, List.set_cons_succ])
  go_cut [31] (fun v31 wc => ∃ (kq : Nat) (x31_5 : Bool), v31 = .bool x31_5 ∧ Aside0 (laws_FnSums.j0 kq t161 t164 t165 x31_5 = some r) ∧ Aside0 (kq ≤ k) ∧ Aside0 (Kd.R (Kd.int .i64) 3 wc w.heap.size (fun _ => True) (.slice Ao8 t161.length co8) t161) ∧ Aside0 (Below w.heap.size w wc))
  case first =>
   have H := HC6.out
   clear HC6
   replace H := Option.bind_eq_some_iff.mp H
   obtain ⟨t166, A110, H⟩ := H
   replace H : (if t164 = t166 then ((spec_LeastCost.f k t161).bind fun t167 => (if t165 = t167 then (laws_FnSums.j0 k t161 t164 t165 (decide (t164 < 0))) else (laws_FnSums.j0 k t161 t164 t165 true))) else (laws_FnSums.j0 k t161 t164 t165 true)) = some r := H
   have A11 := Aside0.mk A110
   clear A110
   by_cases c12 : t164 = t166
   ·rw [if_pos c12] at H
    have c12b0 : (t164 == t166) = true := beq_iff_eq.mpr c12
    have c12b1 : (t164 != t166) = false := bne_eq_false_iff_eq.mpr c12
    clear c12
    (first | rw [c12b0] | (simp only [i64_w, i32_w]; rw [c12b0]) | skip)
    replace H := Option.bind_eq_some_iff.mp H
    obtain ⟨t167, A130, H⟩ := H
    replace H : (if t165 = t167 then (laws_FnSums.j0 k t161 t164 t165 (decide (t164 < 0))) else (laws_FnSums.j0 k t161 t164 t165 true)) = some r := H
    have A13 := Aside0.mk A130
    clear A130
    by_cases c14 : t165 = t167
    ·rw [if_pos c14] at H
     have c14b0 : (t165 == t167) = true := beq_iff_eq.mpr c14
     have c14b1 : (t165 != t167) = false := bne_eq_false_iff_eq.mpr c14
     clear c14
     have H' := Aside0.mk H
     clear H
     go_wp2_with (first | ((with_reducible refine gate_callee (f := 30) rfl ?_); refine goesL_ (some 20) rfl rfl Try.func30 (by kernel_rfl) rfl #[.slice Ao8 t161.length co8] rfl (by (try simp only [List.map_toArray, List.map_cons, List.map_nil]); first | done | rfl | (simp only [List.length_drop, List.length_take]; rfl)) ?_; (with_reducible refine (spec_SumCosts.calls k _ _ t161 t166 _ ?side1 ?side2 A11.out).mono ?_); (case side1 => repeat (first | exact (Kd.R_reads' HO163.out).2.2 | (with_reducible refine Kd.C_alloc ?_ _) | (with_reducible refine Kd.C_drewN ?_ _) | (with_reducible refine Kd.C_drew ?_))); (case side2 => exact (Kd.R_reads' HO163.out).2.1); rintro e w15 ⟨rfl, hb⟩; refine ⟨_, rfl, ?_⟩; have n0_ := Aside0.mk (Kd.R_below (rz HO163.out) hb); have n1_ := Aside0.mk (below_step (by exact bz HB.out) hb); clear HO163 HB; have HO163 := n0_; have HB := n1_; clear n0_ n1_; (try clear hb); (try clear hb2); (try clear hk); (try clear hi)) | (go_at_call 26; (with_reducible refine (spec_LeastCost.calls k _ _ t161 t167 _ ?side1 ?side2 A13.out).mono ?_); (case side1 => repeat (first | exact (Kd.R_reads' HO163.out).2.2 | (with_reducible refine Kd.C_alloc ?_ _) | (with_reducible refine Kd.C_drewN ?_ _) | (with_reducible refine Kd.C_drew ?_))); (case side2 => exact (Kd.R_reads' HO163.out).2.1); rintro e w16 ⟨rfl, hb⟩; have n0_ := Aside0.mk (Kd.R_below (rz HO163.out) hb); have n1_ := Aside0.mk (below_step (by exact bz HB.out) hb); clear HO163 HB; have HO163 := n0_; have HB := n1_; clear n0_ n1_; (try clear hb); (try clear hb2); (try clear hk); (try clear hi)))
     go_meet
     case rel => exact ⟨_, (decide (t164 < 0)), (by first | rfl | (simp; done) | (simp [*]; done)), H', ⟨by first | omega | exact Nat.le_refl _⟩, ⟨rz HO163.out⟩, ⟨by exact bz HB.out⟩⟩
    ·rw [if_neg c14] at H
     have c14b0 : (t165 == t167) = false := beq_eq_false_iff_ne.mpr c14
     have c14b1 : (t165 != t167) = true := bne_iff_ne.mpr c14
     have H' := Aside0.mk H
     clear H
     go_wp2_with (first | ((with_reducible refine gate_callee (f := 30) rfl ?_); refine goesL_ (some 20) rfl rfl Try.func30 (by kernel_rfl) rfl #[.slice Ao8 t161.length co8] rfl (by (try simp only [List.map_toArray, List.map_cons, List.map_nil]); first | done | rfl | (simp only [List.length_drop, List.length_take]; rfl)) ?_; (with_reducible refine (spec_SumCosts.calls k _ _ t161 t166 _ ?side1 ?side2 A11.out).mono ?_); (case side1 => repeat (first | exact (Kd.R_reads' HO163.out).2.2 | (with_reducible refine Kd.C_alloc ?_ _) | (with_reducible refine Kd.C_drewN ?_ _) | (with_reducible refine Kd.C_drew ?_))); (case side2 => exact (Kd.R_reads' HO163.out).2.1); rintro e w17 ⟨rfl, hb⟩; refine ⟨_, rfl, ?_⟩; have n0_ := Aside0.mk (Kd.R_below (rz HO163.out) hb); have n1_ := Aside0.mk (below_step (by exact bz HB.out) hb); clear HO163 HB; have HO163 := n0_; have HB := n1_; clear n0_ n1_; (try clear hb); (try clear hb2); (try clear hk); (try clear hi)) | (go_at_call 26; (with_reducible refine (spec_LeastCost.calls k _ _ t161 t167 _ ?side1 ?side2 A13.out).mono ?_); (case side1 => repeat (first | exact (Kd.R_reads' HO163.out).2.2 | (with_reducible refine Kd.C_alloc ?_ _) | (with_reducible refine Kd.C_drewN ?_ _) | (with_reducible refine Kd.C_drew ?_))); (case side2 => exact (Kd.R_reads' HO163.out).2.1); rintro e w18 ⟨rfl, hb⟩; have n0_ := Aside0.mk (Kd.R_below (rz HO163.out) hb); have n1_ := Aside0.mk (below_step (by exact bz HB.out) hb); clear HO163 HB; have HO163 := n0_; have HB := n1_; clear n0_ n1_; (try clear hb); (try clear hb2); (try clear hk); (try clear hi)))
     go_meet
     case rel => exact ⟨_, (true), (by first | rfl | (simp; done) | (simp [*]; done)), H', ⟨by first | omega | exact Nat.le_refl _⟩, ⟨rz HO163.out⟩, ⟨by exact bz HB.out⟩⟩
   ·rw [if_neg c12] at H
    have c12b0 : (t164 == t166) = false := beq_eq_false_iff_ne.mpr c12
    have c12b1 : (t164 != t166) = true := bne_iff_ne.mpr c12
    (first | rw [c12b0] | (simp only [i64_w, i32_w]; rw [c12b0]) | skip)
    have H' := Aside0.mk H
    clear H
    go_wp2_with (first | ((with_reducible refine gate_callee (f := 30) rfl ?_); refine goesL_ (some 20) rfl rfl Try.func30 (by kernel_rfl) rfl #[.slice Ao8 t161.length co8] rfl (by (try simp only [List.map_toArray, List.map_cons, List.map_nil]); first | done | rfl | (simp only [List.length_drop, List.length_take]; rfl)) ?_; (with_reducible refine (spec_SumCosts.calls k _ _ t161 t166 _ ?side1 ?side2 A11.out).mono ?_); (case side1 => repeat (first | exact (Kd.R_reads' HO163.out).2.2 | (with_reducible refine Kd.C_alloc ?_ _) | (with_reducible refine Kd.C_drewN ?_ _) | (with_reducible refine Kd.C_drew ?_))); (case side2 => exact (Kd.R_reads' HO163.out).2.1); rintro e w19 ⟨rfl, hb⟩; refine ⟨_, rfl, ?_⟩; have n0_ := Aside0.mk (Kd.R_below (rz HO163.out) hb); have n1_ := Aside0.mk (below_step (by exact bz HB.out) hb); clear HO163 HB; have HO163 := n0_; have HB := n1_; clear n0_ n1_; (try clear hb); (try clear hb2); (try clear hk); (try clear hi)))
    go_meet
    case rel => exact ⟨_, (true), (by first | rfl | (simp; done) | (simp [*]; done)), H', ⟨by first | omega | exact Nat.le_refl _⟩, ⟨rz HO163.out⟩, ⟨by exact bz HB.out⟩⟩
  case rest =>
   clear HC6
   try clear c1
   try clear c2
   try clear c2b0
   try clear c2b1
   try clear p2
   try clear c3
   try clear c4
   try clear c12
   try clear c12b0
   try clear c12b1
   try clear c14
   try clear c14b0
   try clear c14b1
   try clear c15
   obtain ⟨kq, x31_5, rfl, HA, HJ5, HO_3, HB⟩ := hcut
   cases kq with
   | zero => exact absurd HA.out (by simp [laws_FnSums.j0])
   | succ kj5 =>
    have H := HA.out
    clear HA
    simp only [laws_FnSums.j0] at H
    by_cases c20 : x31_5 = true
    ·subst c20
     have H1 : ((spec_SumCosts.f kj5 t161).bind fun t168 => (if t164 = t168 then ((spec_LeastCost.f kj5 t161).bind fun t169 => (if t165 = t169 then (some (t165 == t164)) else (none))) else (none))) = some r := by rw [if_pos rfl] at H; exact H
     clear H
     have H := H1
     clear H1
     replace H := Option.bind_eq_some_iff.mp H
     obtain ⟨t168, A210, H⟩ := H
     replace H : (if t164 = t168 then ((spec_LeastCost.f kj5 t161).bind fun t169 => (if t165 = t169 then (some (t165 == t164)) else (none))) else (none)) = some r := H
     have A21 := Aside0.mk A210
     clear A210
     by_cases c22 : t164 = t168
     ·rw [if_pos c22] at H
      have c22b0 : (t164 == t168) = true := beq_iff_eq.mpr c22
      have c22b1 : (t164 != t168) = false := bne_eq_false_iff_eq.mpr c22
      clear c22
      replace H := Option.bind_eq_some_iff.mp H
      obtain ⟨t169, A230, H⟩ := H
      replace H : (if t165 = t169 then (some (t165 == t164)) else (none)) = some r := H
      have A23 := Aside0.mk A230
      clear A230
      by_cases c24 : t165 = t169
      ·rw [if_pos c24] at H
       have c24b0 : (t165 == t169) = true := beq_iff_eq.mpr c24
       have c24b1 : (t165 != t169) = false := bne_eq_false_iff_eq.mpr c24
       clear c24
       obtain rfl := Option.some.inj H
       go_wp2_with (first | ((with_reducible refine gate_callee (f := 30) rfl ?_); refine goesL_ (some 34) rfl rfl Try.func30 (by kernel_rfl) rfl #[.slice Ao8 t161.length co8] rfl (by (try simp only [List.map_toArray, List.map_cons, List.map_nil]); first | done | rfl | (simp only [List.length_drop, List.length_take]; rfl)) ?_; (with_reducible refine (spec_SumCosts.calls kj5 _ _ t161 t168 _ ?side1 ?side2 A21.out).mono ?_); (case side1 => repeat (first | exact (Kd.R_reads' HO_3.out).2.2 | (with_reducible refine Kd.C_alloc ?_ _) | (with_reducible refine Kd.C_drewN ?_ _) | (with_reducible refine Kd.C_drew ?_))); (case side2 => exact (Kd.R_reads' HO_3.out).2.1); rintro e w25 ⟨rfl, hb⟩; refine ⟨_, rfl, ?_⟩; have n0_ := Aside0.mk (Kd.R_below (rz HO_3.out) hb); have n1_ := Aside0.mk (below_step (by exact bz HB.out) hb); clear HO_3 HB; have HO_3 := n0_; have HB := n1_; clear n0_ n1_; (try clear hb); (try clear hb2); (try clear hk); (try clear hi)) | (go_at_call 26; (with_reducible refine (spec_LeastCost.calls kj5 _ _ t161 t169 _ ?side1 ?side2 A23.out).mono ?_); (case side1 => repeat (first | exact (Kd.R_reads' HO_3.out).2.2 | (with_reducible refine Kd.C_alloc ?_ _) | (with_reducible refine Kd.C_drewN ?_ _) | (with_reducible refine Kd.C_drew ?_))); (case side2 => exact (Kd.R_reads' HO_3.out).2.1); rintro e w26 ⟨rfl, hb⟩; have n0_ := Aside0.mk (Kd.R_below (rz HO_3.out) hb); have n1_ := Aside0.mk (below_step (by exact bz HB.out) hb); clear HO_3 HB; have HO_3 := n0_; have HB := n1_; clear n0_ n1_; (try clear hb); (try clear hb2); (try clear hk); (try clear hi)))
       go_ret
       exact ⟨by first | rfl | (simp [errW_none, errW_some] <;> rfl) | (simp [*, errW_none, errW_some] <;> rfl), by exact bz HB.out⟩
      ·rw [if_neg c24] at H
       exact absurd H (by simp)
     ·rw [if_neg c22] at H
      exact absurd H (by simp)
    ·replace c20 := Bool.eq_false_iff.mpr c20
     subst c20
     have H1 : (laws_FnSums.l0 kj5 t161 t164 t165 (wrap64 ((t161.length : Int) / 2)) t161 (t161.length : Int) 0) = some r := by rw [if_neg (show ¬ (false = true) by decide)] at H; exact H
     clear H
     have H := H1
     clear H1
     have H' := Aside0.mk H
     clear H
     go_wp2
     go_loopg [52] kj5 (fun kq v52 w' => ∃ (x52_2 : Int), v52 = .int .i64 x52_2 ∧ Aside0 (laws_FnSums.l0 kq t161 t164 t165 (wrap64 ((t161.length : Int) / 2)) t161 (t161.length : Int) x52_2 = some r) ∧ Aside0 (kq ≤ kj5) ∧ Aside0 (Kd.R (Kd.int .i64) 3 w' w.heap.size (fun _ => True) (.slice Ao8 t161.length co8) t161) ∧ Aside0 (Kd.R (Kd.int .i64) 3 w' w.heap.size (fun _ => True) (.slice Ao8 t161.length co8) t161) ∧ Aside0 (Below w.heap.size w w'))
     case atStart => exact ⟨(0), (by first | rfl | (simp; done) | (simp [*]; done)), H', ⟨Nat.le_refl _⟩, ⟨rz HO_3.out⟩, ⟨rz HO_3.out⟩, ⟨by exact bz HB.out⟩⟩
     case round =>
      clear H'
      try clear c1
      try clear c2
      try clear c2b0
      try clear c2b1
      try clear p2
      try clear c3
      try clear c4
      try clear p6
      try clear c12
      try clear c12b0
      try clear c12b1
      try clear c14
      try clear c14b0
      try clear c14b1
      try clear c15
      try clear c20
      try clear c22
      try clear c22b0
      try clear c22b1
      try clear c24
      try clear c24b0
      try clear c24b1
      try clear p2
      obtain ⟨x52_2, rfl, HA, HK2, HO_3, HO_50, HB⟩ := hrel
      cases gk with
      | zero => exact absurd HA.out (by simp [laws_FnSums.l0])
      | succ k2 =>
       have H := HA.out
       clear HA
       simp only [laws_FnSums.l0] at H
       by_cases c27 : x52_2 < (t161.length : Int)
       ·rw [if_pos c27] at H
        have c27b0 : decide (x52_2 < (t161.length : Int)) = true := decide_eq_true c27
        clear c27
        by_cases c28 : 0 ≤ x52_2
        ·rw [if_pos c28] at H
         have c28b0 : decide (0 ≤ x52_2) = true := decide_eq_true c28
         clear c28
         by_cases c29 : x52_2 < (t161.length : Int)
         ·rw [if_pos c29] at H
          have c29b0 : decide (x52_2 < (t161.length : Int)) = true := decide_eq_true c29
          clear c29
          replace H := Option.bind_eq_some_iff.mp H
          obtain ⟨t171, A300, H⟩ := H
          replace H : (if t171 = true then (if (rd t161 x52_2) < t165 then (none) else (if (rd t161 x52_2) > t164 then (none) else (laws_FnSums.l0 k2 t161 t164 t165 (wrap64 ((t161.length : Int) / 2)) t161 (t161.length : Int) (wrap64 (x52_2 + 1))))) else (none)) = some r := H
          have A30 := Aside0.mk A300
          clear A300
          by_cases c31 : t171 = true
          ·subst c31
           have H1 : (if (rd t161 x52_2) < t165 then (none) else (if (rd t161 x52_2) > t164 then (none) else (laws_FnSums.l0 k2 t161 t164 t165 (wrap64 ((t161.length : Int) / 2)) t161 (t161.length : Int) (wrap64 (x52_2 + 1))))) = some r := by rw [if_pos rfl] at H; exact H
           clear H
           have H := H1
           clear H1
           by_cases c32 : (rd t161 x52_2) < t165
           ·rw [if_pos c32] at H
            exact absurd H (by simp)
           ·rw [if_neg c32] at H
            have c32b0 : decide ((rd t161 x52_2) < t165) = false := decide_eq_false c32
            clear c32
            by_cases c33 : (rd t161 x52_2) > t164
            ·rw [if_pos c33] at H
             exact absurd H (by simp)
            ·rw [if_neg c33] at H
             have c33b0 : decide (t164 < (rd t161 x52_2)) = false := decide_eq_false c33
             clear c33
             have H' := Aside0.mk H
             clear H
             have p170 : 0 ≤ (x52_2 : Int) := of_decide_eq_true (by first | (with_reducible assumption) | assumption)
             have q170 : x52_2 < (t161.length : Int) := of_decide_eq_true (by first | (with_reducible assumption) | assumption)
             obtain ⟨ad170, e170, hx170_0⟩ := Kd.at_int (Kd.R_reads' HO_50.out).2.2 x52_2 p170 q170
             cases e170
             replace p170 := eq_true p170
             replace q170 := eq_true q170
             go_wp2_with (first | ((with_reducible refine gate_callee (f := 17) rfl ?_); refine goesL_ (some 57) rfl rfl Try.func17 (by kernel_rfl) rfl #[.int .i64 (rd t161 x52_2)] rfl (by (try simp only [List.map_toArray, List.map_cons, List.map_nil]); first | done | rfl | (simp only [List.length_drop, List.length_take]; rfl)) ?_; (with_reducible refine (impl_CostValid.calls (rd t161 x52_2) true _ A30.out).mono ?_); rintro e w' ⟨rfl, ⟨nd, rfl⟩⟩; refine ⟨_, rfl, ?_⟩))
             go_roundg k2
             case measure => have := HJ5.out; have := HK2.out; omega
             case rel => exact ⟨(wrap64 (x52_2 + 1)), (by first | rfl | (simp; done) | (simp [*]; done)), H', ⟨by have := HJ5.out; have := HK2.out; omega⟩, ⟨rz HO_3.out⟩, ⟨rz HO_50.out⟩, ⟨by exact bz HB.out⟩⟩
          ·replace c31 := Bool.eq_false_iff.mpr c31
           subst c31
           have H1 : (none) = some r := by rw [if_neg (show ¬ (false = true) by decide)] at H; exact H
           clear H
           have H := H1
           clear H1
           exact absurd H (by simp)
         ·rw [if_neg c29] at H
          exact absurd H (by simp)
        ·rw [if_neg c28] at H
         exact absurd H (by simp)
       ·rw [if_neg c27] at H
        have c27b0 : decide (x52_2 < (t161.length : Int)) = false := decide_eq_false c27
        clear c27
        obtain ⟨ji34, hji34⟩ : ∃ j_ : Int, (wrap64 ((t161.length : Int) / 2)) = j_ := ⟨_, rfl⟩
        replace H : (if 0 ≤ (ji34) then (if (ji34) ≤ (t161.length : Int) then ((impl_SumCosts.f k2 (t161.take ((ji34) : Int).toNat)).bind fun t176 => ((impl_SumCosts.f k2 (t161.drop ((ji34) : Int).toNat)).bind fun t181 => ((impl_AddCost.f t176 t181).bind fun t182 => (if t182 = t164 then ((impl_LeastCost.f k2 (t161.take ((ji34) : Int).toNat)).bind fun t187 => ((impl_LeastCost.f k2 (t161.drop ((ji34) : Int).toNat)).bind fun t192 => ((impl_MinCost.f t187 t192).bind fun t193 => (some (t193 == t165))))) else (none))))) else (none)) else (none)) = some r := by first | (rw [hji34] at H; exact H) | (simp only [hji34] at H ⊢; exact H)
        have hji34w : (IntKind.i64.wrap ((t161.length : Int) / 2)) = ji34 := (i64_w _).trans hji34
        by_cases c35 : 0 ≤ (ji34)
        ·rw [if_pos c35] at H
         have c35b0 := eq_true c35
         have c35b1 : decide (0 ≤ (ji34)) = true := decide_eq_true c35
         clear c35
         by_cases c36 : (ji34) ≤ (t161.length : Int)
         ·rw [if_pos c36] at H
          have c36b0 := eq_true c36
          have c36b1 : decide ((ji34) ≤ (t161.length : Int)) = true := decide_eq_true c36
          clear c36
          obtain ⟨y172, hy172⟩ : ∃ y_ : List Int, y_ = (t161.take ((ji34) : Int).toNat) := ⟨_, rfl⟩
          replace H : ((impl_SumCosts.f k2 y172).bind fun t176 => ((impl_SumCosts.f k2 (t161.drop ((ji34) : Int).toNat)).bind fun t181 => ((impl_AddCost.f t176 t181).bind fun t182 => (if t182 = t164 then ((impl_LeastCost.f k2 (t161.take ((ji34) : Int).toNat)).bind fun t187 => ((impl_LeastCost.f k2 (t161.drop ((ji34) : Int).toNat)).bind fun t192 => ((impl_MinCost.f t187 t192).bind fun t193 => (some (t193 == t165))))) else (none))))) = some r := by first | (rw [hy172]; with_reducible exact H) | (have H2_ := (Option.bind_some _ _).symm.trans H; rw [hy172]; with_reducible exact H2_) | (have H2_ := (Option.bind_some _ _).symm.trans H; with_reducible exact H2_) | with_reducible exact H | (rw [hy172]; exact H) | exact H
          have Ny172 := Aside0.mk hy172
          clear hy172
          replace H := Option.bind_eq_some_iff.mp H
          obtain ⟨t176, A370, H⟩ := H
          replace H : ((impl_SumCosts.f k2 (t161.drop ((ji34) : Int).toNat)).bind fun t181 => ((impl_AddCost.f t176 t181).bind fun t182 => (if t182 = t164 then ((impl_LeastCost.f k2 (t161.take ((ji34) : Int).toNat)).bind fun t187 => ((impl_LeastCost.f k2 (t161.drop ((ji34) : Int).toNat)).bind fun t192 => ((impl_MinCost.f t187 t192).bind fun t193 => (some (t193 == t165))))) else (none)))) = some r := H
          have A37 := Aside0.mk A370
          clear A370
          have c38b0 := eq_true (of_decide_eq_true (by first | (with_reducible assumption) | assumption) : 0 ≤ (ji34))
          have c39b0 := eq_true (of_decide_eq_true (by first | (with_reducible assumption) | assumption) : (ji34) ≤ (t161.length : Int))
          obtain ⟨y177, hy177⟩ : ∃ y_ : List Int, y_ = (t161.drop ((ji34) : Int).toNat) := ⟨_, rfl⟩
          replace H : ((impl_SumCosts.f k2 y177).bind fun t181 => ((impl_AddCost.f t176 t181).bind fun t182 => (if t182 = t164 then ((impl_LeastCost.f k2 (t161.take ((ji34) : Int).toNat)).bind fun t187 => ((impl_LeastCost.f k2 (t161.drop ((ji34) : Int).toNat)).bind fun t192 => ((impl_MinCost.f t187 t192).bind fun t193 => (some (t193 == t165))))) else (none)))) = some r := by first | (rw [hy177]; with_reducible exact H) | (have H2_ := (Option.bind_some _ _).symm.trans H; rw [hy177]; with_reducible exact H2_) | (have H2_ := (Option.bind_some _ _).symm.trans H; with_reducible exact H2_) | with_reducible exact H | (rw [hy177]; exact H) | exact H
          have Ny177 := Aside0.mk hy177
          clear hy177
          replace H := Option.bind_eq_some_iff.mp H
          obtain ⟨t181, A400, H⟩ := H
          replace H : ((impl_AddCost.f t176 t181).bind fun t182 => (if t182 = t164 then ((impl_LeastCost.f k2 (t161.take ((ji34) : Int).toNat)).bind fun t187 => ((impl_LeastCost.f k2 (t161.drop ((ji34) : Int).toNat)).bind fun t192 => ((impl_MinCost.f t187 t192).bind fun t193 => (some (t193 == t165))))) else (none))) = some r := H
          have A40 := Aside0.mk A400
          clear A400
          replace H := Option.bind_eq_some_iff.mp H
          obtain ⟨t182, A410, H⟩ := H
          replace H : (if t182 = t164 then ((impl_LeastCost.f k2 (t161.take ((ji34) : Int).toNat)).bind fun t187 => ((impl_LeastCost.f k2 (t161.drop ((ji34) : Int).toNat)).bind fun t192 => ((impl_MinCost.f t187 t192).bind fun t193 => (some (t193 == t165))))) else (none)) = some r := H
          have A41 := Aside0.mk A410
          clear A410
          by_cases c42 : t182 = t164
          ·rw [if_pos c42] at H
           have c42b0 : (t182 == t164) = true := beq_iff_eq.mpr c42
           have c42b1 : (t182 != t164) = false := bne_eq_false_iff_eq.mpr c42
           clear c42
           have c43b0 := eq_true (of_decide_eq_true (by first | (with_reducible assumption) | assumption) : 0 ≤ (ji34))
           have c44b0 := eq_true (of_decide_eq_true (by first | (with_reducible assumption) | assumption) : (ji34) ≤ (t161.length : Int))
           obtain ⟨y183, hy183⟩ : ∃ y_ : List Int, y_ = (t161.take ((ji34) : Int).toNat) := ⟨_, rfl⟩
           replace H : ((impl_LeastCost.f k2 y183).bind fun t187 => ((impl_LeastCost.f k2 (t161.drop ((ji34) : Int).toNat)).bind fun t192 => ((impl_MinCost.f t187 t192).bind fun t193 => (some (t193 == t165))))) = some r := by first | (rw [hy183]; with_reducible exact H) | (have H2_ := (Option.bind_some _ _).symm.trans H; rw [hy183]; with_reducible exact H2_) | (have H2_ := (Option.bind_some _ _).symm.trans H; with_reducible exact H2_) | with_reducible exact H | (rw [hy183]; exact H) | exact H
           have Ny183 := Aside0.mk hy183
           clear hy183
           replace H := Option.bind_eq_some_iff.mp H
           obtain ⟨t187, A450, H⟩ := H
           replace H : ((impl_LeastCost.f k2 (t161.drop ((ji34) : Int).toNat)).bind fun t192 => ((impl_MinCost.f t187 t192).bind fun t193 => (some (t193 == t165)))) = some r := H
           have A45 := Aside0.mk A450
           clear A450
           have c46b0 := eq_true (of_decide_eq_true (by first | (with_reducible assumption) | assumption) : 0 ≤ (ji34))
           have c47b0 := eq_true (of_decide_eq_true (by first | (with_reducible assumption) | assumption) : (ji34) ≤ (t161.length : Int))
           obtain ⟨y188, hy188⟩ : ∃ y_ : List Int, y_ = (t161.drop ((ji34) : Int).toNat) := ⟨_, rfl⟩
           replace H : ((impl_LeastCost.f k2 y188).bind fun t192 => ((impl_MinCost.f t187 t192).bind fun t193 => (some (t193 == t165)))) = some r := by first | (rw [hy188]; with_reducible exact H) | (have H2_ := (Option.bind_some _ _).symm.trans H; rw [hy188]; with_reducible exact H2_) | (have H2_ := (Option.bind_some _ _).symm.trans H; with_reducible exact H2_) | with_reducible exact H | (rw [hy188]; exact H) | exact H
           have Ny188 := Aside0.mk hy188
           clear hy188
           replace H := Option.bind_eq_some_iff.mp H
           obtain ⟨t192, A480, H⟩ := H
           replace H : ((impl_MinCost.f t187 t192).bind fun t193 => (some (t193 == t165))) = some r := H
           have A48 := Aside0.mk A480
           clear A480
           replace H := Option.bind_eq_some_iff.mp H
           obtain ⟨t193, A490, H⟩ := H
           replace H : (some (t193 == t165)) = some r := H
           have A49 := Aside0.mk A490
           clear A490
           obtain rfl := Option.some.inj H
           try go_wp2
           have n0_ := Aside0.mk (Kd.R_drew HO_3.out)
           have n1_ := Aside0.mk (Kd.R_drew HO_50.out)
           have n2_ := Aside0.mk (below_drew1 HB.out)
           clear HO_3 HO_50 HB
           have HO_3 := n0_
           have HO_50 := n1_
           have HB := n2_
           clear n0_ n1_ n2_
           have q51 : ((ji34) : Int) ≤ ((t161.length : Int) : Int) := of_decide_eq_true (by first | (with_reducible assumption) | assumption)
           obtain ⟨i051, hi051, _, hsz51, _⟩ := info_parts info3
           have hroom51 : t161.length ≤ co8 := (Kd.R_reads' HO_3.out).2.1
           have hC51 : Kd.C (Kd.int .i64) _ Ao8 t161.length t161 := (Kd.R_reads' HO_3.out).2.2
           have hcut51 := cut_to (P := Try.prog) 27 3 .i64 Try.underlying27 hi051 Ao8 t161.length co8 (ji34) (of_decide_eq_true (by first | (with_reducible assumption) | assumption)) q51 hroom51
           have hr51 := Kd.C_take (m := ((ji34) : Int).toNat) hC51 (by omega)
           have hy51 : y172.length = ((ji34) : Int).toNat := (by rw [Ny172.out, List.length_take]; omega)
           rw [← Ny172.out] at hr51
           rw [← hy51] at hcut51
           have HR175 := Aside0.mk hr51
           have HC175 := Aside0.mk (show y172.length ≤ co8 from by omega)
           clear hr51 hC51 hroom51 hi051 hsz51
           have KY51 := Aside0.mk hy51
           clear hy51
           have KL51 := Aside0.mk (show ((ji34) : Int).toNat ≤ t161.length from by omega)
           replace q51 := eq_true q51
           have q52 : ((ji34) : Int) ≤ ((t161.length : Int) : Int) := of_decide_eq_true (by first | (with_reducible assumption) | assumption)
           obtain ⟨i052, hi052, _, hsz52, _⟩ := info_parts info3
           have hroom52 : t161.length ≤ co8 := (Kd.R_reads' HO_3.out).2.1
           have hC52 : Kd.C (Kd.int .i64) _ Ao8 t161.length t161 := (Kd.R_reads' HO_3.out).2.2
           have q052 : (0 : Int) ≤ ((ji34) : Int) := of_decide_eq_true (by first | (with_reducible assumption) | assumption)
           have hcut52 := cut_from (P := Try.prog) 27 3 .i64 Try.underlying27 hi052 1 hsz52 Ao8 t161.length co8 (ji34) q052 q52
           have hr52 := Kd.C_drop (m := ((ji34) : Int).toNat) (c := co8) hC52 (by omega) hroom52
           obtain ⟨A52, hA52⟩ : ∃ A1, A1 = (if co8 = ((ji34) : Int).toNat then Ao8 else (Ao8 : Option Addr).map (·.add (((ji34) : Int).toNat * 1))) := ⟨_, rfl⟩
           obtain ⟨c52, hc52⟩ : ∃ c1, c1 = co8 - ((ji34) : Int).toNat := ⟨_, rfl⟩
           have hy52 : y177.length = t161.length - ((ji34) : Int).toNat := (by rw [Ny177.out, List.length_drop] <;> omega)
           rw [show (t161).drop ((ji34) : Int).toNat = y177 from Ny177.out.symm] at hr52
           replace hr52 : Kd.C (Kd.int .i64) _ A52 y177.length y177 := (by rw [hA52]; exact hr52)
           rw [← hy52, ← hA52, ← hc52] at hcut52
           have HR180 := Aside0.mk hr52
           have HC180 := Aside0.mk (show y177.length ≤ c52 from by rw [hy52, hc52]; exact Nat.sub_le_sub_right hroom52 _)
           clear hr52 hC52 hroom52 hi052 hsz52
           have Kc52 := Aside0.mk hc52
           clear hc52
           have KY52 := Aside0.mk hy52
           have KA52 := Aside0.mk hA52
           clear hy52 hA52
           have KL52 := Aside0.mk (show ((ji34) : Int).toNat ≤ t161.length from by omega)
           replace q52 := eq_true q52
           refine start_ (n := 25) (S := fun w' => True) (ds := []) #[false, false, false, false, false, false, false, false, false, false, false, false, false, false, false, false, false, false, false, false, false, false, false, false, false] (by kernel_rfl) rfl rfl trivial (fun hHeld => ?_); refine with_tabW laws_FnSums.tab14 laws_FnSums.bits14 (fun HT_ HW_ => ?_)
           generalize wr.drew = w50 at HO_3 HO_50 HB HR175 HR180 hHeld ⊢
           refine pure_ (i := 0) (N := some 70) (v := ?_) (a' := ?_) #[true, false, false, false, false, false, false, false, false, false, false, false, false, false, false, false, false, false, false, false, false, false, false, false, false] rfl rfl (any_of HT_.out (by kernel_rfl)) (fun _ _ _ h => h) (Or.inl ⟨by rfl, ?_⟩) ?_ ?_
           rotate_left
           ·intro w'
            go_simp
            with_reducible rfl
           rotate_left
           ·simp only [Act.put, List.setIfInBounds_toArray, List.set_cons_zero, List.set_cons_succ, i64_w, i32_w]
            rfl
           refine pure_ (i := 1) (N := some 71) (v := ?_) (a' := ?_) #[true, true, false, false, false, false, false, false, false, false, false, false, false, false, false, false, false, false, false, false, false, false, false, false, false] rfl rfl (any_of HT_.out (by kernel_rfl)) (fun _ _ _ h => h) (Or.inl ⟨by rfl, ?_⟩) ?_ ?_
           rotate_left
           ·intro w'
            go_simp
            with_reducible rfl
           rotate_left
           ·simp only [Act.put, List.setIfInBounds_toArray, List.set_cons_zero, List.set_cons_succ, i64_w, i32_w]
            rfl
           refine pure_ (i := 2) (N := some 72) (v := ?_) (a' := ?_) #[true, true, true, false, false, false, false, false, false, false, false, false, false, false, false, false, false, false, false, false, false, false, false, false, false] rfl rfl (any_of HT_.out (by kernel_rfl)) (fun _ _ _ h => h) (Or.inl ⟨by rfl, ?_⟩) ?_ ?_
           rotate_left
           ·intro w'
            go_simp
            with_reducible rfl
           rotate_left
           ·simp only [Act.put, List.setIfInBounds_toArray, List.set_cons_zero, List.set_cons_succ, i64_w, i32_w]
            rfl
           refine pure_ (i := 4) (N := some 74) (v := ?_) (a' := ?_) #[true, true, true, false, true, false, false, false, false, false, false, false, false, false, false, false, false, false, false, false, false, false, false, false, false] rfl rfl (any_of HT_.out (by kernel_rfl)) (fun _ _ _ h => h) (Or.inl ⟨by rfl, ?_⟩) ?_ ?_
           rotate_left
           ·intro w'
            go_simp
            with_reducible rfl
           rotate_left
           ·simp only [Act.put, List.setIfInBounds_toArray, List.set_cons_zero, List.set_cons_succ, i64_w, i32_w]
            rfl
           refine pure_ (i := 5) (N := some 75) (v := ?_) (a' := ?_) #[true, true, true, false, true, true, false, false, false, false, false, false, false, false, false, false, false, false, false, false, false, false, false, false, false] rfl rfl (any_of HT_.out (by kernel_rfl)) (fun _ _ _ h => h) (Or.inl ⟨by rfl, ?_⟩) ?_ ?_
           rotate_left
           ·intro w'
            go_simp
            with_reducible rfl
           rotate_left
           ·simp only [Act.put, List.setIfInBounds_toArray, List.set_cons_zero, List.set_cons_succ, i64_w, i32_w]
            rfl
           refine pure_ (i := 6) (N := some 76) (v := ?_) (a' := ?_) #[true, true, true, false, true, true, true, false, false, false, false, false, false, false, false, false, false, false, false, false, false, false, false, false, false] rfl rfl (any_of HT_.out (by kernel_rfl)) (fun _ _ _ h => h) (Or.inl ⟨by rfl, ?_⟩) ?_ ?_
           rotate_left
           ·intro w'
            go_simp
            with_reducible rfl
           rotate_left
           ·simp only [Act.put, List.setIfInBounds_toArray, List.set_cons_zero, List.set_cons_succ, i64_w, i32_w]
            rfl
           refine pure_ (i := 9) (N := some 79) (v := ?_) (a' := ?_) #[true, true, true, false, true, true, true, false, false, true, false, false, false, false, false, false, false, false, false, false, false, false, false, false, false] rfl rfl (any_of HT_.out (by kernel_rfl)) (fun _ _ _ h => h) (Or.inl ⟨by rfl, ?_⟩) ?_ ?_
           rotate_left
           ·intro w'
            go_simp
            with_reducible rfl
           rotate_left
           ·simp only [Act.put, List.setIfInBounds_toArray, List.set_cons_zero, List.set_cons_succ, i64_w, i32_w]
            rfl
           refine one_ (i := 3) (N := some 73) #[true, true, true, true, true, true, true, false, false, true, false, false, false, false, false, false, false, false, false, false, false, false, false, false, false] rfl rfl (one_of HT_.out (by kernel_rfl)) (by decide) (fun K hK => ?_)
           refine goes_ Try.func31 (by kernel_rfl) rfl #[.slice Ao8 y172.length co8] (by rfl) rfl rfl (by (try simp only [List.map_toArray, List.map_cons, List.map_nil]); first | done | rfl | (simp only [List.length_drop, List.length_take]; rfl)) ?_
           with_reducible refine (impl_SumCosts.calls k2 _ _ y172 t176 _ ?side1 ?side2 A37.out).mono ?_
           (case side1 => repeat (first | exact (by repeat (first | (with_reducible exact HR175.out) | (with_reducible refine Kd.C_alloc ?_ _) | (with_reducible refine Kd.C_drewN ?_ _) | (with_reducible refine Kd.C_drew ?_) | exact HR175.out)) | (with_reducible refine Kd.C_alloc ?_ _) | (with_reducible refine Kd.C_drewN ?_ _) | (with_reducible refine Kd.C_drew ?_)))
           (case side2 => exact HC175.out)
           rintro e w53 ⟨rfl, hb⟩
           refine ⟨_, rfl, ?_⟩
           have n0_ := Aside0.mk (Kd.R_below (rz HO_3.out) hb)
           have n1_ := Aside0.mk (Kd.R_below (rz HO_50.out) hb)
           have n2_ := Aside0.mk (Kd.C_below (by repeat (first | (with_reducible exact HR175.out) | (with_reducible refine Kd.C_alloc ?_ _) | (with_reducible refine Kd.C_drewN ?_ _) | (with_reducible refine Kd.C_drew ?_) | exact HR175.out)) hb)
           have n3_ := Aside0.mk (Kd.C_below (by repeat (first | (with_reducible exact HR180.out) | (with_reducible refine Kd.C_alloc ?_ _) | (with_reducible refine Kd.C_drewN ?_ _) | (with_reducible refine Kd.C_drew ?_) | exact HR180.out)) hb)
           have n4_ := Aside0.mk (below_step (by exact bz HB.out) hb)
           clear HO_3 HO_50 HR175 HR180 HB
           have HO_3 := n0_
           have HO_50 := n1_
           have HR175 := n2_
           have HR180 := n3_
           have HB := n4_
           clear n0_ n1_ n2_ n3_ n4_
           (try clear hb)
           (try clear hb2)
           (try clear hk)
           (try clear hi)
           refine hK.out _ _ trivial (fun hHeld => ?_)
           clear hK K
           refine norm_ (a' := ?_) ?_ ?_
           rotate_left
           ·show Act.put _ (some 73) _ = _
            simp only [Act.put, List.setIfInBounds_toArray, List.set_cons_zero, List.set_cons_succ, i64_w, i32_w]
            rfl
           refine one_ (i := 7) (N := some 77) #[true, true, true, true, true, true, true, true, false, true, false, false, false, false, false, false, false, false, false, false, false, false, false, false, false] rfl rfl (one_of HT_.out (by kernel_rfl)) (by decide) (fun K hK => ?_)
           refine goes_ Try.func31 (by kernel_rfl) rfl #[.slice A52 y177.length c52] (by rfl) rfl rfl (by (try simp only [List.map_toArray, List.map_cons, List.map_nil]); first | done | rfl | (simp only [List.length_drop, List.length_take]; rfl)) ?_
           with_reducible refine (impl_SumCosts.calls k2 _ _ y177 t181 _ ?side1 ?side2 A40.out).mono ?_
           (case side1 => repeat (first | exact (by repeat (first | (with_reducible exact HR180.out) | (with_reducible refine Kd.C_alloc ?_ _) | (with_reducible refine Kd.C_drewN ?_ _) | (with_reducible refine Kd.C_drew ?_) | exact HR180.out)) | (with_reducible refine Kd.C_alloc ?_ _) | (with_reducible refine Kd.C_drewN ?_ _) | (with_reducible refine Kd.C_drew ?_)))
           (case side2 => exact HC180.out)
           rintro e w54 ⟨rfl, hb⟩
           refine ⟨_, rfl, ?_⟩
           have n0_ := Aside0.mk (Kd.R_below (rz HO_3.out) hb)
           have n1_ := Aside0.mk (Kd.R_below (rz HO_50.out) hb)
           have n2_ := Aside0.mk (Kd.C_below (by repeat (first | (with_reducible exact HR175.out) | (with_reducible refine Kd.C_alloc ?_ _) | (with_reducible refine Kd.C_drewN ?_ _) | (with_reducible refine Kd.C_drew ?_) | exact HR175.out)) hb)
           have n3_ := Aside0.mk (Kd.C_below (by repeat (first | (with_reducible exact HR180.out) | (with_reducible refine Kd.C_alloc ?_ _) | (with_reducible refine Kd.C_drewN ?_ _) | (with_reducible refine Kd.C_drew ?_) | exact HR180.out)) hb)
           have n4_ := Aside0.mk (below_step (by exact bz HB.out) hb)
           clear HO_3 HO_50 HR175 HR180 HB
           have HO_3 := n0_
           have HO_50 := n1_
           have HR175 := n2_
           have HR180 := n3_
           have HB := n4_
           clear n0_ n1_ n2_ n3_ n4_
           (try clear hb)
           (try clear hb2)
           (try clear hk)
           (try clear hi)
           refine hK.out _ _ trivial (fun hHeld => ?_)
           clear hK K
           refine norm_ (a' := ?_) ?_ ?_
           rotate_left
           ·show Act.put _ (some 77) _ = _
            simp only [Act.put, List.setIfInBounds_toArray, List.set_cons_zero, List.set_cons_succ, i64_w, i32_w]
            rfl
           refine one_ (i := 8) (N := some 78) #[true, true, true, true, true, true, true, true, true, true, false, false, false, false, false, false, false, false, false, false, false, false, false, false, false] rfl rfl (one_of HT_.out (by kernel_rfl)) (by decide) (fun K hK => ?_)
           refine goes_ Try.func23 (by kernel_rfl) rfl #[.int .i64 t176, .int .i64 t181] (by rfl) rfl rfl (by (try simp only [List.map_toArray, List.map_cons, List.map_nil]); first | done | rfl | (simp only [List.length_drop, List.length_take]; rfl)) ?_
           with_reducible refine (impl_AddCost.calls t176 t181 t182 _ A41.out).mono ?_
           rintro e w55 ⟨rfl, hb⟩
           refine ⟨_, rfl, ?_⟩
           have n0_ := Aside0.mk (Kd.R_below (rz HO_3.out) hb)
           have n1_ := Aside0.mk (Kd.R_below (rz HO_50.out) hb)
           have n2_ := Aside0.mk (Kd.C_below (by repeat (first | (with_reducible exact HR175.out) | (with_reducible refine Kd.C_alloc ?_ _) | (with_reducible refine Kd.C_drewN ?_ _) | (with_reducible refine Kd.C_drew ?_) | exact HR175.out)) hb)
           have n3_ := Aside0.mk (Kd.C_below (by repeat (first | (with_reducible exact HR180.out) | (with_reducible refine Kd.C_alloc ?_ _) | (with_reducible refine Kd.C_drewN ?_ _) | (with_reducible refine Kd.C_drew ?_) | exact HR180.out)) hb)
           have n4_ := Aside0.mk (below_step (by exact bz HB.out) hb)
           clear HO_3 HO_50 HR175 HR180 HB
           have HO_3 := n0_
           have HO_50 := n1_
           have HR175 := n2_
           have HR180 := n3_
           have HB := n4_
           clear n0_ n1_ n2_ n3_ n4_
           (try clear hb)
           (try clear hb2)
           (try clear hk)
           (try clear hi)
           have q56 : ((ji34) : Int) ≤ ((t161.length : Int) : Int) := of_decide_eq_true (by first | (with_reducible assumption) | assumption)
           obtain ⟨i056, hi056, _, hsz56, _⟩ := info_parts info3
           have hroom56 : t161.length ≤ co8 := (Kd.R_reads' HO_3.out).2.1
           have hC56 : Kd.C (Kd.int .i64) _ Ao8 t161.length t161 := (Kd.R_reads' HO_3.out).2.2
           have hcut56 := cut_to (P := Try.prog) 27 3 .i64 Try.underlying27 hi056 Ao8 t161.length co8 (ji34) (of_decide_eq_true (by first | (with_reducible assumption) | assumption)) q56 hroom56
           have hr56 := Kd.C_take (m := ((ji34) : Int).toNat) hC56 (by omega)
           have hy56 : y183.length = ((ji34) : Int).toNat := (by rw [Ny183.out, List.length_take]; omega)
           rw [← Ny183.out] at hr56
           rw [← hy56] at hcut56
           have HR186 := Aside0.mk hr56
           have HC186 := Aside0.mk (show y183.length ≤ co8 from by omega)
           clear hr56 hC56 hroom56 hi056 hsz56
           have KY56 := Aside0.mk hy56
           clear hy56
           have KL56 := Aside0.mk (show ((ji34) : Int).toNat ≤ t161.length from by omega)
           replace q56 := eq_true q56
           refine hK.out _ _ trivial (fun hHeld => ?_)
           clear hK K
           refine norm_ (a' := ?_) ?_ ?_
           rotate_left
           ·show Act.put _ (some 78) _ = _
            simp only [Act.put, List.setIfInBounds_toArray, List.set_cons_zero, List.set_cons_succ, i64_w, i32_w]
            rfl
           refine pure_ (i := 10) (N := some 80) (v := ?_) (a' := ?_) #[true, true, true, true, true, true, true, true, true, true, true, false, false, false, false, false, false, false, false, false, false, false, false, false, false] rfl rfl (any_of HT_.out (by kernel_rfl)) (fun _ _ _ h => h) (Or.inl ⟨by rfl, ?_⟩) ?_ ?_
           rotate_left
           ·intro w'
            go_simp
            with_reducible rfl
           rotate_left
           ·simp only [Act.put, List.setIfInBounds_toArray, List.set_cons_zero, List.set_cons_succ, i64_w, i32_w]
            rfl
           refine pure_ (i := 11) (N := some 81) (v := ?_) (a' := ?_) #[true, true, true, true, true, true, true, true, true, true, true, true, false, false, false, false, false, false, false, false, false, false, false, false, false] rfl rfl (any_of HT_.out (by kernel_rfl)) (fun _ _ _ h => h) (Or.inl ⟨by rfl, ?_⟩) ?_ ?_
           rotate_left
           ·intro w'
            go_simp
            with_reducible rfl
           rotate_left
           ·simp only [Act.put, List.setIfInBounds_toArray, List.set_cons_zero, List.set_cons_succ, i64_w, i32_w]
            rfl
           refine pure_ (i := 12) (N := some 82) (v := ?_) (a' := ?_) #[true, true, true, true, true, true, true, true, true, true, true, true, true, false, false, false, false, false, false, false, false, false, false, false, false] rfl rfl (any_of HT_.out (by kernel_rfl)) (fun _ _ _ h => h) (Or.inl ⟨by rfl, ?_⟩) ?_ ?_
           rotate_left
           ·intro w'
            go_simp
            with_reducible rfl
           rotate_left
           ·simp only [Act.put, List.setIfInBounds_toArray, List.set_cons_zero, List.set_cons_succ, i64_w, i32_w]
            rfl
           refine pure_ (i := 13) (N := some 83) (v := ?_) (a' := ?_) #[true, true, true, true, true, true, true, true, true, true, true, true, true, true, false, false, false, false, false, false, false, false, false, false, false] rfl rfl (any_of HT_.out (by kernel_rfl)) (fun _ _ _ h => h) (Or.inl ⟨by rfl, ?_⟩) ?_ ?_
           rotate_left
           ·intro w'
            go_simp
            with_reducible rfl
           rotate_left
           ·simp only [Act.put, List.setIfInBounds_toArray, List.set_cons_zero, List.set_cons_succ, i64_w, i32_w]
            rfl
           refine pure_ (i := 14) (N := some 84) (v := ?_) (a' := ?_) #[true, true, true, true, true, true, true, true, true, true, true, true, true, true, true, false, false, false, false, false, false, false, false, false, false] rfl rfl (any_of HT_.out (by kernel_rfl)) (fun _ _ _ h => h) (Or.inl ⟨by rfl, ?_⟩) ?_ ?_
           rotate_left
           ·intro w'
            go_simp
            with_reducible rfl
           rotate_left
           ·simp only [Act.put, List.setIfInBounds_toArray, List.set_cons_zero, List.set_cons_succ, i64_w, i32_w]
            rfl
           refine pure_ (i := 16) (N := some 86) (v := ?_) (a' := ?_) #[true, true, true, true, true, true, true, true, true, true, true, true, true, true, true, false, true, false, false, false, false, false, false, false, false] rfl rfl (any_of HT_.out (by kernel_rfl)) (fun _ _ _ h => h) (Or.inl ⟨by rfl, ?_⟩) ?_ ?_
           rotate_left
           ·intro w'
            go_simp
            with_reducible rfl
           rotate_left
           ·simp only [Act.put, List.setIfInBounds_toArray, List.set_cons_zero, List.set_cons_succ, i64_w, i32_w]
            rfl
           refine pure_ (i := 17) (N := some 87) (v := ?_) (a' := ?_) #[true, true, true, true, true, true, true, true, true, true, true, true, true, true, true, false, true, true, false, false, false, false, false, false, false] rfl rfl (any_of HT_.out (by kernel_rfl)) (fun _ _ _ h => h) (Or.inl ⟨by rfl, ?_⟩) ?_ ?_
           rotate_left
           ·intro w'
            go_simp
            with_reducible rfl
           rotate_left
           ·simp only [Act.put, List.setIfInBounds_toArray, List.set_cons_zero, List.set_cons_succ, i64_w, i32_w]
            rfl
           refine pure_ (i := 18) (N := some 88) (v := ?_) (a' := ?_) #[true, true, true, true, true, true, true, true, true, true, true, true, true, true, true, false, true, true, true, false, false, false, false, false, false] rfl rfl (any_of HT_.out (by kernel_rfl)) (fun _ _ _ h => h) (Or.inl ⟨by rfl, ?_⟩) ?_ ?_
           rotate_left
           ·intro w'
            go_simp
            with_reducible rfl
           rotate_left
           ·simp only [Act.put, List.setIfInBounds_toArray, List.set_cons_zero, List.set_cons_succ, i64_w, i32_w]
            rfl
           refine pure_ (i := 21) (N := some 91) (v := ?_) (a' := ?_) #[true, true, true, true, true, true, true, true, true, true, true, true, true, true, true, false, true, true, true, false, false, true, false, false, false] rfl rfl (any_of HT_.out (by kernel_rfl)) (fun _ _ _ h => h) (Or.inl ⟨by rfl, ?_⟩) ?_ ?_
           rotate_left
           ·intro w'
            go_simp
            with_reducible rfl
           rotate_left
           ·simp only [Act.put, List.setIfInBounds_toArray, List.set_cons_zero, List.set_cons_succ, i64_w, i32_w]
            rfl
           refine one_ (i := 15) (N := some 85) #[true, true, true, true, true, true, true, true, true, true, true, true, true, true, true, true, true, true, true, false, false, true, false, false, false] rfl rfl (one_of HT_.out (by kernel_rfl)) (by decide) (fun K hK => ?_)
           refine goes_ Try.func28 (by kernel_rfl) rfl #[.slice Ao8 y183.length co8] (by rfl) rfl rfl (by (try simp only [List.map_toArray, List.map_cons, List.map_nil]); first | done | rfl | (simp only [List.length_drop, List.length_take]; rfl) | (show #[Value.slice Ao8 y172.length co8] = _; rw [KY51.out, KY56.out])) ?_
           with_reducible refine (impl_LeastCost.calls k2 _ _ y183 t187 _ ?side1 ?side2 A45.out).mono ?_
           (case side1 => repeat (first | exact (by repeat (first | (with_reducible exact HR186.out) | (with_reducible refine Kd.C_alloc ?_ _) | (with_reducible refine Kd.C_drewN ?_ _) | (with_reducible refine Kd.C_drew ?_) | exact HR186.out)) | (with_reducible refine Kd.C_alloc ?_ _) | (with_reducible refine Kd.C_drewN ?_ _) | (with_reducible refine Kd.C_drew ?_)))
           (case side2 => exact HC186.out)
           rintro e w57 ⟨rfl, hb⟩
           refine ⟨_, rfl, ?_⟩
           have n0_ := Aside0.mk (Kd.R_below (rz HO_3.out) hb)
           have n1_ := Aside0.mk (Kd.R_below (rz HO_50.out) hb)
           have n2_ := Aside0.mk (Kd.C_below (by repeat (first | (with_reducible exact HR175.out) | (with_reducible refine Kd.C_alloc ?_ _) | (with_reducible refine Kd.C_drewN ?_ _) | (with_reducible refine Kd.C_drew ?_) | exact HR175.out)) hb)
           have n3_ := Aside0.mk (Kd.C_below (by repeat (first | (with_reducible exact HR180.out) | (with_reducible refine Kd.C_alloc ?_ _) | (with_reducible refine Kd.C_drewN ?_ _) | (with_reducible refine Kd.C_drew ?_) | exact HR180.out)) hb)
           have n4_ := Aside0.mk (Kd.C_below (by repeat (first | (with_reducible exact HR186.out) | (with_reducible refine Kd.C_alloc ?_ _) | (with_reducible refine Kd.C_drewN ?_ _) | (with_reducible refine Kd.C_drew ?_) | exact HR186.out)) hb)
           have n5_ := Aside0.mk (below_step (by exact bz HB.out) hb)
           clear HO_3 HO_50 HR175 HR180 HR186 HB
           have HO_3 := n0_
           have HO_50 := n1_
           have HR175 := n2_
           have HR180 := n3_
           have HR186 := n4_
           have HB := n5_
           clear n0_ n1_ n2_ n3_ n4_ n5_
           (try clear hb)
           (try clear hb2)
           (try clear hk)
           (try clear hi)
           have q58 : ((ji34) : Int) ≤ ((t161.length : Int) : Int) := of_decide_eq_true (by first | (with_reducible assumption) | assumption)
           obtain ⟨i058, hi058, _, hsz58, _⟩ := info_parts info3
           have hroom58 : t161.length ≤ co8 := (Kd.R_reads' HO_3.out).2.1
           have hC58 : Kd.C (Kd.int .i64) _ Ao8 t161.length t161 := (Kd.R_reads' HO_3.out).2.2
           have q058 : (0 : Int) ≤ ((ji34) : Int) := of_decide_eq_true (by first | (with_reducible assumption) | assumption)
           have hcut58 := cut_from (P := Try.prog) 27 3 .i64 Try.underlying27 hi058 1 hsz58 Ao8 t161.length co8 (ji34) q058 q58
           have hr58 := Kd.C_drop (m := ((ji34) : Int).toNat) (c := co8) hC58 (by omega) hroom58
           obtain ⟨A58, hA58⟩ : ∃ A1, A1 = (if co8 = ((ji34) : Int).toNat then Ao8 else (Ao8 : Option Addr).map (·.add (((ji34) : Int).toNat * 1))) := ⟨_, rfl⟩
           obtain ⟨c58, hc58⟩ : ∃ c1, c1 = co8 - ((ji34) : Int).toNat := ⟨_, rfl⟩
           have hy58 : y188.length = t161.length - ((ji34) : Int).toNat := (by rw [Ny188.out, List.length_drop] <;> omega)
           rw [show (t161).drop ((ji34) : Int).toNat = y188 from Ny188.out.symm] at hr58
           replace hr58 : Kd.C (Kd.int .i64) _ A58 y188.length y188 := (by rw [hA58]; exact hr58)
           rw [← hy58, ← hA58, ← hc58] at hcut58
           have HR191 := Aside0.mk hr58
           have HC191 := Aside0.mk (show y188.length ≤ c58 from by rw [hy58, hc58]; exact Nat.sub_le_sub_right hroom58 _)
           clear hr58 hC58 hroom58 hi058 hsz58
           have Kc58 := Aside0.mk hc58
           clear hc58
           have KY58 := Aside0.mk hy58
           have KA58 := Aside0.mk hA58
           clear hy58 hA58
           have KL58 := Aside0.mk (show ((ji34) : Int).toNat ≤ t161.length from by omega)
           replace q58 := eq_true q58
           refine hK.out _ _ trivial (fun hHeld => ?_)
           clear hK K
           refine norm_ (a' := ?_) ?_ ?_
           rotate_left
           ·show Act.put _ (some 85) _ = _
            simp only [Act.put, List.setIfInBounds_toArray, List.set_cons_zero, List.set_cons_succ, i64_w, i32_w]
            rfl
           refine one_ (i := 19) (N := some 89) #[true, true, true, true, true, true, true, true, true, true, true, true, true, true, true, true, true, true, true, true, false, true, false, false, false] rfl rfl (one_of HT_.out (by kernel_rfl)) (by decide) (fun K hK => ?_)
           refine goes_ Try.func28 (by kernel_rfl) rfl #[.slice A58 y188.length c58] (by rfl) rfl rfl (by (try simp only [List.map_toArray, List.map_cons, List.map_nil]); first | done | rfl | (simp only [List.length_drop, List.length_take]; rfl) | (show #[Value.slice A52 y177.length c52] = _; rw [KA52.out, KA58.out, KY52.out, KY58.out, Kc52.out, Kc58.out])) ?_
           with_reducible refine (impl_LeastCost.calls k2 _ _ y188 t192 _ ?side1 ?side2 A48.out).mono ?_
           (case side1 => repeat (first | exact (by repeat (first | (with_reducible exact HR191.out) | (with_reducible refine Kd.C_alloc ?_ _) | (with_reducible refine Kd.C_drewN ?_ _) | (with_reducible refine Kd.C_drew ?_) | exact HR191.out)) | (with_reducible refine Kd.C_alloc ?_ _) | (with_reducible refine Kd.C_drewN ?_ _) | (with_reducible refine Kd.C_drew ?_)))
           (case side2 => exact HC191.out)
           rintro e w59 ⟨rfl, hb⟩
           refine ⟨_, rfl, ?_⟩
           have n0_ := Aside0.mk (Kd.R_below (rz HO_3.out) hb)
           have n1_ := Aside0.mk (Kd.R_below (rz HO_50.out) hb)
           have n2_ := Aside0.mk (Kd.C_below (by repeat (first | (with_reducible exact HR175.out) | (with_reducible refine Kd.C_alloc ?_ _) | (with_reducible refine Kd.C_drewN ?_ _) | (with_reducible refine Kd.C_drew ?_) | exact HR175.out)) hb)
           have n3_ := Aside0.mk (Kd.C_below (by repeat (first | (with_reducible exact HR180.out) | (with_reducible refine Kd.C_alloc ?_ _) | (with_reducible refine Kd.C_drewN ?_ _) | (with_reducible refine Kd.C_drew ?_) | exact HR180.out)) hb)
           have n4_ := Aside0.mk (Kd.C_below (by repeat (first | (with_reducible exact HR186.out) | (with_reducible refine Kd.C_alloc ?_ _) | (with_reducible refine Kd.C_drewN ?_ _) | (with_reducible refine Kd.C_drew ?_) | exact HR186.out)) hb)
           have n5_ := Aside0.mk (Kd.C_below (by repeat (first | (with_reducible exact HR191.out) | (with_reducible refine Kd.C_alloc ?_ _) | (with_reducible refine Kd.C_drewN ?_ _) | (with_reducible refine Kd.C_drew ?_) | exact HR191.out)) hb)
           have n6_ := Aside0.mk (below_step (by exact bz HB.out) hb)
           clear HO_3 HO_50 HR175 HR180 HR186 HR191 HB
           have HO_3 := n0_
           have HO_50 := n1_
           have HR175 := n2_
           have HR180 := n3_
           have HR186 := n4_
           have HR191 := n5_
           have HB := n6_
           clear n0_ n1_ n2_ n3_ n4_ n5_ n6_
           (try clear hb)
           (try clear hb2)
           (try clear hk)
           (try clear hi)
           refine hK.out _ _ trivial (fun hHeld => ?_)
           clear hK K
           refine norm_ (a' := ?_) ?_ ?_
           rotate_left
           ·show Act.put _ (some 89) _ = _
            simp only [Act.put, List.setIfInBounds_toArray, List.set_cons_zero, List.set_cons_succ, i64_w, i32_w]
            rfl
           refine one_ (i := 20) (N := some 90) #[true, true, true, true, true, true, true, true, true, true, true, true, true, true, true, true, true, true, true, true, true, true, false, false, false] rfl rfl (one_of HT_.out (by kernel_rfl)) (by decide) (fun K hK => ?_)
           refine goes_ Try.func21 (by kernel_rfl) rfl #[.int .i64 t187, .int .i64 t192] (by rfl) rfl rfl (by (try simp only [List.map_toArray, List.map_cons, List.map_nil]); first | done | rfl | (simp only [List.length_drop, List.length_take]; rfl)) ?_
           with_reducible refine (impl_MinCost.calls t187 t192 t193 _ A49.out).mono ?_
           rintro e w60 ⟨rfl, hb⟩
           refine ⟨_, rfl, ?_⟩
           have n0_ := Aside0.mk (Kd.R_below (rz HO_3.out) hb)
           have n1_ := Aside0.mk (Kd.R_below (rz HO_50.out) hb)
           have n2_ := Aside0.mk (Kd.C_below (by repeat (first | (with_reducible exact HR175.out) | (with_reducible refine Kd.C_alloc ?_ _) | (with_reducible refine Kd.C_drewN ?_ _) | (with_reducible refine Kd.C_drew ?_) | exact HR175.out)) hb)
           have n3_ := Aside0.mk (Kd.C_below (by repeat (first | (with_reducible exact HR180.out) | (with_reducible refine Kd.C_alloc ?_ _) | (with_reducible refine Kd.C_drewN ?_ _) | (with_reducible refine Kd.C_drew ?_) | exact HR180.out)) hb)
           have n4_ := Aside0.mk (Kd.C_below (by repeat (first | (with_reducible exact HR186.out) | (with_reducible refine Kd.C_alloc ?_ _) | (with_reducible refine Kd.C_drewN ?_ _) | (with_reducible refine Kd.C_drew ?_) | exact HR186.out)) hb)
           have n5_ := Aside0.mk (Kd.C_below (by repeat (first | (with_reducible exact HR191.out) | (with_reducible refine Kd.C_alloc ?_ _) | (with_reducible refine Kd.C_drewN ?_ _) | (with_reducible refine Kd.C_drew ?_) | exact HR191.out)) hb)
           have n6_ := Aside0.mk (below_step (by exact bz HB.out) hb)
           clear HO_3 HO_50 HR175 HR180 HR186 HR191 HB
           have HO_3 := n0_
           have HO_50 := n1_
           have HR175 := n2_
           have HR180 := n3_
           have HR186 := n4_
           have HR191 := n5_
           have HB := n6_
           clear n0_ n1_ n2_ n3_ n4_ n5_ n6_
           (try clear hb)
           (try clear hb2)
           (try clear hk)
           (try clear hi)
           refine hK.out _ _ trivial (fun hHeld => ?_)
           clear hK K
           refine norm_ (a' := ?_) ?_ ?_
           rotate_left
           ·show Act.put _ (some 90) _ = _
            simp only [Act.put, List.setIfInBounds_toArray, List.set_cons_zero, List.set_cons_succ, i64_w, i32_w]
            rfl
           refine pure_ (i := 22) (N := some 92) (v := ?_) (a' := ?_) #[true, true, true, true, true, true, true, true, true, true, true, true, true, true, true, true, true, true, true, true, true, true, true, false, false] rfl rfl (any_of HT_.out (by kernel_rfl)) (fun _ _ _ h => h) (Or.inl ⟨by rfl, ?_⟩) ?_ ?_
           rotate_left
           ·intro w'
            go_simp
            with_reducible rfl
           rotate_left
           ·simp only [Act.put, List.setIfInBounds_toArray, List.set_cons_zero, List.set_cons_succ, i64_w, i32_w]
            rfl
           refine pure_ (i := 23) (N := some 93) (v := ?_) (a' := ?_) #[true, true, true, true, true, true, true, true, true, true, true, true, true, true, true, true, true, true, true, true, true, true, true, true, false] rfl rfl (any_of HT_.out (by kernel_rfl)) (fun _ _ _ h => h) (Or.inl ⟨by rfl, ?_⟩) ?_ ?_
           rotate_left
           ·intro w'
            go_simp
            with_reducible rfl
           rotate_left
           ·simp only [Act.put, List.setIfInBounds_toArray, List.set_cons_zero, List.set_cons_succ, i64_w, i32_w]
            rfl
           refine pure_ (i := 24) (N := some 2) (v := ?_) (a' := ?_) #[true, true, true, true, true, true, true, true, true, true, true, true, true, true, true, true, true, true, true, true, true, true, true, true, true] rfl rfl (any_of HT_.out (by kernel_rfl)) (fun _ _ _ h => h) (Or.inl ⟨by rfl, ?_⟩) ?_ ?_
           rotate_left
           ·intro w'
            go_simp
            with_reducible rfl
           rotate_left
           ·simp only [Act.put, List.setIfInBounds_toArray, List.set_cons_zero, List.set_cons_succ, i64_w, i32_w]
            rfl
           refine done_ (done_of HT_.out (by kernel_rfl)) ?_
           try go_wp2
           go_ret
           exact ⟨by first | rfl | (simp [errW_none, errW_some] <;> rfl) | (simp only [← hji34]; first | rfl | (simp [errW_none, errW_some] <;> rfl)) | (simp [*, errW_none, errW_some] <;> rfl), by exact bz HB.out⟩
          ·rw [if_neg c42] at H
           have c42b0 : (t182 == t164) = false := beq_eq_false_iff_ne.mpr c42
           have c42b1 : (t182 != t164) = true := bne_iff_ne.mpr c42
           exact absurd H (by simp)
         ·rw [if_neg c36] at H
          exact absurd H (by simp)
        ·rw [if_neg c35] at H
         exact absurd H (by simp)

/-- THE ONE PURE STATEMENT of laws_FnSums. -/
def laws_FnSums.Pure : Prop := ∀ (l0 : List Int), l0.length ≤ maxLen → l0.length * 1 ≤ 140737488351232 → (∀ x ∈ l0, (Lit.int .u8 x).wf = true) → ∃ k, laws_FnSums.f k l0 = some true
theorem laws_FnSums.walk (P : laws_FnSums.Pure) (a0 : Option Addr) (len0 cap0 : Nat) (z0 : List Int) (w : World) (w0 : (a0 = none ∧ len0 = 0 ∧ cap0 = 0 ∧ z0 = []) ∨ ∃ x, a0 = some x ∧ len0 ≤ cap0 ∧ cap0 ≤ maxLen ∧ z0.length = cap0 ∧ (∀ i, i < z0.length → w.cell? (x.add i) = some (.int .u8 (z0.getD i 0))) ∧ ∀ n ∈ z0, (Lit.int .u8 n).wf = true) (y0 : len0 * 1 ≤ 140737488351232) :
  Calls Try.prog 15 #[.slice a0 len0 cap0] w fun e w' => e = .returned (.bool true) ∧ Below w.heap.size w w' := by
 obtain ⟨l0, rfl, hr0, hm0, hw0, hc0⟩ := ReadsInt.ofRowC w0
 obtain ⟨k, h⟩ := P l0 hm0 y0 hw0
 refine (laws_FnSums.calls k _ _ l0 true w (Kd.C_of_reads (d := (0 : Int)) (h1 := fun _ => rfl) hr0) hc0 h).mono ?_
 rintro e w' ⟨rfl, hd⟩
 exact ⟨rfl, hd⟩

end Go.Proofs.Ythgkfakkpinbcaa.PFnSums
