-- Written by a program (wip/myprint.py): the machine side of one law: each function that it reaches, as a plain function, and the proof that a call comes to just that.
import Derived.Test.YtejnpldoakgadaaPG1x0
import Derived.Test.YtejnpldoakgadaaPG1x4
import Derived.Test.YtejnpldoakgadaaPG1x5
namespace Go.Proofs.Ytejnpldoakgadaa.PG1
open Go.RowKit Go.Proofs.YtejnpldoakgadaaW.PrintWords Go.Proofs.YtejnpldoakgadaaW.PrintLast Go.Proofs.YtejnpldoakgadaaW.PrintMore
attribute [local go_sem] max2_int min2_int max_two min_two max_three min_three max_four min_four   -- for this text's walks alone
set_option linter.unusedVariables false
set_option linter.unusedSimpArgs false

/-! ### impl_AutomatonValid: function 14 -/
mutual
def impl_AutomatonValid.j0 : Nat → Bool → Int → List Int → List Int → List (S51) → Option (Bool)
 | 0, _, _, _, _, _ => none
 | k + 1, x34, x190000, x190001, x190002, x190003 => if x34 = true then (some false) else (impl_AutomatonValid.l0 k x190003 (x190003.length : Int) 0 x190000 x190001 x190002 x190003)
def impl_AutomatonValid.l0 : Nat → List (S51) → Int → Int → Int → List Int → List Int → List (S51) → Option (Bool)
 | 0, _, _, _, _, _, _, _ => none
 | k + 1, x36, x37, x38, x190000, x190001, x190002, x190003 => if x38 < x37 then (if 0 ≤ x38 then (if x38 < (x36.length : Int) then (if ((rd_T51 x36 x38).f0) < 0 then (some false) else (if ((rd_T51 x36 x38).f0) ≥ x190000 then (some false) else (if ((rd_T51 x36 x38).f2) < 0 then (some false) else (if ((rd_T51 x36 x38).f2) ≥ x190000 then (some false) else (if ((rd_T51 x36 x38).f1).toList = ([97] : List UInt8) then (if ((rd_T51 x36 x38).f3) < 0 then (some false) else (if ((rd_T51 x36 x38).f3) > 3 then (some false) else (if x38 > 0 then (if 0 ≤ (wrap64 (x38 - 1)) then (if (wrap64 (x38 - 1)) < (x190003.length : Int) then ((impl_stepOrder.f k ((rd_T51 x190003 (wrap64 (x38 - 1))).f0) ((rd_T51 x190003 (wrap64 (x38 - 1))).f1) ((rd_T51 x190003 (wrap64 (x38 - 1))).f2) ((rd_T51 x190003 (wrap64 (x38 - 1))).f3) ((rd_T51 x36 x38).f0) ((rd_T51 x36 x38).f1) ((rd_T51 x36 x38).f2) ((rd_T51 x36 x38).f3)).bind fun t195 => (if t195 ≥ 0 then (some false) else (impl_AutomatonValid.l0 k x36 x37 (wrap64 (x38 + 1)) x190000 x190001 x190002 x190003))) else (none)) else (none)) else (impl_AutomatonValid.l0 k x36 x37 (wrap64 (x38 + 1)) x190000 x190001 x190002 x190003)))) else (if ((rd_T51 x36 x38).f1).toList = ([98] : List UInt8) then (if ((rd_T51 x36 x38).f3) < 0 then (some false) else (if ((rd_T51 x36 x38).f3) > 3 then (some false) else (if x38 > 0 then (if 0 ≤ (wrap64 (x38 - 1)) then (if (wrap64 (x38 - 1)) < (x190003.length : Int) then ((impl_stepOrder.f k ((rd_T51 x190003 (wrap64 (x38 - 1))).f0) ((rd_T51 x190003 (wrap64 (x38 - 1))).f1) ((rd_T51 x190003 (wrap64 (x38 - 1))).f2) ((rd_T51 x190003 (wrap64 (x38 - 1))).f3) ((rd_T51 x36 x38).f0) ((rd_T51 x36 x38).f1) ((rd_T51 x36 x38).f2) ((rd_T51 x36 x38).f3)).bind fun t197 => (if t197 ≥ 0 then (some false) else (impl_AutomatonValid.l0 k x36 x37 (wrap64 (x38 + 1)) x190000 x190001 x190002 x190003))) else (none)) else (none)) else (impl_AutomatonValid.l0 k x36 x37 (wrap64 (x38 + 1)) x190000 x190001 x190002 x190003)))) else (some false))))))) else (none)) else (none)) else (some true)
end
def impl_AutomatonValid.f (k : Nat) (a0_0 : Int) (l0_1 : List Int) (l0_2 : List Int) (l0_3 : List (S51)) : Option (Bool) := if a0_0 < 1 then (impl_AutomatonValid.j0 k true a0_0 l0_1 l0_2 l0_3) else (if a0_0 > 4 then (impl_AutomatonValid.j0 k true a0_0 l0_1 l0_2 l0_3) else (if (l0_3.length : Int) > 24 then (impl_AutomatonValid.j0 k true a0_0 l0_1 l0_2 l0_3) else ((impl_statesOk.f k l0_1 a0_0).bind fun t190 => (if t190 = true then ((impl_statesOk.f k l0_2 a0_0).bind fun t191 => (impl_AutomatonValid.j0 k (!t191) a0_0 l0_1 l0_2 l0_3)) else (impl_AutomatonValid.j0 k true a0_0 l0_1 l0_2 l0_3)))))
theorem impl_AutomatonValid.mono_l : ∀ k, (∀ y0 y1 y2 y3 y4, LeO (impl_AutomatonValid.j0 k y0 y1 y2 y3 y4) (impl_AutomatonValid.j0 (k + 1) y0 y1 y2 y3 y4)) ∧ (∀ y0 y1 y2 y3 y4 y5 y6, LeO (impl_AutomatonValid.l0 k y0 y1 y2 y3 y4 y5 y6) (impl_AutomatonValid.l0 (k + 1) y0 y1 y2 y3 y4 y5 y6))
 | 0 => ⟨fun _ _ _ _ _ r h => by simp [impl_AutomatonValid.j0] at h, fun _ _ _ _ _ _ _ r h => by simp [impl_AutomatonValid.l0] at h⟩
 | k + 1 => by
  obtain ⟨ih0, ih1⟩ := impl_AutomatonValid.mono_l k
  refine ⟨?_, ?_⟩
  ·intro y0 y1 y2 y3 y4
   unfold impl_AutomatonValid.j0
   repeat' first
   | (with_reducible exact ih0 _ _ _ _ _)
   | (with_reducible exact ih1 _ _ _ _ _ _ _)
   | (with_reducible exact impl_statesOk.mono _ _ _)
   | (with_reducible exact impl_stepOrder.mono _ _ _ _ _ _ _ _ _)
   | (with_reducible exact LeO.refl _)
   | (with_reducible exact LeO.none _)
   | (with_reducible refine LeO.ite ?_ ?_)
   | (with_reducible refine LeO.bind ?_ (fun _ => ?_))
   | exact ih0 _ _ _ _ _
   | exact ih1 _ _ _ _ _ _ _
   | exact impl_statesOk.mono _ _ _
   | exact impl_stepOrder.mono _ _ _ _ _ _ _ _ _
   | exact LeO.none _
   | refine LeO.ite ?_ ?_
   | refine LeO.bind ?_ (fun _ => ?_)
  ·intro y0 y1 y2 y3 y4 y5 y6
   unfold impl_AutomatonValid.l0
   repeat' first
   | (with_reducible exact ih0 _ _ _ _ _)
   | (with_reducible exact ih1 _ _ _ _ _ _ _)
   | (with_reducible exact impl_statesOk.mono _ _ _)
   | (with_reducible exact impl_stepOrder.mono _ _ _ _ _ _ _ _ _)
   | (with_reducible exact LeO.refl _)
   | (with_reducible exact LeO.none _)
   | (with_reducible refine LeO.ite ?_ ?_)
   | (with_reducible refine LeO.bind ?_ (fun _ => ?_))
   | exact ih0 _ _ _ _ _
   | exact ih1 _ _ _ _ _ _ _
   | exact impl_statesOk.mono _ _ _
   | exact impl_stepOrder.mono _ _ _ _ _ _ _ _ _
   | exact LeO.none _
   | refine LeO.ite ?_ ?_
   | refine LeO.bind ?_ (fun _ => ?_)
theorem impl_AutomatonValid.mono : ∀ a0 a1 a2 a3 k, LeO (impl_AutomatonValid.f k a0 a1 a2 a3) (impl_AutomatonValid.f (k + 1) a0 a1 a2 a3) := by
 intro a0 a1 a2 a3 k
 obtain ⟨ih0, ih1⟩ := impl_AutomatonValid.mono_l k
 unfold impl_AutomatonValid.f
 repeat' first
   | (with_reducible exact ih0 _ _ _ _ _)
   | (with_reducible exact ih1 _ _ _ _ _ _ _)
   | (with_reducible exact impl_statesOk.mono _ _ _)
   | (with_reducible exact impl_stepOrder.mono _ _ _ _ _ _ _ _ _)
   | (with_reducible exact LeO.refl _)
   | (with_reducible exact LeO.none _)
   | (with_reducible refine LeO.ite ?_ ?_)
   | (with_reducible refine LeO.bind ?_ (fun _ => ?_))
   | exact ih0 _ _ _ _ _
   | exact ih1 _ _ _ _ _ _ _
   | exact impl_statesOk.mono _ _ _
   | exact impl_stepOrder.mono _ _ _ _ _ _ _ _ _
   | exact LeO.none _
   | refine LeO.ite ?_ ?_
   | refine LeO.bind ?_ (fun _ => ?_)
def impl_AutomatonValid.T6 : Bool × List (List Nat × List Nat) := (true, [([], []), ([0], [0]), ([1], [1]), ([2], [2]), ([3], [3]), ([4, 3], [3, 4]), ([3], [3]), ([6, 3], [3, 6]), ([5, 7, 3], [3, 5, 7]), ([3, 8], [3, 8]), ([9, 3], [9]), ([10], [10]), ([11, 10], [10, 11]), ([12, 10], [10, 12]), ([10, 13], [10, 13]), ([14, 10], [14]), ([15], [15]), ([16, 15], [15, 16]), ([15], [15]), ([18, 15], [15, 18]), ([17, 19, 15], [15, 17, 19]), ([15, 20], [15, 20]), ([21, 15], [21]), ([22], [22]), ([23, 22], [22, 23]), ([24, 22], [22, 24]), ([25, 22, 22], [22, 25]), ([26], [26]), ([27, 26], [26, 27]), ([28, 26], [26, 28]), ([26, 29, 22], [22, 26, 29]), ([22, 30], [22, 30]), ([31, 26], [31]), ([32], [32]), ([33, 32], [32, 33]), ([34, 32], [32, 34]), ([32, 35], [32, 35]), ([36, 32], [36]), ([37], [37]), ([38, 37], [37, 38]), ([39, 37], [37, 39]), ([37, 40], [37, 40]), ([41, 37], [41]), ([42], [42]), ([43, 42], [42, 43]), ([44, 42, 42], [42, 44]), ([45], [45]), ([46, 45], [45, 46]), ([45], [45]), ([48, 45], [45, 48]), ([47, 49, 45], [45, 47, 49]), ([50, 45], [45, 50]), ([45], [45]), ([51, 52, 45, 45], [45, 51, 52]), ([53, 45], [45, 53]), ([45, 54, 42], [42, 45, 54]), ([42, 55], [42, 55])])
def impl_AutomatonValid.B6 : List Nat := [0, 1, 3, 7, 15, 31, 15, 79, 255, 511, 1023, 2047, 4095, 8191, 16383, 32767, 65535, 131071, 65535, 327679, 1048575, 2097151, 4194303, 8388607, 16777215, 33554431, 67108863, 134217727, 268435455, 536870911, 1073741823, 2147483647, 4294967295, 8589934591, 17179869183, 34359738367, 68719476735, 137438953471, 274877906943, 549755813887, 1099511627775, 2199023255551, 4398046511103, 8796093022207, 17592186044415, 35184372088831, 70368744177663, 140737488355327, 70368744177663, 351843720888319, 1125899906842623, 2251799813685247, 70368744177663, 9007199254740991, 18014398509481983, 36028797018963967, 72057594037927935]
theorem impl_AutomatonValid.tab6 : rtab .any (opsOf Try.f14 6) = impl_AutomatonValid.T6 := by kernel_rfl
theorem impl_AutomatonValid.bits6 : waitsOk impl_AutomatonValid.T6.2 impl_AutomatonValid.B6 = true := by kernel_rfl
set_option maxHeartbeats 8000000 in
set_option maxRecDepth 100000 in
theorem impl_AutomatonValid.calls (k : Nat) (a0_0 : Int) (A0_1 : Option Addr) (c0_1 : Nat) (l0_1 : List Int) (A0_2 : Option Addr) (c0_2 : Nat) (l0_2 : List Int) (A0_3 : Option Addr) (c0_3 : Nat) (l0_3 : List (S51)) (r : Bool) (w : World) (hr0_1 : Kd.C (Kd.int .i64) w A0_1 l0_1.length l0_1) (hc0_1 : l0_1.length ≤ c0_1) (hr0_2 : Kd.C (Kd.int .i64) w A0_2 l0_2.length l0_2) (hc0_2 : l0_2.length ≤ c0_2) (hr0_3 : Kd.C k51 w A0_3 l0_3.length l0_3) (hc0_3 : l0_3.length ≤ c0_3) (h : impl_AutomatonValid.f k a0_0 l0_1 l0_2 l0_3 = some r) :
  Calls Try.prog 14 #[.agg #[.int .i64 a0_0, .slice A0_1 l0_1.length c0_1, .slice A0_2 l0_2.length c0_2, .slice A0_3 l0_3.length c0_3]] w fun e w' => e = .returned (.bool r) ∧ Below w.heap.size w w' := by
 have hu30 := Try.underlying30
 have hu51 := Try.underlying51
 have HR0_1 := am hr0_1
 have HC0_1 := am hc0_1
 clear hr0_1 hc0_1
 have HR0_2 := am hr0_2
 have HC0_2 := am hc0_2
 clear hr0_2 hc0_2
 have HR0_3 := am hr0_3
 have HC0_3 := am hc0_3
 clear hr0_3 hc0_3
 have HB := am (Below.refl w.heap.size w)
 have H : (if a0_0 < 1 then (impl_AutomatonValid.j0 k true a0_0 l0_1 l0_2 l0_3) else (if a0_0 > 4 then (impl_AutomatonValid.j0 k true a0_0 l0_1 l0_2 l0_3) else (if (l0_3.length : Int) > 24 then (impl_AutomatonValid.j0 k true a0_0 l0_1 l0_2 l0_3) else ((impl_statesOk.f k l0_1 a0_0).bind fun t190 => (if t190 = true then ((impl_statesOk.f k l0_2 a0_0).bind fun t191 => (impl_AutomatonValid.j0 k (!t191) a0_0 l0_1 l0_2 l0_3)) else (impl_AutomatonValid.j0 k true a0_0 l0_1 l0_2 l0_3)))))) = some r := h
 clear h
 have HC2 := am H
 clear H
 go_enter Try.func14, Try.ntmps14
 go_upto_region 1 with (first | ((with_reducible refine gate_dst (N := 1) rfl ?_); (try (refine gate_guard (by rfl) ?_; dsimp only)); refine box_event ?hg (N := 1) ?hd (cs := #[.int .i64 a0_0, .slice A0_1 l0_1.length c0_1, .slice A0_2 l0_2.length c0_2, .slice A0_3 l0_3.length c0_3]) (t := 30) ?hr ?_; (case hd => rfl); (case hg => rfl); (case hr => first | (go_simp; done) | (go_simp; rfl)); intro gb189 hg w3 hbox hb; have n0_ := am (below_step (bz HB.out) hb); have n1_ := am (hbox); have n2_ := am ((by rw [hg]; exact (below_size (bz HB.out)) : w.heap.size ≤ gb189)); have n3_ := am ((by rw [hg]; exact (below_size (bz HB.out)) : w.heap.size ≤ gb189)); clear HB; revert n0_ n1_ n2_ n3_; intro HB BK189 GW189 GE189; clear hb hbox hg))
 (try simp only [Act.put, List.setIfInBounds_toArray, List.set_cons_zero, List.set_cons_succ])
 go_cut [34] (fun v34 wc => ∃ (kq : Nat) (x34_1 : Bool), v34 = .bool x34_1 ∧ Aside0 (impl_AutomatonValid.j0 kq x34_1 a0_0 l0_1 l0_2 l0_3 = some r) ∧ Aside0 (kq ≤ k) ∧ Aside0 (wc.heap[gb189]? = some (.cells #[.int .i64 a0_0, (.slice A0_1 l0_1.length c0_1), (.slice A0_2 l0_2.length c0_2), (.slice A0_3 l0_3.length c0_3)] 30 (0, 0))) ∧ Aside0 (Below w.heap.size w wc))
 case first =>
  have H := HC2.out
  clear HC2
  by_cases c4 : a0_0 < 1
  ·rw [if_pos c4] at H
   have c4b0 : decide (a0_0 < 1) = true := decide_eq_true c4
   clear c4
   (first | rw [c4b0] | (simp only [i64_w, i32_w]; rw [c4b0]) | skip)
   have H' := am H
   clear H
   have hcz5_0 := cz40 BK189.out
   have hcz5_1 := cz41 BK189.out
   have hcz5_2 := cz42 BK189.out
   have hcz5_3 := cz43 BK189.out
   have hfz5_0 := blk_frozen BK189.out 0
   have hfz5_1 := blk_frozen BK189.out 1
   have hfz5_2 := blk_frozen BK189.out 2
   have hfz5_3 := blk_frozen BK189.out 3
   go_wp2
   go_meet
   case rel => exact ⟨_, (true), (by first | rfl | (simp; done) | (simp [*]; done)), H', ⟨by first | omega | exact Nat.le_refl _⟩, ⟨kz BK189.out⟩, ⟨by exact bw HB.out⟩⟩
  ·rw [if_neg c4] at H
   have c4b0 : decide (a0_0 < 1) = false := decide_eq_false c4
   clear c4
   (first | rw [c4b0] | (simp only [i64_w, i32_w]; rw [c4b0]) | skip)
   by_cases c6 : a0_0 > 4
   ·rw [if_pos c6] at H
    have c6b0 : decide (4 < a0_0) = true := decide_eq_true c6
    clear c6
    have H' := am H
    clear H
    have hcz7_0 := cz40 BK189.out
    have hcz7_1 := cz41 BK189.out
    have hcz7_2 := cz42 BK189.out
    have hcz7_3 := cz43 BK189.out
    have hfz7_0 := blk_frozen BK189.out 0
    have hfz7_1 := blk_frozen BK189.out 1
    have hfz7_2 := blk_frozen BK189.out 2
    have hfz7_3 := blk_frozen BK189.out 3
    go_wp2
    go_meet
    case rel => exact ⟨_, (true), (by first | rfl | (simp; done) | (simp [*]; done)), H', ⟨by first | omega | exact Nat.le_refl _⟩, ⟨kz BK189.out⟩, ⟨by exact bw HB.out⟩⟩
   ·rw [if_neg c6] at H
    have c6b0 : decide (4 < a0_0) = false := decide_eq_false c6
    clear c6
    by_cases c8 : (l0_3.length : Int) > 24
    ·rw [if_pos c8] at H
     have c8b0 : decide (24 < (l0_3.length : Int)) = true := decide_eq_true c8
     have c8b1 : decide (24 < l0_3.length) = true := decide_eq_true (by omega)
     clear c8
     have H' := am H
     clear H
     have hcz9_0 := cz40 BK189.out
     have hcz9_1 := cz41 BK189.out
     have hcz9_2 := cz42 BK189.out
     have hcz9_3 := cz43 BK189.out
     have hfz9_0 := blk_frozen BK189.out 0
     have hfz9_1 := blk_frozen BK189.out 1
     have hfz9_2 := blk_frozen BK189.out 2
     have hfz9_3 := blk_frozen BK189.out 3
     go_wp2
     go_meet
     case rel => exact ⟨_, (true), (by first | rfl | (simp; done) | (simp [*]; done)), H', ⟨by first | omega | exact Nat.le_refl _⟩, ⟨kz BK189.out⟩, ⟨by exact bw HB.out⟩⟩
    ·rw [if_neg c8] at H
     have c8b0 : decide (24 < (l0_3.length : Int)) = false := decide_eq_false c8
     have c8b1 : decide (24 < l0_3.length) = false := decide_eq_false (by omega)
     clear c8
     replace H := Option.bind_eq_some_iff.mp H
     obtain ⟨t190, A100, H⟩ := H
     (try dsimp only at H)
     have A10 := am A100
     clear A100
     by_cases c11 : t190 = true
     ·subst c11
      have H1 : ((impl_statesOk.f k l0_2 a0_0).bind fun t191 => (impl_AutomatonValid.j0 k (!t191) a0_0 l0_1 l0_2 l0_3)) = some r := by rw [if_pos rfl] at H; exact H
      clear H
      have H := H1
      clear H1
      replace H := Option.bind_eq_some_iff.mp H
      obtain ⟨t191, A120, H⟩ := H
      (try dsimp only at H)
      have A12 := am A120
      clear A120
      have H' := am H
      clear H
      have hcz13_0 := cz40 BK189.out
      have hcz13_1 := cz41 BK189.out
      have hcz13_2 := cz42 BK189.out
      have hcz13_3 := cz43 BK189.out
      have hfz13_0 := blk_frozen BK189.out 0
      have hfz13_1 := blk_frozen BK189.out 1
      have hfz13_2 := blk_frozen BK189.out 2
      have hfz13_3 := blk_frozen BK189.out 3
      go_wp2_with (first | (go_at_call 44; (with_reducible refine (impl_statesOk.calls k _ _ l0_1 a0_0 true _ ?side1 ?side2 A10.out).mono ?_); (case side1 => repeat (first | exact (Kd.C_below HR0_1.out HB.out) | (with_reducible refine Kd.C_alloc ?_ _) | (with_reducible refine Kd.C_drewN ?_ _) | (with_reducible refine Kd.C_drew ?_))); (case side2 => exact HC0_1.out); rintro e w' ⟨rfl, ⟨nd, rfl⟩⟩) | (go_at_call 44; (with_reducible refine (impl_statesOk.calls k _ _ l0_2 a0_0 t191 _ ?side1 ?side2 A12.out).mono ?_); (case side1 => repeat (first | exact (Kd.C_below HR0_2.out (bw HB.out)) | (with_reducible refine Kd.C_alloc ?_ _) | (with_reducible refine Kd.C_drewN ?_ _) | (with_reducible refine Kd.C_drew ?_))); (case side2 => exact HC0_2.out); rintro e w' ⟨rfl, ⟨nd, rfl⟩⟩))
      go_meet
      case rel => exact ⟨_, (!t191), (by first | rfl | (simp; done) | (simp [*]; done)), H', ⟨by first | omega | exact Nat.le_refl _⟩, ⟨kz BK189.out⟩, ⟨by exact bw HB.out⟩⟩
     ·replace c11 := Bool.eq_false_iff.mpr c11
      subst c11
      have H1 : (impl_AutomatonValid.j0 k true a0_0 l0_1 l0_2 l0_3) = some r := by rw [if_neg (show ¬ (false = true) by decide)] at H; exact H
      clear H
      have H := H1
      clear H1
      have H' := am H
      clear H
      have hcz14_0 := cz40 BK189.out
      have hcz14_1 := cz41 BK189.out
      have hcz14_2 := cz42 BK189.out
      have hcz14_3 := cz43 BK189.out
      have hfz14_0 := blk_frozen BK189.out 0
      have hfz14_1 := blk_frozen BK189.out 1
      have hfz14_2 := blk_frozen BK189.out 2
      have hfz14_3 := blk_frozen BK189.out 3
      go_wp2_with (first | (go_at_call 44; (with_reducible refine (impl_statesOk.calls k _ _ l0_1 a0_0 false _ ?side1 ?side2 A10.out).mono ?_); (case side1 => repeat (first | exact (Kd.C_below HR0_1.out HB.out) | (with_reducible refine Kd.C_alloc ?_ _) | (with_reducible refine Kd.C_drewN ?_ _) | (with_reducible refine Kd.C_drew ?_))); (case side2 => exact HC0_1.out); rintro e w' ⟨rfl, ⟨nd, rfl⟩⟩))
      go_meet
      case rel => exact ⟨_, (true), (by first | rfl | (simp; done) | (simp [*]; done)), H', ⟨by first | omega | exact Nat.le_refl _⟩, ⟨kz BK189.out⟩, ⟨by exact bw HB.out⟩⟩
 case rest =>
  clear HC2
  try clear c1
  try clear p2
  try clear c4
  try clear c4b0
  try clear c6
  try clear c6b0
  try clear c8
  try clear c8b0
  try clear c8b1
  try clear c11
  try clear c14
  try clear hcz13_0
  try clear hcz13_1
  try clear hcz13_2
  try clear hcz13_3
  try clear hcz14_0
  try clear hcz14_1
  try clear hcz14_2
  try clear hcz14_3
  try clear hcz5_0
  try clear hcz5_1
  try clear hcz5_2
  try clear hcz5_3
  try clear hcz7_0
  try clear hcz7_1
  try clear hcz7_2
  try clear hcz7_3
  try clear hcz9_0
  try clear hcz9_1
  try clear hcz9_2
  try clear hcz9_3
  try clear hfz13_0
  try clear hfz13_1
  try clear hfz13_2
  try clear hfz13_3
  try clear hfz14_0
  try clear hfz14_1
  try clear hfz14_2
  try clear hfz14_3
  try clear hfz5_0
  try clear hfz5_1
  try clear hfz5_2
  try clear hfz5_3
  try clear hfz7_0
  try clear hfz7_1
  try clear hfz7_2
  try clear hfz7_3
  try clear hfz9_0
  try clear hfz9_1
  try clear hfz9_2
  try clear hfz9_3
  obtain ⟨kq, x34_1, rfl, HA, HJ1, BK189, HB⟩ := hcut
  cases kq with
  | zero => exact absurd HA.out (by simp [impl_AutomatonValid.j0])
  | succ kj1 =>
   have H := HA.out
   clear HA
   simp only [impl_AutomatonValid.j0] at H
   by_cases c15 : x34_1 = true
   ·subst c15
    have H1 : (some false) = some r := by rw [if_pos rfl] at H; exact H
    clear H
    have H := H1
    clear H1
    obtain rfl := Option.some.inj H
    go_wp2
    go_ret
    exact ⟨by first | rfl | (simp [errW_none, errW_some] <;> rfl) | (simp [*, errW_none, errW_some] <;> rfl), by exact bw HB.out⟩
   ·replace c15 := Bool.eq_false_iff.mpr c15
    subst c15
    have H1 : (impl_AutomatonValid.l0 kj1 l0_3 (l0_3.length : Int) 0 a0_0 l0_1 l0_2 l0_3) = some r := by rw [if_neg (show ¬ (false = true) by decide)] at H; exact H
    clear H
    have H := H1
    clear H1
    have H' := am H
    clear H
    have hcz16_0 := cz40 BK189.out
    have hcz16_1 := cz41 BK189.out
    have hcz16_2 := cz42 BK189.out
    have hcz16_3 := cz43 BK189.out
    have hfz16_0 := blk_frozen BK189.out 0
    have hfz16_1 := blk_frozen BK189.out 1
    have hfz16_2 := blk_frozen BK189.out 2
    have hfz16_3 := blk_frozen BK189.out 3
    go_wp2
    go_loopg [38] kj1 (fun kq v38 w' => ∃ (x38_2 : Int), v38 = .int .i64 x38_2 ∧ Aside0 (impl_AutomatonValid.l0 kq l0_3 (l0_3.length : Int) x38_2 a0_0 l0_1 l0_2 l0_3 = some r) ∧ Aside0 (kq ≤ kj1) ∧ Aside0 (w'.heap[gb189]? = some (.cells #[.int .i64 a0_0, (.slice A0_1 l0_1.length c0_1), (.slice A0_2 l0_2.length c0_2), (.slice A0_3 l0_3.length c0_3)] 30 (0, 0))) ∧ Aside0 (Below w.heap.size w w'))
    case atStart => exact ⟨(0), (by first | rfl | (simp; done) | (simp [*]; done)), H', ⟨Nat.le_refl _⟩, ⟨kz BK189.out⟩, ⟨by exact bw HB.out⟩⟩
    case round =>
     clear H'
     try clear c1
     try clear p2
     try clear c4
     try clear c4b0
     try clear c6
     try clear c6b0
     try clear c8
     try clear c8b0
     try clear c8b1
     try clear c11
     try clear c14
     try clear c15
     try clear hcz13_0
     try clear hcz13_1
     try clear hcz13_2
     try clear hcz13_3
     try clear hcz14_0
     try clear hcz14_1
     try clear hcz14_2
     try clear hcz14_3
     try clear hcz16_0
     try clear hcz16_1
     try clear hcz16_2
     try clear hcz16_3
     try clear hcz5_0
     try clear hcz5_1
     try clear hcz5_2
     try clear hcz5_3
     try clear hcz7_0
     try clear hcz7_1
     try clear hcz7_2
     try clear hcz7_3
     try clear hcz9_0
     try clear hcz9_1
     try clear hcz9_2
     try clear hcz9_3
     try clear hfz13_0
     try clear hfz13_1
     try clear hfz13_2
     try clear hfz13_3
     try clear hfz14_0
     try clear hfz14_1
     try clear hfz14_2
     try clear hfz14_3
     try clear hfz16_0
     try clear hfz16_1
     try clear hfz16_2
     try clear hfz16_3
     try clear hfz5_0
     try clear hfz5_1
     try clear hfz5_2
     try clear hfz5_3
     try clear hfz7_0
     try clear hfz7_1
     try clear hfz7_2
     try clear hfz7_3
     try clear hfz9_0
     try clear hfz9_1
     try clear hfz9_2
     try clear hfz9_3
     try clear p2
     obtain ⟨x38_2, rfl, HA, HK2, BK189, HB⟩ := hrel
     cases gk with
     | zero => exact absurd HA.out (by simp [impl_AutomatonValid.l0])
     | succ k2 =>
      have H := HA.out
      clear HA
      simp only [impl_AutomatonValid.l0] at H
      by_cases c17 : x38_2 < (l0_3.length : Int)
      ·rw [if_pos c17] at H
       have c17b0 : decide (x38_2 < (l0_3.length : Int)) = true := decide_eq_true c17
       clear c17
       by_cases c18 : 0 ≤ x38_2
       ·rw [if_pos c18] at H
        have c18b0 : decide (0 ≤ x38_2) = true := decide_eq_true c18
        clear c18
        by_cases c19 : x38_2 < (l0_3.length : Int)
        ·rw [if_pos c19] at H
         have c19b0 : decide (x38_2 < (l0_3.length : Int)) = true := decide_eq_true c19
         clear c19
         by_cases c20 : ((rd_T51 l0_3 x38_2).f0) < 0
         ·rw [if_pos c20] at H
          have c20b0 : decide (((rd_T51 l0_3 x38_2).f0) < 0) = true := decide_eq_true c20
          clear c20
          obtain rfl := Option.some.inj H
          have p192 : 0 ≤ (x38_2 : Int) := of_decide_eq_true (by first | (with_reducible assumption) | assumption)
          have q192 : x38_2 < (l0_3.length : Int) := of_decide_eq_true (by first | (with_reducible assumption) | assumption)
          obtain ⟨ad192, e192, hx192_0, hx192_1, hx192_2, hx192_3⟩ := at_T51 HR0_3.out x38_2 p192 q192
          cases e192
          replace hx192_0 := (HB.out.cell (World.block_lt_of_cell? w _ hx192_0)).trans hx192_0
          replace hx192_1 := (HB.out.cell (World.block_lt_of_cell? w _ hx192_1)).trans hx192_1
          replace hx192_2 := (HB.out.cell (World.block_lt_of_cell? w _ hx192_2)).trans hx192_2
          replace hx192_3 := (HB.out.cell (World.block_lt_of_cell? w _ hx192_3)).trans hx192_3
          replace p192 := eq_true p192
          replace q192 := eq_true q192
          try go_wp2_with (first | ((with_reducible refine gate_dst (N := 4) rfl ?_); (try (refine gate_guard (by rfl) ?_; dsimp only)); refine box_event ?hg (N := 4) ?hd (cs := #[.int .i64 0, .string (⟨#[]⟩ : ByteArray), .int .i64 0, .int .i64 0]) (t := 51) ?hr ?_; (case hd => rfl); (case hg => rfl); (case hr => first | (go_simp; done) | (go_simp; rfl)); intro gb193 hg w21 hbox hb; have n0_ := bk BK189 hb; have n1_ := am (below_step (bw HB.out) hb); have n2_ := am (hbox); have n3_ := am ((by rw [hg]; exact (below_size (bw HB.out)) : w.heap.size ≤ gb193)); have n4_ := am ((by rw [hg]; exact (below_size (bw HB.out)) : w.heap.size ≤ gb193)); have n5_ := am ((by rw [hg]; exact Nat.ne_of_lt (blk_lt (kz BK189.out)) : gb189 ≠ gb193)); have n6_ := am ((by rw [hg]; exact Nat.ne_of_gt (blk_lt (kz BK189.out)) : gb193 ≠ gb189)); clear BK189 HB; revert n0_ n1_ n2_ n3_ n4_ n5_ n6_; intro BK189 HB BK193 GW193 GE193 NB189_193 NB193_189; clear hb hbox hg; have hnb22 := NB193_189.out; have hnc22 := NB189_193.out; have hcz23_0 := cz40 BK193.out; have hcz23_1 := cz41 BK193.out; have hcz23_2 := cz42 BK193.out; have hcz23_3 := cz43 BK193.out; have hfz23_0 := blk_frozen BK193.out 0; have hfz23_1 := blk_frozen BK193.out 1; have hfz23_2 := blk_frozen BK193.out 2; have hfz23_3 := blk_frozen BK193.out 3))
          have n0_ : Aside0 (((((w21.setCell ⟨gb193, 0, none⟩ (.int .i64 ((rd_T51 l0_3 x38_2).f0))).setCell ⟨gb193, 1, none⟩ (.string ((rd_T51 l0_3 x38_2).f1))).setCell ⟨gb193, 2, none⟩ (.int .i64 ((rd_T51 l0_3 x38_2).f2))).setCell ⟨gb193, 3, none⟩ (.int .i64 ((rd_T51 l0_3 x38_2).f3))).heap[gb189]? = some (.cells #[.int .i64 a0_0, .slice A0_1 l0_1.length c0_1, .slice A0_2 l0_2.length c0_2, .slice (some ad192) l0_3.length c0_3] 30 (0, 0))) := ⟨by (with_reducible repeat (first | refine kn ?_ _ | refine kd ?_ | refine ka ?_ _)); refine blk_far ?_ NB189_193.out _; (with_reducible repeat (first | refine kn ?_ _ | refine kd ?_ | refine ka ?_ _)); refine blk_far ?_ NB189_193.out _; (with_reducible repeat (first | refine kn ?_ _ | refine kd ?_ | refine ka ?_ _)); refine blk_far ?_ NB189_193.out _; (with_reducible repeat (first | refine kn ?_ _ | refine kd ?_ | refine ka ?_ _)); refine blk_far ?_ NB189_193.out _; (with_reducible repeat (first | refine kn ?_ _ | refine kd ?_ | refine ka ?_ _)); exact BK189.out⟩
          have n1_ : Aside0 (((((w21.setCell ⟨gb193, 0, none⟩ (.int .i64 ((rd_T51 l0_3 x38_2).f0))).setCell ⟨gb193, 1, none⟩ (.string ((rd_T51 l0_3 x38_2).f1))).setCell ⟨gb193, 2, none⟩ (.int .i64 ((rd_T51 l0_3 x38_2).f2))).setCell ⟨gb193, 3, none⟩ (.int .i64 ((rd_T51 l0_3 x38_2).f3))).heap[gb193]? = some (.cells #[.int .i64 ((rd_T51 l0_3 x38_2).f0), .string ((rd_T51 l0_3 x38_2).f1), .int .i64 ((rd_T51 l0_3 x38_2).f2), .int .i64 ((rd_T51 l0_3 x38_2).f3)] 51 (0, 0))) := ⟨by (with_reducible repeat (first | refine kn ?_ _ | refine kd ?_ | refine ka ?_ _)); refine blk_put (cs := #[.int .i64 ((rd_T51 l0_3 x38_2).f0), .string ((rd_T51 l0_3 x38_2).f1), .int .i64 ((rd_T51 l0_3 x38_2).f2), .int .i64 0]) ?_ 3 _ rfl; (with_reducible repeat (first | refine kn ?_ _ | refine kd ?_ | refine ka ?_ _)); refine blk_put (cs := #[.int .i64 ((rd_T51 l0_3 x38_2).f0), .string ((rd_T51 l0_3 x38_2).f1), .int .i64 0, .int .i64 0]) ?_ 2 _ rfl; (with_reducible repeat (first | refine kn ?_ _ | refine kd ?_ | refine ka ?_ _)); refine blk_put (cs := #[.int .i64 ((rd_T51 l0_3 x38_2).f0), .string (⟨#[]⟩ : ByteArray), .int .i64 0, .int .i64 0]) ?_ 1 _ rfl; (with_reducible repeat (first | refine kn ?_ _ | refine kd ?_ | refine ka ?_ _)); refine blk_put (cs := #[.int .i64 0, .string (⟨#[]⟩ : ByteArray), .int .i64 0, .int .i64 0]) ?_ 0 _ rfl; (with_reducible repeat (first | refine kn ?_ _ | refine kd ?_ | refine ka ?_ _)); exact BK193.out⟩
          have n2_ : Aside0 (Below w.heap.size w ((((w21.setCell ⟨gb193, 0, none⟩ (.int .i64 ((rd_T51 l0_3 x38_2).f0))).setCell ⟨gb193, 1, none⟩ (.string ((rd_T51 l0_3 x38_2).f1))).setCell ⟨gb193, 2, none⟩ (.int .i64 ((rd_T51 l0_3 x38_2).f2))).setCell ⟨gb193, 3, none⟩ (.int .i64 ((rd_T51 l0_3 x38_2).f3)))) := ⟨by exact bw HB.out⟩
          (try clear BK189)
          (try clear BK193)
          (try clear HB)
          generalize ((((w21.setCell ⟨gb193, 0, none⟩ (.int .i64 ((rd_T51 l0_3 x38_2).f0))).setCell ⟨gb193, 1, none⟩ (.string ((rd_T51 l0_3 x38_2).f1))).setCell ⟨gb193, 2, none⟩ (.int .i64 ((rd_T51 l0_3 x38_2).f2))).setCell ⟨gb193, 3, none⟩ (.int .i64 ((rd_T51 l0_3 x38_2).f3))) = w24 at n0_ n1_ n2_ ⊢
          revert n0_ n1_ n2_; intro BK189 BK193 HB
          have n0_ := am (blk_drew BK189.out)
          have n1_ := am (blk_drew BK193.out)
          have n2_ := am (below_drew1 HB.out)
          clear BK189 BK193 HB
          revert n0_ n1_ n2_; intro BK189 BK193 HB
          refine start_ (n := 57) (S := fun w' => w'.cell? ⟨gb193, 0, none⟩ = some (.int .i64 ((rd_T51 l0_3 x38_2).f0)) ∧ w'.cell? ⟨gb193, 1, none⟩ = some (.string ((rd_T51 l0_3 x38_2).f1)) ∧ w'.cell? ⟨gb193, 2, none⟩ = some (.int .i64 ((rd_T51 l0_3 x38_2).f2)) ∧ w'.cell? ⟨gb193, 3, none⟩ = some (.int .i64 ((rd_T51 l0_3 x38_2).f3))) (ds := []) (mk 57 0) (by kernel_rfl) rfl rfl ⟨(blk_cell BK193.out 0).trans rfl, (blk_cell BK193.out 1).trans rfl, (blk_cell BK193.out 2).trans rfl, (blk_cell BK193.out 3).trans rfl⟩ (fun hHeld => ?_); refine with_tabW impl_AutomatonValid.tab6 impl_AutomatonValid.bits6 (fun HT_ HW_ => ?_)
          generalize w24.drew = w25 at BK189 BK193 HB hHeld ⊢
          refine pv 0 43 57 1 HT_ ?_
          refine take_ (i := 1) (N := some 44) (v := ?_) (a' := ?_) (mk 57 3) rfl rfl (take_ofW HT_.out HW_.out (by kernel_rfl)) (fun _ _ _ h => h) (Or.inl ⟨by rfl, ?_⟩) hHeld ?_ ?_
          rotate_left
          ·rintro w' ⟨s0, s1, s2, s3⟩
           go_simp
           with_reducible rfl
          rotate_left
          ·simp only [Act.put, List.setIfInBounds_toArray, List.set_cons_zero, List.set_cons_succ, i64_w, i32_w]
           rfl
          refine pv 2 45 57 7 HT_ ?_
          refine pv 3 46 57 15 HT_ ?_
          refine pu 4 47 57 31 HT_ ?_
          refine pu 5 48 57 63 HT_ ?_
          refine pu 6 49 57 127 HT_ ?_
          refine pu 7 50 57 255 HT_ ?_
          refine pu 8 51 57 511 HT_ ?_
          refine pv 9 52 57 1023 HT_ ?_
          refine pv 10 53 57 2047 HT_ ?_
          refine pu 11 54 57 4095 HT_ ?_
          refine pu 12 55 57 8191 HT_ ?_
          refine pu 13 56 57 16383 HT_ ?_
          refine pv 14 57 57 32767 HT_ ?_
          refine pv 15 58 57 65535 HT_ ?_
          refine pu 16 59 57 131071 HT_ ?_
          refine pu 17 60 57 262143 HT_ ?_
          refine pu 18 61 57 524287 HT_ ?_
          refine pu 19 62 57 1048575 HT_ ?_
          refine pu 20 63 57 2097151 HT_ ?_
          refine pv 21 64 57 4194303 HT_ ?_
          refine pv 22 65 57 8388607 HT_ ?_
          refine pu 23 66 57 16777215 HT_ ?_
          refine pu 24 67 57 33554431 HT_ ?_
          refine pu 25 68 57 67108863 HT_ ?_
          refine pu 26 69 57 134217727 HT_ ?_
          refine pu 27 70 57 268435455 HT_ ?_
          refine pu 28 71 57 536870911 HT_ ?_
          refine pu 29 72 57 1073741823 HT_ ?_
          refine pu 30 73 57 2147483647 HT_ ?_
          refine pv 31 74 57 4294967295 HT_ ?_
          refine pv 32 75 57 8589934591 HT_ ?_
          refine pu 33 76 57 17179869183 HT_ ?_
          refine pu 34 77 57 34359738367 HT_ ?_
          refine pu 35 78 57 68719476735 HT_ ?_
          refine pv 36 79 57 137438953471 HT_ ?_
          refine pv 37 80 57 274877906943 HT_ ?_
          refine pu 38 81 57 549755813887 HT_ ?_
          refine pu 39 82 57 1099511627775 HT_ ?_
          refine pu 40 83 57 2199023255551 HT_ ?_
          refine pv 41 84 57 4398046511103 HT_ ?_
          refine pv 42 85 57 8796093022207 HT_ ?_
          refine pu 43 86 57 17592186044415 HT_ ?_
          refine pu 44 87 57 35184372088831 HT_ ?_
          refine pu 45 88 57 70368744177663 HT_ ?_
          refine pu 46 89 57 140737488355327 HT_ ?_
          refine pu 47 90 57 281474976710655 HT_ ?_
          refine pu 48 91 57 562949953421311 HT_ ?_
          refine pu 49 92 57 1125899906842623 HT_ ?_
          refine pu 50 93 57 2251799813685247 HT_ ?_
          refine pu 51 94 57 4503599627370495 HT_ ?_
          refine pu 52 95 57 9007199254740991 HT_ ?_
          refine pu 53 96 57 18014398509481983 HT_ ?_
          refine pu 54 97 57 36028797018963967 HT_ ?_
          refine pu 55 98 57 72057594037927935 HT_ ?_
          refine pv 56 99 57 144115188075855871 HT_ ?_
          refine done_ (done_of HT_.out (by kernel_rfl)) ?_
          try go_wp2
          go_ret
          exact ⟨by first | rfl | (simp [errW_none, errW_some] <;> rfl) | (simp [*, errW_none, errW_some] <;> rfl), by exact bw HB.out⟩
         ·rw [if_neg c20] at H
          have c20b0 : decide (((rd_T51 l0_3 x38_2).f0) < 0) = false := decide_eq_false c20
          clear c20
          by_cases c26 : ((rd_T51 l0_3 x38_2).f0) ≥ a0_0
          ·rw [if_pos c26] at H
           have c26b0 : decide (a0_0 ≤ ((rd_T51 l0_3 x38_2).f0)) = true := decide_eq_true c26
           clear c26
           obtain rfl := Option.some.inj H
           have p192 : 0 ≤ (x38_2 : Int) := of_decide_eq_true (by first | (with_reducible assumption) | assumption)
           have q192 : x38_2 < (l0_3.length : Int) := of_decide_eq_true (by first | (with_reducible assumption) | assumption)
           obtain ⟨ad192, e192, hx192_0, hx192_1, hx192_2, hx192_3⟩ := at_T51 HR0_3.out x38_2 p192 q192
           cases e192
           replace hx192_0 := (HB.out.cell (World.block_lt_of_cell? w _ hx192_0)).trans hx192_0
           replace hx192_1 := (HB.out.cell (World.block_lt_of_cell? w _ hx192_1)).trans hx192_1
           replace hx192_2 := (HB.out.cell (World.block_lt_of_cell? w _ hx192_2)).trans hx192_2
           replace hx192_3 := (HB.out.cell (World.block_lt_of_cell? w _ hx192_3)).trans hx192_3
           replace p192 := eq_true p192
           replace q192 := eq_true q192
           try go_wp2_with (first | ((with_reducible refine gate_dst (N := 4) rfl ?_); (try (refine gate_guard (by rfl) ?_; dsimp only)); refine box_event ?hg (N := 4) ?hd (cs := #[.int .i64 0, .string (⟨#[]⟩ : ByteArray), .int .i64 0, .int .i64 0]) (t := 51) ?hr ?_; (case hd => rfl); (case hg => rfl); (case hr => first | (go_simp; done) | (go_simp; rfl)); intro gb193 hg w27 hbox hb; have n0_ := bk BK189 hb; have n1_ := am (below_step (bw HB.out) hb); have n2_ := am (hbox); have n3_ := am ((by rw [hg]; exact (below_size (bw HB.out)) : w.heap.size ≤ gb193)); have n4_ := am ((by rw [hg]; exact (below_size (bw HB.out)) : w.heap.size ≤ gb193)); have n5_ := am ((by rw [hg]; exact Nat.ne_of_lt (blk_lt (kz BK189.out)) : gb189 ≠ gb193)); have n6_ := am ((by rw [hg]; exact Nat.ne_of_gt (blk_lt (kz BK189.out)) : gb193 ≠ gb189)); clear BK189 HB; revert n0_ n1_ n2_ n3_ n4_ n5_ n6_; intro BK189 HB BK193 GW193 GE193 NB189_193 NB193_189; clear hb hbox hg; have hnb28 := NB193_189.out; have hnc28 := NB189_193.out; have hcz29_0 := cz40 BK193.out; have hcz29_1 := cz41 BK193.out; have hcz29_2 := cz42 BK193.out; have hcz29_3 := cz43 BK193.out; have hfz29_0 := blk_frozen BK193.out 0; have hfz29_1 := blk_frozen BK193.out 1; have hfz29_2 := blk_frozen BK193.out 2; have hfz29_3 := blk_frozen BK193.out 3))
           have n0_ : Aside0 (((((w27.setCell ⟨gb193, 0, none⟩ (.int .i64 ((rd_T51 l0_3 x38_2).f0))).setCell ⟨gb193, 1, none⟩ (.string ((rd_T51 l0_3 x38_2).f1))).setCell ⟨gb193, 2, none⟩ (.int .i64 ((rd_T51 l0_3 x38_2).f2))).setCell ⟨gb193, 3, none⟩ (.int .i64 ((rd_T51 l0_3 x38_2).f3))).heap[gb189]? = some (.cells #[.int .i64 a0_0, .slice A0_1 l0_1.length c0_1, .slice A0_2 l0_2.length c0_2, .slice (some ad192) l0_3.length c0_3] 30 (0, 0))) := ⟨by (with_reducible repeat (first | refine kn ?_ _ | refine kd ?_ | refine ka ?_ _)); refine blk_far ?_ NB189_193.out _; (with_reducible repeat (first | refine kn ?_ _ | refine kd ?_ | refine ka ?_ _)); refine blk_far ?_ NB189_193.out _; (with_reducible repeat (first | refine kn ?_ _ | refine kd ?_ | refine ka ?_ _)); refine blk_far ?_ NB189_193.out _; (with_reducible repeat (first | refine kn ?_ _ | refine kd ?_ | refine ka ?_ _)); refine blk_far ?_ NB189_193.out _; (with_reducible repeat (first | refine kn ?_ _ | refine kd ?_ | refine ka ?_ _)); exact BK189.out⟩
           have n1_ : Aside0 (((((w27.setCell ⟨gb193, 0, none⟩ (.int .i64 ((rd_T51 l0_3 x38_2).f0))).setCell ⟨gb193, 1, none⟩ (.string ((rd_T51 l0_3 x38_2).f1))).setCell ⟨gb193, 2, none⟩ (.int .i64 ((rd_T51 l0_3 x38_2).f2))).setCell ⟨gb193, 3, none⟩ (.int .i64 ((rd_T51 l0_3 x38_2).f3))).heap[gb193]? = some (.cells #[.int .i64 ((rd_T51 l0_3 x38_2).f0), .string ((rd_T51 l0_3 x38_2).f1), .int .i64 ((rd_T51 l0_3 x38_2).f2), .int .i64 ((rd_T51 l0_3 x38_2).f3)] 51 (0, 0))) := ⟨by (with_reducible repeat (first | refine kn ?_ _ | refine kd ?_ | refine ka ?_ _)); refine blk_put (cs := #[.int .i64 ((rd_T51 l0_3 x38_2).f0), .string ((rd_T51 l0_3 x38_2).f1), .int .i64 ((rd_T51 l0_3 x38_2).f2), .int .i64 0]) ?_ 3 _ rfl; (with_reducible repeat (first | refine kn ?_ _ | refine kd ?_ | refine ka ?_ _)); refine blk_put (cs := #[.int .i64 ((rd_T51 l0_3 x38_2).f0), .string ((rd_T51 l0_3 x38_2).f1), .int .i64 0, .int .i64 0]) ?_ 2 _ rfl; (with_reducible repeat (first | refine kn ?_ _ | refine kd ?_ | refine ka ?_ _)); refine blk_put (cs := #[.int .i64 ((rd_T51 l0_3 x38_2).f0), .string (⟨#[]⟩ : ByteArray), .int .i64 0, .int .i64 0]) ?_ 1 _ rfl; (with_reducible repeat (first | refine kn ?_ _ | refine kd ?_ | refine ka ?_ _)); refine blk_put (cs := #[.int .i64 0, .string (⟨#[]⟩ : ByteArray), .int .i64 0, .int .i64 0]) ?_ 0 _ rfl; (with_reducible repeat (first | refine kn ?_ _ | refine kd ?_ | refine ka ?_ _)); exact BK193.out⟩
           have n2_ : Aside0 (Below w.heap.size w ((((w27.setCell ⟨gb193, 0, none⟩ (.int .i64 ((rd_T51 l0_3 x38_2).f0))).setCell ⟨gb193, 1, none⟩ (.string ((rd_T51 l0_3 x38_2).f1))).setCell ⟨gb193, 2, none⟩ (.int .i64 ((rd_T51 l0_3 x38_2).f2))).setCell ⟨gb193, 3, none⟩ (.int .i64 ((rd_T51 l0_3 x38_2).f3)))) := ⟨by exact bw HB.out⟩
           (try clear BK189)
           (try clear BK193)
           (try clear HB)
           generalize ((((w27.setCell ⟨gb193, 0, none⟩ (.int .i64 ((rd_T51 l0_3 x38_2).f0))).setCell ⟨gb193, 1, none⟩ (.string ((rd_T51 l0_3 x38_2).f1))).setCell ⟨gb193, 2, none⟩ (.int .i64 ((rd_T51 l0_3 x38_2).f2))).setCell ⟨gb193, 3, none⟩ (.int .i64 ((rd_T51 l0_3 x38_2).f3))) = w30 at n0_ n1_ n2_ ⊢
           revert n0_ n1_ n2_; intro BK189 BK193 HB
           have n0_ := am (blk_drew BK189.out)
           have n1_ := am (blk_drew BK193.out)
           have n2_ := am (below_drew1 HB.out)
           clear BK189 BK193 HB
           revert n0_ n1_ n2_; intro BK189 BK193 HB
           refine start_ (n := 57) (S := fun w' => w'.cell? ⟨gb193, 0, none⟩ = some (.int .i64 ((rd_T51 l0_3 x38_2).f0)) ∧ w'.cell? ⟨gb193, 1, none⟩ = some (.string ((rd_T51 l0_3 x38_2).f1)) ∧ w'.cell? ⟨gb193, 2, none⟩ = some (.int .i64 ((rd_T51 l0_3 x38_2).f2)) ∧ w'.cell? ⟨gb193, 3, none⟩ = some (.int .i64 ((rd_T51 l0_3 x38_2).f3)) ∧ w'.cell? ⟨gb189, 0, none⟩ = some (.int .i64 a0_0) ∧ w'.cell? ⟨gb189, 1, none⟩ = some (.slice A0_1 l0_1.length c0_1) ∧ w'.cell? ⟨gb189, 2, none⟩ = some (.slice A0_2 l0_2.length c0_2) ∧ w'.cell? ⟨gb189, 3, none⟩ = some (.slice (some ad192) l0_3.length c0_3)) (ds := []) (mk 57 0) (by kernel_rfl) rfl rfl ⟨(blk_cell BK193.out 0).trans rfl, (blk_cell BK193.out 1).trans rfl, (blk_cell BK193.out 2).trans rfl, (blk_cell BK193.out 3).trans rfl, (blk_cell BK189.out 0).trans rfl, (blk_cell BK189.out 1).trans rfl, (blk_cell BK189.out 2).trans rfl, (blk_cell BK189.out 3).trans rfl⟩ (fun hHeld => ?_); refine with_tabW impl_AutomatonValid.tab6 impl_AutomatonValid.bits6 (fun HT_ HW_ => ?_)
           generalize w30.drew = w31 at BK189 BK193 HB hHeld ⊢
           refine pv 0 43 57 1 HT_ ?_
           refine take_ (i := 1) (N := some 44) (v := ?_) (a' := ?_) (mk 57 3) rfl rfl (take_ofW HT_.out HW_.out (by kernel_rfl)) (fun _ _ _ h => h) (Or.inl ⟨by rfl, ?_⟩) hHeld ?_ ?_
           rotate_left
           ·rintro w' ⟨s0, s1, s2, s3, s4, s5, s6, s7⟩
            go_simp
            with_reducible rfl
           rotate_left
           ·simp only [Act.put, List.setIfInBounds_toArray, List.set_cons_zero, List.set_cons_succ, i64_w, i32_w]
            rfl
           refine pv 2 45 57 7 HT_ ?_
           refine pv 3 46 57 15 HT_ ?_
           refine pv 4 47 57 31 HT_ ?_
           refine pv 6 49 57 95 HT_ ?_
           refine take_ (i := 5) (N := some 48) (v := ?_) (a' := ?_) (mk 57 127) rfl rfl (take_ofW HT_.out HW_.out (by kernel_rfl)) (fun _ _ _ h => h) (Or.inl ⟨by rfl, ?_⟩) hHeld ?_ ?_
           rotate_left
           ·rintro w' ⟨s0, s1, s2, s3, s4, s5, s6, s7⟩
            go_simp
            with_reducible rfl
           rotate_left
           ·simp only [Act.put, List.setIfInBounds_toArray, List.set_cons_zero, List.set_cons_succ, i64_w, i32_w]
            rfl
           refine take_ (i := 7) (N := some 50) (v := ?_) (a' := ?_) (mk 57 255) rfl rfl (take_ofW HT_.out HW_.out (by kernel_rfl)) (fun _ _ _ h => h) (Or.inl ⟨by rfl, ?_⟩) hHeld ?_ ?_
           rotate_left
           ·rintro w' ⟨s0, s1, s2, s3, s4, s5, s6, s7⟩
            go_simp
            with_reducible rfl
           rotate_left
           ·simp only [Act.put, List.setIfInBounds_toArray, List.set_cons_zero, List.set_cons_succ, i64_w, i32_w]
            rfl
           refine pv 8 51 57 511 HT_ ?_
           refine pv 9 52 57 1023 HT_ ?_
           refine pv 10 53 57 2047 HT_ ?_
           refine pu 11 54 57 4095 HT_ ?_
           refine pu 12 55 57 8191 HT_ ?_
           refine pu 13 56 57 16383 HT_ ?_
           refine pv 14 57 57 32767 HT_ ?_
           refine pv 15 58 57 65535 HT_ ?_
           refine pu 16 59 57 131071 HT_ ?_
           refine pu 17 60 57 262143 HT_ ?_
           refine pu 18 61 57 524287 HT_ ?_
           refine pu 19 62 57 1048575 HT_ ?_
           refine pu 20 63 57 2097151 HT_ ?_
           refine pv 21 64 57 4194303 HT_ ?_
           refine pv 22 65 57 8388607 HT_ ?_
           refine pu 23 66 57 16777215 HT_ ?_
           refine pu 24 67 57 33554431 HT_ ?_
           refine pu 25 68 57 67108863 HT_ ?_
           refine pu 26 69 57 134217727 HT_ ?_
           refine pu 27 70 57 268435455 HT_ ?_
           refine pu 28 71 57 536870911 HT_ ?_
           refine pu 29 72 57 1073741823 HT_ ?_
           refine pu 30 73 57 2147483647 HT_ ?_
           refine pv 31 74 57 4294967295 HT_ ?_
           refine pv 32 75 57 8589934591 HT_ ?_
           refine pu 33 76 57 17179869183 HT_ ?_
           refine pu 34 77 57 34359738367 HT_ ?_
           refine pu 35 78 57 68719476735 HT_ ?_
           refine pv 36 79 57 137438953471 HT_ ?_
           refine pv 37 80 57 274877906943 HT_ ?_
           refine pu 38 81 57 549755813887 HT_ ?_
           refine pu 39 82 57 1099511627775 HT_ ?_
           refine pu 40 83 57 2199023255551 HT_ ?_
           refine pv 41 84 57 4398046511103 HT_ ?_
           refine pv 42 85 57 8796093022207 HT_ ?_
           refine pu 43 86 57 17592186044415 HT_ ?_
           refine pu 44 87 57 35184372088831 HT_ ?_
           refine pu 45 88 57 70368744177663 HT_ ?_
           refine pu 46 89 57 140737488355327 HT_ ?_
           refine pu 47 90 57 281474976710655 HT_ ?_
           refine pu 48 91 57 562949953421311 HT_ ?_
           refine pu 49 92 57 1125899906842623 HT_ ?_
           refine pu 50 93 57 2251799813685247 HT_ ?_
           refine pu 51 94 57 4503599627370495 HT_ ?_
           refine pu 52 95 57 9007199254740991 HT_ ?_
           refine pu 53 96 57 18014398509481983 HT_ ?_
           refine pu 54 97 57 36028797018963967 HT_ ?_
           refine pu 55 98 57 72057594037927935 HT_ ?_
           refine pv 56 99 57 144115188075855871 HT_ ?_
           refine done_ (done_of HT_.out (by kernel_rfl)) ?_
           try go_wp2
           go_ret
           exact ⟨by first | rfl | (simp [errW_none, errW_some] <;> rfl) | (simp [*, errW_none, errW_some] <;> rfl), by exact bw HB.out⟩
          ·rw [if_neg c26] at H
           have c26b0 : decide (a0_0 ≤ ((rd_T51 l0_3 x38_2).f0)) = false := decide_eq_false c26
           clear c26
           by_cases c32 : ((rd_T51 l0_3 x38_2).f2) < 0
           ·rw [if_pos c32] at H
            have c32b0 : decide (((rd_T51 l0_3 x38_2).f2) < 0) = true := decide_eq_true c32
            clear c32
            obtain rfl := Option.some.inj H
            have p192 : 0 ≤ (x38_2 : Int) := of_decide_eq_true (by first | (with_reducible assumption) | assumption)
            have q192 : x38_2 < (l0_3.length : Int) := of_decide_eq_true (by first | (with_reducible assumption) | assumption)
            obtain ⟨ad192, e192, hx192_0, hx192_1, hx192_2, hx192_3⟩ := at_T51 HR0_3.out x38_2 p192 q192
            cases e192
            replace hx192_0 := (HB.out.cell (World.block_lt_of_cell? w _ hx192_0)).trans hx192_0
            replace hx192_1 := (HB.out.cell (World.block_lt_of_cell? w _ hx192_1)).trans hx192_1
            replace hx192_2 := (HB.out.cell (World.block_lt_of_cell? w _ hx192_2)).trans hx192_2
            replace hx192_3 := (HB.out.cell (World.block_lt_of_cell? w _ hx192_3)).trans hx192_3
            replace p192 := eq_true p192
            replace q192 := eq_true q192
            try go_wp2_with (first | ((with_reducible refine gate_dst (N := 4) rfl ?_); (try (refine gate_guard (by rfl) ?_; dsimp only)); refine box_event ?hg (N := 4) ?hd (cs := #[.int .i64 0, .string (⟨#[]⟩ : ByteArray), .int .i64 0, .int .i64 0]) (t := 51) ?hr ?_; (case hd => rfl); (case hg => rfl); (case hr => first | (go_simp; done) | (go_simp; rfl)); intro gb193 hg w33 hbox hb; have n0_ := bk BK189 hb; have n1_ := am (below_step (bw HB.out) hb); have n2_ := am (hbox); have n3_ := am ((by rw [hg]; exact (below_size (bw HB.out)) : w.heap.size ≤ gb193)); have n4_ := am ((by rw [hg]; exact (below_size (bw HB.out)) : w.heap.size ≤ gb193)); have n5_ := am ((by rw [hg]; exact Nat.ne_of_lt (blk_lt (kz BK189.out)) : gb189 ≠ gb193)); have n6_ := am ((by rw [hg]; exact Nat.ne_of_gt (blk_lt (kz BK189.out)) : gb193 ≠ gb189)); clear BK189 HB; revert n0_ n1_ n2_ n3_ n4_ n5_ n6_; intro BK189 HB BK193 GW193 GE193 NB189_193 NB193_189; clear hb hbox hg; have hnb34 := NB193_189.out; have hnc34 := NB189_193.out; have hcz35_0 := cz40 BK193.out; have hcz35_1 := cz41 BK193.out; have hcz35_2 := cz42 BK193.out; have hcz35_3 := cz43 BK193.out; have hfz35_0 := blk_frozen BK193.out 0; have hfz35_1 := blk_frozen BK193.out 1; have hfz35_2 := blk_frozen BK193.out 2; have hfz35_3 := blk_frozen BK193.out 3))
            have n0_ : Aside0 (((((w33.setCell ⟨gb193, 0, none⟩ (.int .i64 ((rd_T51 l0_3 x38_2).f0))).setCell ⟨gb193, 1, none⟩ (.string ((rd_T51 l0_3 x38_2).f1))).setCell ⟨gb193, 2, none⟩ (.int .i64 ((rd_T51 l0_3 x38_2).f2))).setCell ⟨gb193, 3, none⟩ (.int .i64 ((rd_T51 l0_3 x38_2).f3))).heap[gb189]? = some (.cells #[.int .i64 a0_0, .slice A0_1 l0_1.length c0_1, .slice A0_2 l0_2.length c0_2, .slice (some ad192) l0_3.length c0_3] 30 (0, 0))) := ⟨by (with_reducible repeat (first | refine kn ?_ _ | refine kd ?_ | refine ka ?_ _)); refine blk_far ?_ NB189_193.out _; (with_reducible repeat (first | refine kn ?_ _ | refine kd ?_ | refine ka ?_ _)); refine blk_far ?_ NB189_193.out _; (with_reducible repeat (first | refine kn ?_ _ | refine kd ?_ | refine ka ?_ _)); refine blk_far ?_ NB189_193.out _; (with_reducible repeat (first | refine kn ?_ _ | refine kd ?_ | refine ka ?_ _)); refine blk_far ?_ NB189_193.out _; (with_reducible repeat (first | refine kn ?_ _ | refine kd ?_ | refine ka ?_ _)); exact BK189.out⟩
            have n1_ : Aside0 (((((w33.setCell ⟨gb193, 0, none⟩ (.int .i64 ((rd_T51 l0_3 x38_2).f0))).setCell ⟨gb193, 1, none⟩ (.string ((rd_T51 l0_3 x38_2).f1))).setCell ⟨gb193, 2, none⟩ (.int .i64 ((rd_T51 l0_3 x38_2).f2))).setCell ⟨gb193, 3, none⟩ (.int .i64 ((rd_T51 l0_3 x38_2).f3))).heap[gb193]? = some (.cells #[.int .i64 ((rd_T51 l0_3 x38_2).f0), .string ((rd_T51 l0_3 x38_2).f1), .int .i64 ((rd_T51 l0_3 x38_2).f2), .int .i64 ((rd_T51 l0_3 x38_2).f3)] 51 (0, 0))) := ⟨by (with_reducible repeat (first | refine kn ?_ _ | refine kd ?_ | refine ka ?_ _)); refine blk_put (cs := #[.int .i64 ((rd_T51 l0_3 x38_2).f0), .string ((rd_T51 l0_3 x38_2).f1), .int .i64 ((rd_T51 l0_3 x38_2).f2), .int .i64 0]) ?_ 3 _ rfl; (with_reducible repeat (first | refine kn ?_ _ | refine kd ?_ | refine ka ?_ _)); refine blk_put (cs := #[.int .i64 ((rd_T51 l0_3 x38_2).f0), .string ((rd_T51 l0_3 x38_2).f1), .int .i64 0, .int .i64 0]) ?_ 2 _ rfl; (with_reducible repeat (first | refine kn ?_ _ | refine kd ?_ | refine ka ?_ _)); refine blk_put (cs := #[.int .i64 ((rd_T51 l0_3 x38_2).f0), .string (⟨#[]⟩ : ByteArray), .int .i64 0, .int .i64 0]) ?_ 1 _ rfl; (with_reducible repeat (first | refine kn ?_ _ | refine kd ?_ | refine ka ?_ _)); refine blk_put (cs := #[.int .i64 0, .string (⟨#[]⟩ : ByteArray), .int .i64 0, .int .i64 0]) ?_ 0 _ rfl; (with_reducible repeat (first | refine kn ?_ _ | refine kd ?_ | refine ka ?_ _)); exact BK193.out⟩
            have n2_ : Aside0 (Below w.heap.size w ((((w33.setCell ⟨gb193, 0, none⟩ (.int .i64 ((rd_T51 l0_3 x38_2).f0))).setCell ⟨gb193, 1, none⟩ (.string ((rd_T51 l0_3 x38_2).f1))).setCell ⟨gb193, 2, none⟩ (.int .i64 ((rd_T51 l0_3 x38_2).f2))).setCell ⟨gb193, 3, none⟩ (.int .i64 ((rd_T51 l0_3 x38_2).f3)))) := ⟨by exact bw HB.out⟩
            (try clear BK189)
            (try clear BK193)
            (try clear HB)
            generalize ((((w33.setCell ⟨gb193, 0, none⟩ (.int .i64 ((rd_T51 l0_3 x38_2).f0))).setCell ⟨gb193, 1, none⟩ (.string ((rd_T51 l0_3 x38_2).f1))).setCell ⟨gb193, 2, none⟩ (.int .i64 ((rd_T51 l0_3 x38_2).f2))).setCell ⟨gb193, 3, none⟩ (.int .i64 ((rd_T51 l0_3 x38_2).f3))) = w36 at n0_ n1_ n2_ ⊢
            revert n0_ n1_ n2_; intro BK189 BK193 HB
            have n0_ := am (blk_drew BK189.out)
            have n1_ := am (blk_drew BK193.out)
            have n2_ := am (below_drew1 HB.out)
            clear BK189 BK193 HB
            revert n0_ n1_ n2_; intro BK189 BK193 HB
            refine start_ (n := 57) (S := fun w' => w'.cell? ⟨gb193, 0, none⟩ = some (.int .i64 ((rd_T51 l0_3 x38_2).f0)) ∧ w'.cell? ⟨gb193, 1, none⟩ = some (.string ((rd_T51 l0_3 x38_2).f1)) ∧ w'.cell? ⟨gb193, 2, none⟩ = some (.int .i64 ((rd_T51 l0_3 x38_2).f2)) ∧ w'.cell? ⟨gb193, 3, none⟩ = some (.int .i64 ((rd_T51 l0_3 x38_2).f3)) ∧ w'.cell? ⟨gb189, 0, none⟩ = some (.int .i64 a0_0) ∧ w'.cell? ⟨gb189, 1, none⟩ = some (.slice A0_1 l0_1.length c0_1) ∧ w'.cell? ⟨gb189, 2, none⟩ = some (.slice A0_2 l0_2.length c0_2) ∧ w'.cell? ⟨gb189, 3, none⟩ = some (.slice (some ad192) l0_3.length c0_3)) (ds := []) (mk 57 0) (by kernel_rfl) rfl rfl ⟨(blk_cell BK193.out 0).trans rfl, (blk_cell BK193.out 1).trans rfl, (blk_cell BK193.out 2).trans rfl, (blk_cell BK193.out 3).trans rfl, (blk_cell BK189.out 0).trans rfl, (blk_cell BK189.out 1).trans rfl, (blk_cell BK189.out 2).trans rfl, (blk_cell BK189.out 3).trans rfl⟩ (fun hHeld => ?_); refine with_tabW impl_AutomatonValid.tab6 impl_AutomatonValid.bits6 (fun HT_ HW_ => ?_)
            generalize w36.drew = w37 at BK189 BK193 HB hHeld ⊢
            refine pv 0 43 57 1 HT_ ?_
            refine take_ (i := 1) (N := some 44) (v := ?_) (a' := ?_) (mk 57 3) rfl rfl (take_ofW HT_.out HW_.out (by kernel_rfl)) (fun _ _ _ h => h) (Or.inl ⟨by rfl, ?_⟩) hHeld ?_ ?_
            rotate_left
            ·rintro w' ⟨s0, s1, s2, s3, s4, s5, s6, s7⟩
             go_simp
             with_reducible rfl
            rotate_left
            ·simp only [Act.put, List.setIfInBounds_toArray, List.set_cons_zero, List.set_cons_succ, i64_w, i32_w]
             rfl
            refine pv 2 45 57 7 HT_ ?_
            refine pv 3 46 57 15 HT_ ?_
            refine pv 4 47 57 31 HT_ ?_
            refine pv 6 49 57 95 HT_ ?_
            refine take_ (i := 5) (N := some 48) (v := ?_) (a' := ?_) (mk 57 127) rfl rfl (take_ofW HT_.out HW_.out (by kernel_rfl)) (fun _ _ _ h => h) (Or.inl ⟨by rfl, ?_⟩) hHeld ?_ ?_
            rotate_left
            ·rintro w' ⟨s0, s1, s2, s3, s4, s5, s6, s7⟩
             go_simp
             with_reducible rfl
            rotate_left
            ·simp only [Act.put, List.setIfInBounds_toArray, List.set_cons_zero, List.set_cons_succ, i64_w, i32_w]
             rfl
            refine take_ (i := 7) (N := some 50) (v := ?_) (a' := ?_) (mk 57 255) rfl rfl (take_ofW HT_.out HW_.out (by kernel_rfl)) (fun _ _ _ h => h) (Or.inl ⟨by rfl, ?_⟩) hHeld ?_ ?_
            rotate_left
            ·rintro w' ⟨s0, s1, s2, s3, s4, s5, s6, s7⟩
             go_simp
             with_reducible rfl
            rotate_left
            ·simp only [Act.put, List.setIfInBounds_toArray, List.set_cons_zero, List.set_cons_succ, i64_w, i32_w]
             rfl
            refine pv 8 51 57 511 HT_ ?_
            refine pv 9 52 57 1023 HT_ ?_
            refine pv 10 53 57 2047 HT_ ?_
            refine pv 11 54 57 4095 HT_ ?_
            refine take_ (i := 12) (N := some 55) (v := ?_) (a' := ?_) (mk 57 8191) rfl rfl (take_ofW HT_.out HW_.out (by kernel_rfl)) (fun _ _ _ h => h) (Or.inl ⟨by rfl, ?_⟩) hHeld ?_ ?_
            rotate_left
            ·rintro w' ⟨s0, s1, s2, s3, s4, s5, s6, s7⟩
             go_simp
             with_reducible rfl
            rotate_left
            ·simp only [Act.put, List.setIfInBounds_toArray, List.set_cons_zero, List.set_cons_succ, i64_w, i32_w]
             rfl
            refine pv 13 56 57 16383 HT_ ?_
            refine pv 14 57 57 32767 HT_ ?_
            refine pv 15 58 57 65535 HT_ ?_
            refine pu 16 59 57 131071 HT_ ?_
            refine pu 17 60 57 262143 HT_ ?_
            refine pu 18 61 57 524287 HT_ ?_
            refine pu 19 62 57 1048575 HT_ ?_
            refine pu 20 63 57 2097151 HT_ ?_
            refine pv 21 64 57 4194303 HT_ ?_
            refine pv 22 65 57 8388607 HT_ ?_
            refine pu 23 66 57 16777215 HT_ ?_
            refine pu 24 67 57 33554431 HT_ ?_
            refine pu 25 68 57 67108863 HT_ ?_
            refine pu 26 69 57 134217727 HT_ ?_
            refine pu 27 70 57 268435455 HT_ ?_
            refine pu 28 71 57 536870911 HT_ ?_
            refine pu 29 72 57 1073741823 HT_ ?_
            refine pu 30 73 57 2147483647 HT_ ?_
            refine pv 31 74 57 4294967295 HT_ ?_
            refine pv 32 75 57 8589934591 HT_ ?_
            refine pu 33 76 57 17179869183 HT_ ?_
            refine pu 34 77 57 34359738367 HT_ ?_
            refine pu 35 78 57 68719476735 HT_ ?_
            refine pv 36 79 57 137438953471 HT_ ?_
            refine pv 37 80 57 274877906943 HT_ ?_
            refine pu 38 81 57 549755813887 HT_ ?_
            refine pu 39 82 57 1099511627775 HT_ ?_
            refine pu 40 83 57 2199023255551 HT_ ?_
            refine pv 41 84 57 4398046511103 HT_ ?_
            refine pv 42 85 57 8796093022207 HT_ ?_
            refine pu 43 86 57 17592186044415 HT_ ?_
            refine pu 44 87 57 35184372088831 HT_ ?_
            refine pu 45 88 57 70368744177663 HT_ ?_
            refine pu 46 89 57 140737488355327 HT_ ?_
            refine pu 47 90 57 281474976710655 HT_ ?_
            refine pu 48 91 57 562949953421311 HT_ ?_
            refine pu 49 92 57 1125899906842623 HT_ ?_
            refine pu 50 93 57 2251799813685247 HT_ ?_
            refine pu 51 94 57 4503599627370495 HT_ ?_
            refine pu 52 95 57 9007199254740991 HT_ ?_
            refine pu 53 96 57 18014398509481983 HT_ ?_
            refine pu 54 97 57 36028797018963967 HT_ ?_
            refine pu 55 98 57 72057594037927935 HT_ ?_
            refine pv 56 99 57 144115188075855871 HT_ ?_
            refine done_ (done_of HT_.out (by kernel_rfl)) ?_
            try go_wp2
            go_ret
            exact ⟨by first | rfl | (simp [errW_none, errW_some] <;> rfl) | (simp [*, errW_none, errW_some] <;> rfl), by exact bw HB.out⟩
           ·rw [if_neg c32] at H
            have c32b0 : decide (((rd_T51 l0_3 x38_2).f2) < 0) = false := decide_eq_false c32
            clear c32
            by_cases c38 : ((rd_T51 l0_3 x38_2).f2) ≥ a0_0
            ·rw [if_pos c38] at H
             have c38b0 : decide (a0_0 ≤ ((rd_T51 l0_3 x38_2).f2)) = true := decide_eq_true c38
             clear c38
             obtain rfl := Option.some.inj H
             have p192 : 0 ≤ (x38_2 : Int) := of_decide_eq_true (by first | (with_reducible assumption) | assumption)
             have q192 : x38_2 < (l0_3.length : Int) := of_decide_eq_true (by first | (with_reducible assumption) | assumption)
             obtain ⟨ad192, e192, hx192_0, hx192_1, hx192_2, hx192_3⟩ := at_T51 HR0_3.out x38_2 p192 q192
             cases e192
             replace hx192_0 := (HB.out.cell (World.block_lt_of_cell? w _ hx192_0)).trans hx192_0
             replace hx192_1 := (HB.out.cell (World.block_lt_of_cell? w _ hx192_1)).trans hx192_1
             replace hx192_2 := (HB.out.cell (World.block_lt_of_cell? w _ hx192_2)).trans hx192_2
             replace hx192_3 := (HB.out.cell (World.block_lt_of_cell? w _ hx192_3)).trans hx192_3
             replace p192 := eq_true p192
             replace q192 := eq_true q192
             try go_wp2_with (first | ((with_reducible refine gate_dst (N := 4) rfl ?_); (try (refine gate_guard (by rfl) ?_; dsimp only)); refine box_event ?hg (N := 4) ?hd (cs := #[.int .i64 0, .string (⟨#[]⟩ : ByteArray), .int .i64 0, .int .i64 0]) (t := 51) ?hr ?_; (case hd => rfl); (case hg => rfl); (case hr => first | (go_simp; done) | (go_simp; rfl)); intro gb193 hg w39 hbox hb; have n0_ := bk BK189 hb; have n1_ := am (below_step (bw HB.out) hb); have n2_ := am (hbox); have n3_ := am ((by rw [hg]; exact (below_size (bw HB.out)) : w.heap.size ≤ gb193)); have n4_ := am ((by rw [hg]; exact (below_size (bw HB.out)) : w.heap.size ≤ gb193)); have n5_ := am ((by rw [hg]; exact Nat.ne_of_lt (blk_lt (kz BK189.out)) : gb189 ≠ gb193)); have n6_ := am ((by rw [hg]; exact Nat.ne_of_gt (blk_lt (kz BK189.out)) : gb193 ≠ gb189)); clear BK189 HB; revert n0_ n1_ n2_ n3_ n4_ n5_ n6_; intro BK189 HB BK193 GW193 GE193 NB189_193 NB193_189; clear hb hbox hg; have hnb40 := NB193_189.out; have hnc40 := NB189_193.out; have hcz41_0 := cz40 BK193.out; have hcz41_1 := cz41 BK193.out; have hcz41_2 := cz42 BK193.out; have hcz41_3 := cz43 BK193.out; have hfz41_0 := blk_frozen BK193.out 0; have hfz41_1 := blk_frozen BK193.out 1; have hfz41_2 := blk_frozen BK193.out 2; have hfz41_3 := blk_frozen BK193.out 3))
             have n0_ : Aside0 (((((w39.setCell ⟨gb193, 0, none⟩ (.int .i64 ((rd_T51 l0_3 x38_2).f0))).setCell ⟨gb193, 1, none⟩ (.string ((rd_T51 l0_3 x38_2).f1))).setCell ⟨gb193, 2, none⟩ (.int .i64 ((rd_T51 l0_3 x38_2).f2))).setCell ⟨gb193, 3, none⟩ (.int .i64 ((rd_T51 l0_3 x38_2).f3))).heap[gb189]? = some (.cells #[.int .i64 a0_0, .slice A0_1 l0_1.length c0_1, .slice A0_2 l0_2.length c0_2, .slice (some ad192) l0_3.length c0_3] 30 (0, 0))) := ⟨by (with_reducible repeat (first | refine kn ?_ _ | refine kd ?_ | refine ka ?_ _)); refine blk_far ?_ NB189_193.out _; (with_reducible repeat (first | refine kn ?_ _ | refine kd ?_ | refine ka ?_ _)); refine blk_far ?_ NB189_193.out _; (with_reducible repeat (first | refine kn ?_ _ | refine kd ?_ | refine ka ?_ _)); refine blk_far ?_ NB189_193.out _; (with_reducible repeat (first | refine kn ?_ _ | refine kd ?_ | refine ka ?_ _)); refine blk_far ?_ NB189_193.out _; (with_reducible repeat (first | refine kn ?_ _ | refine kd ?_ | refine ka ?_ _)); exact BK189.out⟩
             have n1_ : Aside0 (((((w39.setCell ⟨gb193, 0, none⟩ (.int .i64 ((rd_T51 l0_3 x38_2).f0))).setCell ⟨gb193, 1, none⟩ (.string ((rd_T51 l0_3 x38_2).f1))).setCell ⟨gb193, 2, none⟩ (.int .i64 ((rd_T51 l0_3 x38_2).f2))).setCell ⟨gb193, 3, none⟩ (.int .i64 ((rd_T51 l0_3 x38_2).f3))).heap[gb193]? = some (.cells #[.int .i64 ((rd_T51 l0_3 x38_2).f0), .string ((rd_T51 l0_3 x38_2).f1), .int .i64 ((rd_T51 l0_3 x38_2).f2), .int .i64 ((rd_T51 l0_3 x38_2).f3)] 51 (0, 0))) := ⟨by (with_reducible repeat (first | refine kn ?_ _ | refine kd ?_ | refine ka ?_ _)); refine blk_put (cs := #[.int .i64 ((rd_T51 l0_3 x38_2).f0), .string ((rd_T51 l0_3 x38_2).f1), .int .i64 ((rd_T51 l0_3 x38_2).f2), .int .i64 0]) ?_ 3 _ rfl; (with_reducible repeat (first | refine kn ?_ _ | refine kd ?_ | refine ka ?_ _)); refine blk_put (cs := #[.int .i64 ((rd_T51 l0_3 x38_2).f0), .string ((rd_T51 l0_3 x38_2).f1), .int .i64 0, .int .i64 0]) ?_ 2 _ rfl; (with_reducible repeat (first | refine kn ?_ _ | refine kd ?_ | refine ka ?_ _)); refine blk_put (cs := #[.int .i64 ((rd_T51 l0_3 x38_2).f0), .string (⟨#[]⟩ : ByteArray), .int .i64 0, .int .i64 0]) ?_ 1 _ rfl; (with_reducible repeat (first | refine kn ?_ _ | refine kd ?_ | refine ka ?_ _)); refine blk_put (cs := #[.int .i64 0, .string (⟨#[]⟩ : ByteArray), .int .i64 0, .int .i64 0]) ?_ 0 _ rfl; (with_reducible repeat (first | refine kn ?_ _ | refine kd ?_ | refine ka ?_ _)); exact BK193.out⟩
             have n2_ : Aside0 (Below w.heap.size w ((((w39.setCell ⟨gb193, 0, none⟩ (.int .i64 ((rd_T51 l0_3 x38_2).f0))).setCell ⟨gb193, 1, none⟩ (.string ((rd_T51 l0_3 x38_2).f1))).setCell ⟨gb193, 2, none⟩ (.int .i64 ((rd_T51 l0_3 x38_2).f2))).setCell ⟨gb193, 3, none⟩ (.int .i64 ((rd_T51 l0_3 x38_2).f3)))) := ⟨by exact bw HB.out⟩
             (try clear BK189)
             (try clear BK193)
             (try clear HB)
             generalize ((((w39.setCell ⟨gb193, 0, none⟩ (.int .i64 ((rd_T51 l0_3 x38_2).f0))).setCell ⟨gb193, 1, none⟩ (.string ((rd_T51 l0_3 x38_2).f1))).setCell ⟨gb193, 2, none⟩ (.int .i64 ((rd_T51 l0_3 x38_2).f2))).setCell ⟨gb193, 3, none⟩ (.int .i64 ((rd_T51 l0_3 x38_2).f3))) = w42 at n0_ n1_ n2_ ⊢
             revert n0_ n1_ n2_; intro BK189 BK193 HB
             have n0_ := am (blk_drew BK189.out)
             have n1_ := am (blk_drew BK193.out)
             have n2_ := am (below_drew1 HB.out)
             clear BK189 BK193 HB
             revert n0_ n1_ n2_; intro BK189 BK193 HB
             refine start_ (n := 57) (S := fun w' => w'.cell? ⟨gb193, 0, none⟩ = some (.int .i64 ((rd_T51 l0_3 x38_2).f0)) ∧ w'.cell? ⟨gb193, 1, none⟩ = some (.string ((rd_T51 l0_3 x38_2).f1)) ∧ w'.cell? ⟨gb193, 2, none⟩ = some (.int .i64 ((rd_T51 l0_3 x38_2).f2)) ∧ w'.cell? ⟨gb193, 3, none⟩ = some (.int .i64 ((rd_T51 l0_3 x38_2).f3)) ∧ w'.cell? ⟨gb189, 0, none⟩ = some (.int .i64 a0_0) ∧ w'.cell? ⟨gb189, 1, none⟩ = some (.slice A0_1 l0_1.length c0_1) ∧ w'.cell? ⟨gb189, 2, none⟩ = some (.slice A0_2 l0_2.length c0_2) ∧ w'.cell? ⟨gb189, 3, none⟩ = some (.slice (some ad192) l0_3.length c0_3)) (ds := []) (mk 57 0) (by kernel_rfl) rfl rfl ⟨(blk_cell BK193.out 0).trans rfl, (blk_cell BK193.out 1).trans rfl, (blk_cell BK193.out 2).trans rfl, (blk_cell BK193.out 3).trans rfl, (blk_cell BK189.out 0).trans rfl, (blk_cell BK189.out 1).trans rfl, (blk_cell BK189.out 2).trans rfl, (blk_cell BK189.out 3).trans rfl⟩ (fun hHeld => ?_); refine with_tabW impl_AutomatonValid.tab6 impl_AutomatonValid.bits6 (fun HT_ HW_ => ?_)
             generalize w42.drew = w43 at BK189 BK193 HB hHeld ⊢
             refine pv 0 43 57 1 HT_ ?_
             refine take_ (i := 1) (N := some 44) (v := ?_) (a' := ?_) (mk 57 3) rfl rfl (take_ofW HT_.out HW_.out (by kernel_rfl)) (fun _ _ _ h => h) (Or.inl ⟨by rfl, ?_⟩) hHeld ?_ ?_
             rotate_left
             ·rintro w' ⟨s0, s1, s2, s3, s4, s5, s6, s7⟩
              go_simp
              with_reducible rfl
             rotate_left
             ·simp only [Act.put, List.setIfInBounds_toArray, List.set_cons_zero, List.set_cons_succ, i64_w, i32_w]
              rfl
             refine pv 2 45 57 7 HT_ ?_
             refine pv 3 46 57 15 HT_ ?_
             refine pv 4 47 57 31 HT_ ?_
             refine pv 6 49 57 95 HT_ ?_
             refine take_ (i := 5) (N := some 48) (v := ?_) (a' := ?_) (mk 57 127) rfl rfl (take_ofW HT_.out HW_.out (by kernel_rfl)) (fun _ _ _ h => h) (Or.inl ⟨by rfl, ?_⟩) hHeld ?_ ?_
             rotate_left
             ·rintro w' ⟨s0, s1, s2, s3, s4, s5, s6, s7⟩
              go_simp
              with_reducible rfl
             rotate_left
             ·simp only [Act.put, List.setIfInBounds_toArray, List.set_cons_zero, List.set_cons_succ, i64_w, i32_w]
              rfl
             refine take_ (i := 7) (N := some 50) (v := ?_) (a' := ?_) (mk 57 255) rfl rfl (take_ofW HT_.out HW_.out (by kernel_rfl)) (fun _ _ _ h => h) (Or.inl ⟨by rfl, ?_⟩) hHeld ?_ ?_
             rotate_left
             ·rintro w' ⟨s0, s1, s2, s3, s4, s5, s6, s7⟩
              go_simp
              with_reducible rfl
             rotate_left
             ·simp only [Act.put, List.setIfInBounds_toArray, List.set_cons_zero, List.set_cons_succ, i64_w, i32_w]
              rfl
             refine pv 8 51 57 511 HT_ ?_
             refine pv 9 52 57 1023 HT_ ?_
             refine pv 10 53 57 2047 HT_ ?_
             refine pv 11 54 57 4095 HT_ ?_
             refine take_ (i := 12) (N := some 55) (v := ?_) (a' := ?_) (mk 57 8191) rfl rfl (take_ofW HT_.out HW_.out (by kernel_rfl)) (fun _ _ _ h => h) (Or.inl ⟨by rfl, ?_⟩) hHeld ?_ ?_
             rotate_left
             ·rintro w' ⟨s0, s1, s2, s3, s4, s5, s6, s7⟩
              go_simp
              with_reducible rfl
             rotate_left
             ·simp only [Act.put, List.setIfInBounds_toArray, List.set_cons_zero, List.set_cons_succ, i64_w, i32_w]
              rfl
             refine pv 13 56 57 16383 HT_ ?_
             refine pv 14 57 57 32767 HT_ ?_
             refine pv 15 58 57 65535 HT_ ?_
             refine pv 16 59 57 131071 HT_ ?_
             refine pv 18 61 57 393215 HT_ ?_
             refine take_ (i := 17) (N := some 60) (v := ?_) (a' := ?_) (mk 57 524287) rfl rfl (take_ofW HT_.out HW_.out (by kernel_rfl)) (fun _ _ _ h => h) (Or.inl ⟨by rfl, ?_⟩) hHeld ?_ ?_
             rotate_left
             ·rintro w' ⟨s0, s1, s2, s3, s4, s5, s6, s7⟩
              go_simp
              with_reducible rfl
             rotate_left
             ·simp only [Act.put, List.setIfInBounds_toArray, List.set_cons_zero, List.set_cons_succ, i64_w, i32_w]
              rfl
             refine take_ (i := 19) (N := some 62) (v := ?_) (a' := ?_) (mk 57 1048575) rfl rfl (take_ofW HT_.out HW_.out (by kernel_rfl)) (fun _ _ _ h => h) (Or.inl ⟨by rfl, ?_⟩) hHeld ?_ ?_
             rotate_left
             ·rintro w' ⟨s0, s1, s2, s3, s4, s5, s6, s7⟩
              go_simp
              with_reducible rfl
             rotate_left
             ·simp only [Act.put, List.setIfInBounds_toArray, List.set_cons_zero, List.set_cons_succ, i64_w, i32_w]
              rfl
             refine pv 20 63 57 2097151 HT_ ?_
             refine pv 21 64 57 4194303 HT_ ?_
             refine pv 22 65 57 8388607 HT_ ?_
             refine pu 23 66 57 16777215 HT_ ?_
             refine pu 24 67 57 33554431 HT_ ?_
             refine pu 25 68 57 67108863 HT_ ?_
             refine pu 26 69 57 134217727 HT_ ?_
             refine pu 27 70 57 268435455 HT_ ?_
             refine pu 28 71 57 536870911 HT_ ?_
             refine pu 29 72 57 1073741823 HT_ ?_
             refine pu 30 73 57 2147483647 HT_ ?_
             refine pv 31 74 57 4294967295 HT_ ?_
             refine pv 32 75 57 8589934591 HT_ ?_
             refine pu 33 76 57 17179869183 HT_ ?_
             refine pu 34 77 57 34359738367 HT_ ?_
             refine pu 35 78 57 68719476735 HT_ ?_
             refine pv 36 79 57 137438953471 HT_ ?_
             refine pv 37 80 57 274877906943 HT_ ?_
             refine pu 38 81 57 549755813887 HT_ ?_
             refine pu 39 82 57 1099511627775 HT_ ?_
             refine pu 40 83 57 2199023255551 HT_ ?_
             refine pv 41 84 57 4398046511103 HT_ ?_
             refine pv 42 85 57 8796093022207 HT_ ?_
             refine pu 43 86 57 17592186044415 HT_ ?_
             refine pu 44 87 57 35184372088831 HT_ ?_
             refine pu 45 88 57 70368744177663 HT_ ?_
             refine pu 46 89 57 140737488355327 HT_ ?_
             refine pu 47 90 57 281474976710655 HT_ ?_
             refine pu 48 91 57 562949953421311 HT_ ?_
             refine pu 49 92 57 1125899906842623 HT_ ?_
             refine pu 50 93 57 2251799813685247 HT_ ?_
             refine pu 51 94 57 4503599627370495 HT_ ?_
             refine pu 52 95 57 9007199254740991 HT_ ?_
             refine pu 53 96 57 18014398509481983 HT_ ?_
             refine pu 54 97 57 36028797018963967 HT_ ?_
             refine pu 55 98 57 72057594037927935 HT_ ?_
             refine pv 56 99 57 144115188075855871 HT_ ?_
             refine done_ (done_of HT_.out (by kernel_rfl)) ?_
             try go_wp2
             go_ret
             exact ⟨by first | rfl | (simp [errW_none, errW_some] <;> rfl) | (simp [*, errW_none, errW_some] <;> rfl), by exact bw HB.out⟩
            ·rw [if_neg c38] at H
             have c38b0 : decide (a0_0 ≤ ((rd_T51 l0_3 x38_2).f2)) = false := decide_eq_false c38
             clear c38
             by_cases c44 : ((rd_T51 l0_3 x38_2).f1).toList = ([97] : List UInt8)
             ·rw [if_pos c44] at H
              have c44b0 : (((rd_T51 l0_3 x38_2).f1).toList == ([97] : List UInt8)) = true := beq_iff_eq.mpr c44
              have c44b1 : (((rd_T51 l0_3 x38_2).f1).toList != ([97] : List UInt8)) = false := bne_eq_false_iff_eq.mpr c44
              clear c44
              by_cases c45 : ((rd_T51 l0_3 x38_2).f3) < 0
              ·rw [if_pos c45] at H
               have c45b0 : decide (((rd_T51 l0_3 x38_2).f3) < 0) = true := decide_eq_true c45
               clear c45
               obtain rfl := Option.some.inj H
               have p192 : 0 ≤ (x38_2 : Int) := of_decide_eq_true (by first | (with_reducible assumption) | assumption)
               have q192 : x38_2 < (l0_3.length : Int) := of_decide_eq_true (by first | (with_reducible assumption) | assumption)
               obtain ⟨ad192, e192, hx192_0, hx192_1, hx192_2, hx192_3⟩ := at_T51 HR0_3.out x38_2 p192 q192
               cases e192
               replace hx192_0 := (HB.out.cell (World.block_lt_of_cell? w _ hx192_0)).trans hx192_0
               replace hx192_1 := (HB.out.cell (World.block_lt_of_cell? w _ hx192_1)).trans hx192_1
               replace hx192_2 := (HB.out.cell (World.block_lt_of_cell? w _ hx192_2)).trans hx192_2
               replace hx192_3 := (HB.out.cell (World.block_lt_of_cell? w _ hx192_3)).trans hx192_3
               replace p192 := eq_true p192
               replace q192 := eq_true q192
               try go_wp2_with (first | ((with_reducible refine gate_dst (N := 4) rfl ?_); (try (refine gate_guard (by rfl) ?_; dsimp only)); refine box_event ?hg (N := 4) ?hd (cs := #[.int .i64 0, .string (⟨#[]⟩ : ByteArray), .int .i64 0, .int .i64 0]) (t := 51) ?hr ?_; (case hd => rfl); (case hg => rfl); (case hr => first | (go_simp; done) | (go_simp; rfl)); intro gb193 hg w46 hbox hb; have n0_ := bk BK189 hb; have n1_ := am (below_step (bw HB.out) hb); have n2_ := am (hbox); have n3_ := am ((by rw [hg]; exact (below_size (bw HB.out)) : w.heap.size ≤ gb193)); have n4_ := am ((by rw [hg]; exact (below_size (bw HB.out)) : w.heap.size ≤ gb193)); have n5_ := am ((by rw [hg]; exact Nat.ne_of_lt (blk_lt (kz BK189.out)) : gb189 ≠ gb193)); have n6_ := am ((by rw [hg]; exact Nat.ne_of_gt (blk_lt (kz BK189.out)) : gb193 ≠ gb189)); clear BK189 HB; revert n0_ n1_ n2_ n3_ n4_ n5_ n6_; intro BK189 HB BK193 GW193 GE193 NB189_193 NB193_189; clear hb hbox hg; have hnb47 := NB193_189.out; have hnc47 := NB189_193.out; have hcz48_0 := cz40 BK193.out; have hcz48_1 := cz41 BK193.out; have hcz48_2 := cz42 BK193.out; have hcz48_3 := cz43 BK193.out; have hfz48_0 := blk_frozen BK193.out 0; have hfz48_1 := blk_frozen BK193.out 1; have hfz48_2 := blk_frozen BK193.out 2; have hfz48_3 := blk_frozen BK193.out 3))
               have n0_ : Aside0 (((((w46.setCell ⟨gb193, 0, none⟩ (.int .i64 ((rd_T51 l0_3 x38_2).f0))).setCell ⟨gb193, 1, none⟩ (.string ((rd_T51 l0_3 x38_2).f1))).setCell ⟨gb193, 2, none⟩ (.int .i64 ((rd_T51 l0_3 x38_2).f2))).setCell ⟨gb193, 3, none⟩ (.int .i64 ((rd_T51 l0_3 x38_2).f3))).heap[gb189]? = some (.cells #[.int .i64 a0_0, .slice A0_1 l0_1.length c0_1, .slice A0_2 l0_2.length c0_2, .slice (some ad192) l0_3.length c0_3] 30 (0, 0))) := ⟨by (with_reducible repeat (first | refine kn ?_ _ | refine kd ?_ | refine ka ?_ _)); refine blk_far ?_ NB189_193.out _; (with_reducible repeat (first | refine kn ?_ _ | refine kd ?_ | refine ka ?_ _)); refine blk_far ?_ NB189_193.out _; (with_reducible repeat (first | refine kn ?_ _ | refine kd ?_ | refine ka ?_ _)); refine blk_far ?_ NB189_193.out _; (with_reducible repeat (first | refine kn ?_ _ | refine kd ?_ | refine ka ?_ _)); refine blk_far ?_ NB189_193.out _; (with_reducible repeat (first | refine kn ?_ _ | refine kd ?_ | refine ka ?_ _)); exact BK189.out⟩
               have n1_ : Aside0 (((((w46.setCell ⟨gb193, 0, none⟩ (.int .i64 ((rd_T51 l0_3 x38_2).f0))).setCell ⟨gb193, 1, none⟩ (.string ((rd_T51 l0_3 x38_2).f1))).setCell ⟨gb193, 2, none⟩ (.int .i64 ((rd_T51 l0_3 x38_2).f2))).setCell ⟨gb193, 3, none⟩ (.int .i64 ((rd_T51 l0_3 x38_2).f3))).heap[gb193]? = some (.cells #[.int .i64 ((rd_T51 l0_3 x38_2).f0), .string ((rd_T51 l0_3 x38_2).f1), .int .i64 ((rd_T51 l0_3 x38_2).f2), .int .i64 ((rd_T51 l0_3 x38_2).f3)] 51 (0, 0))) := ⟨by (with_reducible repeat (first | refine kn ?_ _ | refine kd ?_ | refine ka ?_ _)); refine blk_put (cs := #[.int .i64 ((rd_T51 l0_3 x38_2).f0), .string ((rd_T51 l0_3 x38_2).f1), .int .i64 ((rd_T51 l0_3 x38_2).f2), .int .i64 0]) ?_ 3 _ rfl; (with_reducible repeat (first | refine kn ?_ _ | refine kd ?_ | refine ka ?_ _)); refine blk_put (cs := #[.int .i64 ((rd_T51 l0_3 x38_2).f0), .string ((rd_T51 l0_3 x38_2).f1), .int .i64 0, .int .i64 0]) ?_ 2 _ rfl; (with_reducible repeat (first | refine kn ?_ _ | refine kd ?_ | refine ka ?_ _)); refine blk_put (cs := #[.int .i64 ((rd_T51 l0_3 x38_2).f0), .string (⟨#[]⟩ : ByteArray), .int .i64 0, .int .i64 0]) ?_ 1 _ rfl; (with_reducible repeat (first | refine kn ?_ _ | refine kd ?_ | refine ka ?_ _)); refine blk_put (cs := #[.int .i64 0, .string (⟨#[]⟩ : ByteArray), .int .i64 0, .int .i64 0]) ?_ 0 _ rfl; (with_reducible repeat (first | refine kn ?_ _ | refine kd ?_ | refine ka ?_ _)); exact BK193.out⟩
               have n2_ : Aside0 (Below w.heap.size w ((((w46.setCell ⟨gb193, 0, none⟩ (.int .i64 ((rd_T51 l0_3 x38_2).f0))).setCell ⟨gb193, 1, none⟩ (.string ((rd_T51 l0_3 x38_2).f1))).setCell ⟨gb193, 2, none⟩ (.int .i64 ((rd_T51 l0_3 x38_2).f2))).setCell ⟨gb193, 3, none⟩ (.int .i64 ((rd_T51 l0_3 x38_2).f3)))) := ⟨by exact bw HB.out⟩
               (try clear BK189)
               (try clear BK193)
               (try clear HB)
               generalize ((((w46.setCell ⟨gb193, 0, none⟩ (.int .i64 ((rd_T51 l0_3 x38_2).f0))).setCell ⟨gb193, 1, none⟩ (.string ((rd_T51 l0_3 x38_2).f1))).setCell ⟨gb193, 2, none⟩ (.int .i64 ((rd_T51 l0_3 x38_2).f2))).setCell ⟨gb193, 3, none⟩ (.int .i64 ((rd_T51 l0_3 x38_2).f3))) = w49 at n0_ n1_ n2_ ⊢
               revert n0_ n1_ n2_; intro BK189 BK193 HB
               have n0_ := am (blk_drew BK189.out)
               have n1_ := am (blk_drew BK193.out)
               have n2_ := am (below_drew1 HB.out)
               clear BK189 BK193 HB
               revert n0_ n1_ n2_; intro BK189 BK193 HB
               refine start_ (n := 57) (S := fun w' => w'.cell? ⟨gb193, 0, none⟩ = some (.int .i64 ((rd_T51 l0_3 x38_2).f0)) ∧ w'.cell? ⟨gb193, 1, none⟩ = some (.string ((rd_T51 l0_3 x38_2).f1)) ∧ w'.cell? ⟨gb193, 2, none⟩ = some (.int .i64 ((rd_T51 l0_3 x38_2).f2)) ∧ w'.cell? ⟨gb193, 3, none⟩ = some (.int .i64 ((rd_T51 l0_3 x38_2).f3)) ∧ w'.cell? ⟨gb189, 0, none⟩ = some (.int .i64 a0_0) ∧ w'.cell? ⟨gb189, 1, none⟩ = some (.slice A0_1 l0_1.length c0_1) ∧ w'.cell? ⟨gb189, 2, none⟩ = some (.slice A0_2 l0_2.length c0_2) ∧ w'.cell? ⟨gb189, 3, none⟩ = some (.slice (some ad192) l0_3.length c0_3)) (ds := []) (mk 57 0) (by kernel_rfl) rfl rfl ⟨(blk_cell BK193.out 0).trans rfl, (blk_cell BK193.out 1).trans rfl, (blk_cell BK193.out 2).trans rfl, (blk_cell BK193.out 3).trans rfl, (blk_cell BK189.out 0).trans rfl, (blk_cell BK189.out 1).trans rfl, (blk_cell BK189.out 2).trans rfl, (blk_cell BK189.out 3).trans rfl⟩ (fun hHeld => ?_); refine with_tabW impl_AutomatonValid.tab6 impl_AutomatonValid.bits6 (fun HT_ HW_ => ?_)
               generalize w49.drew = w50 at BK189 BK193 HB hHeld ⊢
               refine pv 0 43 57 1 HT_ ?_
               refine take_ (i := 1) (N := some 44) (v := ?_) (a' := ?_) (mk 57 3) rfl rfl (take_ofW HT_.out HW_.out (by kernel_rfl)) (fun _ _ _ h => h) (Or.inl ⟨by rfl, ?_⟩) hHeld ?_ ?_
               rotate_left
               ·rintro w' ⟨s0, s1, s2, s3, s4, s5, s6, s7⟩
                go_simp
                with_reducible rfl
               rotate_left
               ·simp only [Act.put, List.setIfInBounds_toArray, List.set_cons_zero, List.set_cons_succ, i64_w, i32_w]
                rfl
               refine pv 2 45 57 7 HT_ ?_
               refine pv 3 46 57 15 HT_ ?_
               refine pv 4 47 57 31 HT_ ?_
               refine pv 6 49 57 95 HT_ ?_
               refine take_ (i := 5) (N := some 48) (v := ?_) (a' := ?_) (mk 57 127) rfl rfl (take_ofW HT_.out HW_.out (by kernel_rfl)) (fun _ _ _ h => h) (Or.inl ⟨by rfl, ?_⟩) hHeld ?_ ?_
               rotate_left
               ·rintro w' ⟨s0, s1, s2, s3, s4, s5, s6, s7⟩
                go_simp
                with_reducible rfl
               rotate_left
               ·simp only [Act.put, List.setIfInBounds_toArray, List.set_cons_zero, List.set_cons_succ, i64_w, i32_w]
                rfl
               refine take_ (i := 7) (N := some 50) (v := ?_) (a' := ?_) (mk 57 255) rfl rfl (take_ofW HT_.out HW_.out (by kernel_rfl)) (fun _ _ _ h => h) (Or.inl ⟨by rfl, ?_⟩) hHeld ?_ ?_
               rotate_left
               ·rintro w' ⟨s0, s1, s2, s3, s4, s5, s6, s7⟩
                go_simp
                with_reducible rfl
               rotate_left
               ·simp only [Act.put, List.setIfInBounds_toArray, List.set_cons_zero, List.set_cons_succ, i64_w, i32_w]
                rfl
               refine pv 8 51 57 511 HT_ ?_
               refine pv 9 52 57 1023 HT_ ?_
               refine pv 10 53 57 2047 HT_ ?_
               refine pv 11 54 57 4095 HT_ ?_
               refine take_ (i := 12) (N := some 55) (v := ?_) (a' := ?_) (mk 57 8191) rfl rfl (take_ofW HT_.out HW_.out (by kernel_rfl)) (fun _ _ _ h => h) (Or.inl ⟨by rfl, ?_⟩) hHeld ?_ ?_
               rotate_left
               ·rintro w' ⟨s0, s1, s2, s3, s4, s5, s6, s7⟩
                go_simp
                with_reducible rfl
               rotate_left
               ·simp only [Act.put, List.setIfInBounds_toArray, List.set_cons_zero, List.set_cons_succ, i64_w, i32_w]
                rfl
               refine pv 13 56 57 16383 HT_ ?_
               refine pv 14 57 57 32767 HT_ ?_
               refine pv 15 58 57 65535 HT_ ?_
               refine pv 16 59 57 131071 HT_ ?_
               refine pv 18 61 57 393215 HT_ ?_
               refine take_ (i := 17) (N := some 60) (v := ?_) (a' := ?_) (mk 57 524287) rfl rfl (take_ofW HT_.out HW_.out (by kernel_rfl)) (fun _ _ _ h => h) (Or.inl ⟨by rfl, ?_⟩) hHeld ?_ ?_
               rotate_left
               ·rintro w' ⟨s0, s1, s2, s3, s4, s5, s6, s7⟩
                go_simp
                with_reducible rfl
               rotate_left
               ·simp only [Act.put, List.setIfInBounds_toArray, List.set_cons_zero, List.set_cons_succ, i64_w, i32_w]
                rfl
               refine take_ (i := 19) (N := some 62) (v := ?_) (a' := ?_) (mk 57 1048575) rfl rfl (take_ofW HT_.out HW_.out (by kernel_rfl)) (fun _ _ _ h => h) (Or.inl ⟨by rfl, ?_⟩) hHeld ?_ ?_
               rotate_left
               ·rintro w' ⟨s0, s1, s2, s3, s4, s5, s6, s7⟩
                go_simp
                with_reducible rfl
               rotate_left
               ·simp only [Act.put, List.setIfInBounds_toArray, List.set_cons_zero, List.set_cons_succ, i64_w, i32_w]
                rfl
               refine pv 20 63 57 2097151 HT_ ?_
               refine pv 21 64 57 4194303 HT_ ?_
               refine pv 22 65 57 8388607 HT_ ?_
               refine pv 23 66 57 16777215 HT_ ?_
               refine take_ (i := 24) (N := some 67) (v := ?_) (a' := ?_) (mk 57 33554431) rfl rfl (take_ofW HT_.out HW_.out (by kernel_rfl)) (fun _ _ _ h => h) (Or.inl ⟨by rfl, ?_⟩) hHeld ?_ ?_
               rotate_left
               ·rintro w' ⟨s0, s1, s2, s3, s4, s5, s6, s7⟩
                go_simp
                with_reducible rfl
               rotate_left
               ·simp only [Act.put, List.setIfInBounds_toArray, List.set_cons_zero, List.set_cons_succ, i64_w, i32_w]
                rfl
               refine pv 25 68 57 67108863 HT_ ?_
               refine pv 26 69 57 134217727 HT_ ?_
               refine pu 27 70 57 268435455 HT_ ?_
               refine pu 28 71 57 536870911 HT_ ?_
               refine pu 29 72 57 1073741823 HT_ ?_
               refine pv 30 73 57 2147483647 HT_ ?_
               refine pv 31 74 57 4294967295 HT_ ?_
               refine pv 32 75 57 8589934591 HT_ ?_
               refine pv 33 76 57 17179869183 HT_ ?_
               refine take_ (i := 34) (N := some 77) (v := ?_) (a' := ?_) (mk 57 34359738367) rfl rfl (take_ofW HT_.out HW_.out (by kernel_rfl)) (fun _ _ _ h => h) (Or.inl ⟨by rfl, ?_⟩) hHeld ?_ ?_
               rotate_left
               ·rintro w' ⟨s0, s1, s2, s3, s4, s5, s6, s7⟩
                go_simp
                with_reducible rfl
               rotate_left
               ·simp only [Act.put, List.setIfInBounds_toArray, List.set_cons_zero, List.set_cons_succ, i64_w, i32_w]
                rfl
               refine pv 35 78 57 68719476735 HT_ ?_
               refine pv 36 79 57 137438953471 HT_ ?_
               refine pv 37 80 57 274877906943 HT_ ?_
               refine pu 38 81 57 549755813887 HT_ ?_
               refine pu 39 82 57 1099511627775 HT_ ?_
               refine pu 40 83 57 2199023255551 HT_ ?_
               refine pv 41 84 57 4398046511103 HT_ ?_
               refine pv 42 85 57 8796093022207 HT_ ?_
               refine pu 43 86 57 17592186044415 HT_ ?_
               refine pu 44 87 57 35184372088831 HT_ ?_
               refine pu 45 88 57 70368744177663 HT_ ?_
               refine pu 46 89 57 140737488355327 HT_ ?_
               refine pu 47 90 57 281474976710655 HT_ ?_
               refine pu 48 91 57 562949953421311 HT_ ?_
               refine pu 49 92 57 1125899906842623 HT_ ?_
               refine pu 50 93 57 2251799813685247 HT_ ?_
               refine pu 51 94 57 4503599627370495 HT_ ?_
               refine pu 52 95 57 9007199254740991 HT_ ?_
               refine pu 53 96 57 18014398509481983 HT_ ?_
               refine pu 54 97 57 36028797018963967 HT_ ?_
               refine pu 55 98 57 72057594037927935 HT_ ?_
               refine pv 56 99 57 144115188075855871 HT_ ?_
               refine done_ (done_of HT_.out (by kernel_rfl)) ?_
               try go_wp2
               go_ret
               exact ⟨by first | rfl | (simp [errW_none, errW_some] <;> rfl) | (simp [*, errW_none, errW_some] <;> rfl), by exact bw HB.out⟩
              ·rw [if_neg c45] at H
               have c45b0 : decide (((rd_T51 l0_3 x38_2).f3) < 0) = false := decide_eq_false c45
               clear c45
               by_cases c51 : ((rd_T51 l0_3 x38_2).f3) > 3
               ·rw [if_pos c51] at H
                have c51b0 : decide (3 < ((rd_T51 l0_3 x38_2).f3)) = true := decide_eq_true c51
                clear c51
                obtain rfl := Option.some.inj H
                have p192 : 0 ≤ (x38_2 : Int) := of_decide_eq_true (by first | (with_reducible assumption) | assumption)
                have q192 : x38_2 < (l0_3.length : Int) := of_decide_eq_true (by first | (with_reducible assumption) | assumption)
                obtain ⟨ad192, e192, hx192_0, hx192_1, hx192_2, hx192_3⟩ := at_T51 HR0_3.out x38_2 p192 q192
                cases e192
                replace hx192_0 := (HB.out.cell (World.block_lt_of_cell? w _ hx192_0)).trans hx192_0
                replace hx192_1 := (HB.out.cell (World.block_lt_of_cell? w _ hx192_1)).trans hx192_1
                replace hx192_2 := (HB.out.cell (World.block_lt_of_cell? w _ hx192_2)).trans hx192_2
                replace hx192_3 := (HB.out.cell (World.block_lt_of_cell? w _ hx192_3)).trans hx192_3
                replace p192 := eq_true p192
                replace q192 := eq_true q192
                try go_wp2_with (first | ((with_reducible refine gate_dst (N := 4) rfl ?_); (try (refine gate_guard (by rfl) ?_; dsimp only)); refine box_event ?hg (N := 4) ?hd (cs := #[.int .i64 0, .string (⟨#[]⟩ : ByteArray), .int .i64 0, .int .i64 0]) (t := 51) ?hr ?_; (case hd => rfl); (case hg => rfl); (case hr => first | (go_simp; done) | (go_simp; rfl)); intro gb193 hg w52 hbox hb; have n0_ := bk BK189 hb; have n1_ := am (below_step (bw HB.out) hb); have n2_ := am (hbox); have n3_ := am ((by rw [hg]; exact (below_size (bw HB.out)) : w.heap.size ≤ gb193)); have n4_ := am ((by rw [hg]; exact (below_size (bw HB.out)) : w.heap.size ≤ gb193)); have n5_ := am ((by rw [hg]; exact Nat.ne_of_lt (blk_lt (kz BK189.out)) : gb189 ≠ gb193)); have n6_ := am ((by rw [hg]; exact Nat.ne_of_gt (blk_lt (kz BK189.out)) : gb193 ≠ gb189)); clear BK189 HB; revert n0_ n1_ n2_ n3_ n4_ n5_ n6_; intro BK189 HB BK193 GW193 GE193 NB189_193 NB193_189; clear hb hbox hg; have hnb53 := NB193_189.out; have hnc53 := NB189_193.out; have hcz54_0 := cz40 BK193.out; have hcz54_1 := cz41 BK193.out; have hcz54_2 := cz42 BK193.out; have hcz54_3 := cz43 BK193.out; have hfz54_0 := blk_frozen BK193.out 0; have hfz54_1 := blk_frozen BK193.out 1; have hfz54_2 := blk_frozen BK193.out 2; have hfz54_3 := blk_frozen BK193.out 3))
                have n0_ : Aside0 (((((w52.setCell ⟨gb193, 0, none⟩ (.int .i64 ((rd_T51 l0_3 x38_2).f0))).setCell ⟨gb193, 1, none⟩ (.string ((rd_T51 l0_3 x38_2).f1))).setCell ⟨gb193, 2, none⟩ (.int .i64 ((rd_T51 l0_3 x38_2).f2))).setCell ⟨gb193, 3, none⟩ (.int .i64 ((rd_T51 l0_3 x38_2).f3))).heap[gb189]? = some (.cells #[.int .i64 a0_0, .slice A0_1 l0_1.length c0_1, .slice A0_2 l0_2.length c0_2, .slice (some ad192) l0_3.length c0_3] 30 (0, 0))) := ⟨by (with_reducible repeat (first | refine kn ?_ _ | refine kd ?_ | refine ka ?_ _)); refine blk_far ?_ NB189_193.out _; (with_reducible repeat (first | refine kn ?_ _ | refine kd ?_ | refine ka ?_ _)); refine blk_far ?_ NB189_193.out _; (with_reducible repeat (first | refine kn ?_ _ | refine kd ?_ | refine ka ?_ _)); refine blk_far ?_ NB189_193.out _; (with_reducible repeat (first | refine kn ?_ _ | refine kd ?_ | refine ka ?_ _)); refine blk_far ?_ NB189_193.out _; (with_reducible repeat (first | refine kn ?_ _ | refine kd ?_ | refine ka ?_ _)); exact BK189.out⟩
                have n1_ : Aside0 (((((w52.setCell ⟨gb193, 0, none⟩ (.int .i64 ((rd_T51 l0_3 x38_2).f0))).setCell ⟨gb193, 1, none⟩ (.string ((rd_T51 l0_3 x38_2).f1))).setCell ⟨gb193, 2, none⟩ (.int .i64 ((rd_T51 l0_3 x38_2).f2))).setCell ⟨gb193, 3, none⟩ (.int .i64 ((rd_T51 l0_3 x38_2).f3))).heap[gb193]? = some (.cells #[.int .i64 ((rd_T51 l0_3 x38_2).f0), .string ((rd_T51 l0_3 x38_2).f1), .int .i64 ((rd_T51 l0_3 x38_2).f2), .int .i64 ((rd_T51 l0_3 x38_2).f3)] 51 (0, 0))) := ⟨by (with_reducible repeat (first | refine kn ?_ _ | refine kd ?_ | refine ka ?_ _)); refine blk_put (cs := #[.int .i64 ((rd_T51 l0_3 x38_2).f0), .string ((rd_T51 l0_3 x38_2).f1), .int .i64 ((rd_T51 l0_3 x38_2).f2), .int .i64 0]) ?_ 3 _ rfl; (with_reducible repeat (first | refine kn ?_ _ | refine kd ?_ | refine ka ?_ _)); refine blk_put (cs := #[.int .i64 ((rd_T51 l0_3 x38_2).f0), .string ((rd_T51 l0_3 x38_2).f1), .int .i64 0, .int .i64 0]) ?_ 2 _ rfl; (with_reducible repeat (first | refine kn ?_ _ | refine kd ?_ | refine ka ?_ _)); refine blk_put (cs := #[.int .i64 ((rd_T51 l0_3 x38_2).f0), .string (⟨#[]⟩ : ByteArray), .int .i64 0, .int .i64 0]) ?_ 1 _ rfl; (with_reducible repeat (first | refine kn ?_ _ | refine kd ?_ | refine ka ?_ _)); refine blk_put (cs := #[.int .i64 0, .string (⟨#[]⟩ : ByteArray), .int .i64 0, .int .i64 0]) ?_ 0 _ rfl; (with_reducible repeat (first | refine kn ?_ _ | refine kd ?_ | refine ka ?_ _)); exact BK193.out⟩
                have n2_ : Aside0 (Below w.heap.size w ((((w52.setCell ⟨gb193, 0, none⟩ (.int .i64 ((rd_T51 l0_3 x38_2).f0))).setCell ⟨gb193, 1, none⟩ (.string ((rd_T51 l0_3 x38_2).f1))).setCell ⟨gb193, 2, none⟩ (.int .i64 ((rd_T51 l0_3 x38_2).f2))).setCell ⟨gb193, 3, none⟩ (.int .i64 ((rd_T51 l0_3 x38_2).f3)))) := ⟨by exact bw HB.out⟩
                (try clear BK189)
                (try clear BK193)
                (try clear HB)
                generalize ((((w52.setCell ⟨gb193, 0, none⟩ (.int .i64 ((rd_T51 l0_3 x38_2).f0))).setCell ⟨gb193, 1, none⟩ (.string ((rd_T51 l0_3 x38_2).f1))).setCell ⟨gb193, 2, none⟩ (.int .i64 ((rd_T51 l0_3 x38_2).f2))).setCell ⟨gb193, 3, none⟩ (.int .i64 ((rd_T51 l0_3 x38_2).f3))) = w55 at n0_ n1_ n2_ ⊢
                revert n0_ n1_ n2_; intro BK189 BK193 HB
                have n0_ := am (blk_drew BK189.out)
                have n1_ := am (blk_drew BK193.out)
                have n2_ := am (below_drew1 HB.out)
                clear BK189 BK193 HB
                revert n0_ n1_ n2_; intro BK189 BK193 HB
                refine start_ (n := 57) (S := fun w' => w'.cell? ⟨gb193, 0, none⟩ = some (.int .i64 ((rd_T51 l0_3 x38_2).f0)) ∧ w'.cell? ⟨gb193, 1, none⟩ = some (.string ((rd_T51 l0_3 x38_2).f1)) ∧ w'.cell? ⟨gb193, 2, none⟩ = some (.int .i64 ((rd_T51 l0_3 x38_2).f2)) ∧ w'.cell? ⟨gb193, 3, none⟩ = some (.int .i64 ((rd_T51 l0_3 x38_2).f3)) ∧ w'.cell? ⟨gb189, 0, none⟩ = some (.int .i64 a0_0) ∧ w'.cell? ⟨gb189, 1, none⟩ = some (.slice A0_1 l0_1.length c0_1) ∧ w'.cell? ⟨gb189, 2, none⟩ = some (.slice A0_2 l0_2.length c0_2) ∧ w'.cell? ⟨gb189, 3, none⟩ = some (.slice (some ad192) l0_3.length c0_3)) (ds := []) (mk 57 0) (by kernel_rfl) rfl rfl ⟨(blk_cell BK193.out 0).trans rfl, (blk_cell BK193.out 1).trans rfl, (blk_cell BK193.out 2).trans rfl, (blk_cell BK193.out 3).trans rfl, (blk_cell BK189.out 0).trans rfl, (blk_cell BK189.out 1).trans rfl, (blk_cell BK189.out 2).trans rfl, (blk_cell BK189.out 3).trans rfl⟩ (fun hHeld => ?_); refine with_tabW impl_AutomatonValid.tab6 impl_AutomatonValid.bits6 (fun HT_ HW_ => ?_)
                generalize w55.drew = w56 at BK189 BK193 HB hHeld ⊢
                refine pv 0 43 57 1 HT_ ?_
                refine take_ (i := 1) (N := some 44) (v := ?_) (a' := ?_) (mk 57 3) rfl rfl (take_ofW HT_.out HW_.out (by kernel_rfl)) (fun _ _ _ h => h) (Or.inl ⟨by rfl, ?_⟩) hHeld ?_ ?_
                rotate_left
                ·rintro w' ⟨s0, s1, s2, s3, s4, s5, s6, s7⟩
                 go_simp
                 with_reducible rfl
                rotate_left
                ·simp only [Act.put, List.setIfInBounds_toArray, List.set_cons_zero, List.set_cons_succ, i64_w, i32_w]
                 rfl
                refine pv 2 45 57 7 HT_ ?_
                refine pv 3 46 57 15 HT_ ?_
                refine pv 4 47 57 31 HT_ ?_
                refine pv 6 49 57 95 HT_ ?_
                refine take_ (i := 5) (N := some 48) (v := ?_) (a' := ?_) (mk 57 127) rfl rfl (take_ofW HT_.out HW_.out (by kernel_rfl)) (fun _ _ _ h => h) (Or.inl ⟨by rfl, ?_⟩) hHeld ?_ ?_
                rotate_left
                ·rintro w' ⟨s0, s1, s2, s3, s4, s5, s6, s7⟩
                 go_simp
                 with_reducible rfl
                rotate_left
                ·simp only [Act.put, List.setIfInBounds_toArray, List.set_cons_zero, List.set_cons_succ, i64_w, i32_w]
                 rfl
                refine take_ (i := 7) (N := some 50) (v := ?_) (a' := ?_) (mk 57 255) rfl rfl (take_ofW HT_.out HW_.out (by kernel_rfl)) (fun _ _ _ h => h) (Or.inl ⟨by rfl, ?_⟩) hHeld ?_ ?_
                rotate_left
                ·rintro w' ⟨s0, s1, s2, s3, s4, s5, s6, s7⟩
                 go_simp
                 with_reducible rfl
                rotate_left
                ·simp only [Act.put, List.setIfInBounds_toArray, List.set_cons_zero, List.set_cons_succ, i64_w, i32_w]
                 rfl
                refine pv 8 51 57 511 HT_ ?_
                refine pv 9 52 57 1023 HT_ ?_
                refine pv 10 53 57 2047 HT_ ?_
                refine pv 11 54 57 4095 HT_ ?_
                refine take_ (i := 12) (N := some 55) (v := ?_) (a' := ?_) (mk 57 8191) rfl rfl (take_ofW HT_.out HW_.out (by kernel_rfl)) (fun _ _ _ h => h) (Or.inl ⟨by rfl, ?_⟩) hHeld ?_ ?_
                rotate_left
                ·rintro w' ⟨s0, s1, s2, s3, s4, s5, s6, s7⟩
                 go_simp
                 with_reducible rfl
                rotate_left
                ·simp only [Act.put, List.setIfInBounds_toArray, List.set_cons_zero, List.set_cons_succ, i64_w, i32_w]
                 rfl
                refine pv 13 56 57 16383 HT_ ?_
                refine pv 14 57 57 32767 HT_ ?_
                refine pv 15 58 57 65535 HT_ ?_
                refine pv 16 59 57 131071 HT_ ?_
                refine pv 18 61 57 393215 HT_ ?_
                refine take_ (i := 17) (N := some 60) (v := ?_) (a' := ?_) (mk 57 524287) rfl rfl (take_ofW HT_.out HW_.out (by kernel_rfl)) (fun _ _ _ h => h) (Or.inl ⟨by rfl, ?_⟩) hHeld ?_ ?_
                rotate_left
                ·rintro w' ⟨s0, s1, s2, s3, s4, s5, s6, s7⟩
                 go_simp
                 with_reducible rfl
                rotate_left
                ·simp only [Act.put, List.setIfInBounds_toArray, List.set_cons_zero, List.set_cons_succ, i64_w, i32_w]
                 rfl
                refine take_ (i := 19) (N := some 62) (v := ?_) (a' := ?_) (mk 57 1048575) rfl rfl (take_ofW HT_.out HW_.out (by kernel_rfl)) (fun _ _ _ h => h) (Or.inl ⟨by rfl, ?_⟩) hHeld ?_ ?_
                rotate_left
                ·rintro w' ⟨s0, s1, s2, s3, s4, s5, s6, s7⟩
                 go_simp
                 with_reducible rfl
                rotate_left
                ·simp only [Act.put, List.setIfInBounds_toArray, List.set_cons_zero, List.set_cons_succ, i64_w, i32_w]
                 rfl
                refine pv 20 63 57 2097151 HT_ ?_
                refine pv 21 64 57 4194303 HT_ ?_
                refine pv 22 65 57 8388607 HT_ ?_
                refine pv 23 66 57 16777215 HT_ ?_
                refine take_ (i := 24) (N := some 67) (v := ?_) (a' := ?_) (mk 57 33554431) rfl rfl (take_ofW HT_.out HW_.out (by kernel_rfl)) (fun _ _ _ h => h) (Or.inl ⟨by rfl, ?_⟩) hHeld ?_ ?_
                rotate_left
                ·rintro w' ⟨s0, s1, s2, s3, s4, s5, s6, s7⟩
                 go_simp
                 with_reducible rfl
                rotate_left
                ·simp only [Act.put, List.setIfInBounds_toArray, List.set_cons_zero, List.set_cons_succ, i64_w, i32_w]
                 rfl
                refine pv 25 68 57 67108863 HT_ ?_
                refine pv 26 69 57 134217727 HT_ ?_
                refine pu 27 70 57 268435455 HT_ ?_
                refine pu 28 71 57 536870911 HT_ ?_
                refine pu 29 72 57 1073741823 HT_ ?_
                refine pv 30 73 57 2147483647 HT_ ?_
                refine pv 31 74 57 4294967295 HT_ ?_
                refine pv 32 75 57 8589934591 HT_ ?_
                refine pv 33 76 57 17179869183 HT_ ?_
                refine take_ (i := 34) (N := some 77) (v := ?_) (a' := ?_) (mk 57 34359738367) rfl rfl (take_ofW HT_.out HW_.out (by kernel_rfl)) (fun _ _ _ h => h) (Or.inl ⟨by rfl, ?_⟩) hHeld ?_ ?_
                rotate_left
                ·rintro w' ⟨s0, s1, s2, s3, s4, s5, s6, s7⟩
                 go_simp
                 with_reducible rfl
                rotate_left
                ·simp only [Act.put, List.setIfInBounds_toArray, List.set_cons_zero, List.set_cons_succ, i64_w, i32_w]
                 rfl
                refine pv 35 78 57 68719476735 HT_ ?_
                refine pv 36 79 57 137438953471 HT_ ?_
                refine pv 37 80 57 274877906943 HT_ ?_
                refine pv 38 81 57 549755813887 HT_ ?_
                refine take_ (i := 39) (N := some 82) (v := ?_) (a' := ?_) (mk 57 1099511627775) rfl rfl (take_ofW HT_.out HW_.out (by kernel_rfl)) (fun _ _ _ h => h) (Or.inl ⟨by rfl, ?_⟩) hHeld ?_ ?_
                rotate_left
                ·rintro w' ⟨s0, s1, s2, s3, s4, s5, s6, s7⟩
                 go_simp
                 with_reducible rfl
                rotate_left
                ·simp only [Act.put, List.setIfInBounds_toArray, List.set_cons_zero, List.set_cons_succ, i64_w, i32_w]
                 rfl
                refine pv 40 83 57 2199023255551 HT_ ?_
                refine pv 41 84 57 4398046511103 HT_ ?_
                refine pv 42 85 57 8796093022207 HT_ ?_
                refine pu 43 86 57 17592186044415 HT_ ?_
                refine pu 44 87 57 35184372088831 HT_ ?_
                refine pu 45 88 57 70368744177663 HT_ ?_
                refine pu 46 89 57 140737488355327 HT_ ?_
                refine pu 47 90 57 281474976710655 HT_ ?_
                refine pu 48 91 57 562949953421311 HT_ ?_
                refine pu 49 92 57 1125899906842623 HT_ ?_
                refine pu 50 93 57 2251799813685247 HT_ ?_
                refine pu 51 94 57 4503599627370495 HT_ ?_
                refine pu 52 95 57 9007199254740991 HT_ ?_
                refine pu 53 96 57 18014398509481983 HT_ ?_
                refine pu 54 97 57 36028797018963967 HT_ ?_
                refine pu 55 98 57 72057594037927935 HT_ ?_
                refine pv 56 99 57 144115188075855871 HT_ ?_
                refine done_ (done_of HT_.out (by kernel_rfl)) ?_
                try go_wp2
                go_ret
                exact ⟨by first | rfl | (simp [errW_none, errW_some] <;> rfl) | (simp [*, errW_none, errW_some] <;> rfl), by exact bw HB.out⟩
               ·rw [if_neg c51] at H
                have c51b0 : decide (3 < ((rd_T51 l0_3 x38_2).f3)) = false := decide_eq_false c51
                clear c51
                by_cases c57 : x38_2 > 0
                ·rw [if_pos c57] at H
                 have c57b0 : decide (0 < x38_2) = true := decide_eq_true c57
                 clear c57
                 obtain ⟨ji58, hji58⟩ : ∃ j_ : Int, (wrap64 (x38_2 - 1)) = j_ := ⟨_, rfl⟩
                 replace H : (if 0 ≤ (ji58) then (if (ji58) < (l0_3.length : Int) then ((impl_stepOrder.f k2 ((rd_T51 l0_3 (ji58)).f0) ((rd_T51 l0_3 (ji58)).f1) ((rd_T51 l0_3 (ji58)).f2) ((rd_T51 l0_3 (ji58)).f3) ((rd_T51 l0_3 x38_2).f0) ((rd_T51 l0_3 x38_2).f1) ((rd_T51 l0_3 x38_2).f2) ((rd_T51 l0_3 x38_2).f3)).bind fun t195 => (if t195 ≥ 0 then (some false) else (impl_AutomatonValid.l0 k2 l0_3 (l0_3.length : Int) (wrap64 (x38_2 + 1)) a0_0 l0_1 l0_2 l0_3))) else (none)) else (none)) = some r := by first | (rw [hji58] at H; exact H) | (simp only [hji58] at H ⊢; exact H)
                 have hji58w : (IntKind.i64.wrap (x38_2 - 1)) = ji58 := (i64_w _).trans hji58
                 by_cases c59 : 0 ≤ (ji58)
                 ·rw [if_pos c59] at H
                  have c59b0 : decide (0 ≤ (ji58)) = true := decide_eq_true c59
                  clear c59
                  by_cases c60 : (ji58) < (l0_3.length : Int)
                  ·rw [if_pos c60] at H
                   have c60b0 : decide ((ji58) < (l0_3.length : Int)) = true := decide_eq_true c60
                   clear c60
                   replace H := Option.bind_eq_some_iff.mp H
                   obtain ⟨t195, A610, H⟩ := H
                   (try dsimp only at H)
                   have A61 := am A610
                   clear A610
                   by_cases c62 : t195 ≥ 0
                   ·rw [if_pos c62] at H
                    have c62b0 : decide (0 ≤ t195) = true := decide_eq_true c62
                    clear c62
                    obtain rfl := Option.some.inj H
                    have p192 : 0 ≤ (x38_2 : Int) := of_decide_eq_true (by first | (with_reducible assumption) | assumption)
                    have q192 : x38_2 < (l0_3.length : Int) := of_decide_eq_true (by first | (with_reducible assumption) | assumption)
                    obtain ⟨ad192, e192, hx192_0, hx192_1, hx192_2, hx192_3⟩ := at_T51 HR0_3.out x38_2 p192 q192
                    cases e192
                    replace hx192_0 := (HB.out.cell (World.block_lt_of_cell? w _ hx192_0)).trans hx192_0
                    replace hx192_1 := (HB.out.cell (World.block_lt_of_cell? w _ hx192_1)).trans hx192_1
                    replace hx192_2 := (HB.out.cell (World.block_lt_of_cell? w _ hx192_2)).trans hx192_2
                    replace hx192_3 := (HB.out.cell (World.block_lt_of_cell? w _ hx192_3)).trans hx192_3
                    replace p192 := eq_true p192
                    replace q192 := eq_true q192
                    try go_wp2_with (first | ((with_reducible refine gate_dst (N := 4) rfl ?_); (try (refine gate_guard (by rfl) ?_; dsimp only)); refine box_event ?hg (N := 4) ?hd (cs := #[.int .i64 0, .string (⟨#[]⟩ : ByteArray), .int .i64 0, .int .i64 0]) (t := 51) ?hr ?_; (case hd => rfl); (case hg => rfl); (case hr => first | (go_simp; done) | (go_simp; rfl)); intro gb193 hg w63 hbox hb; have n0_ := bk BK189 hb; have n1_ := am (below_step (bw HB.out) hb); have n2_ := am (hbox); have n3_ := am ((by rw [hg]; exact (below_size (bw HB.out)) : w.heap.size ≤ gb193)); have n4_ := am ((by rw [hg]; exact (below_size (bw HB.out)) : w.heap.size ≤ gb193)); have n5_ := am ((by rw [hg]; exact Nat.ne_of_lt (blk_lt (kz BK189.out)) : gb189 ≠ gb193)); have n6_ := am ((by rw [hg]; exact Nat.ne_of_gt (blk_lt (kz BK189.out)) : gb193 ≠ gb189)); clear BK189 HB; revert n0_ n1_ n2_ n3_ n4_ n5_ n6_; intro BK189 HB BK193 GW193 GE193 NB189_193 NB193_189; clear hb hbox hg; have hnb64 := NB193_189.out; have hnc64 := NB189_193.out; have hcz65_0 := cz40 BK193.out; have hcz65_1 := cz41 BK193.out; have hcz65_2 := cz42 BK193.out; have hcz65_3 := cz43 BK193.out; have hfz65_0 := blk_frozen BK193.out 0; have hfz65_1 := blk_frozen BK193.out 1; have hfz65_2 := blk_frozen BK193.out 2; have hfz65_3 := blk_frozen BK193.out 3))
                    have n0_ : Aside0 (((((w63.setCell ⟨gb193, 0, none⟩ (.int .i64 ((rd_T51 l0_3 x38_2).f0))).setCell ⟨gb193, 1, none⟩ (.string ((rd_T51 l0_3 x38_2).f1))).setCell ⟨gb193, 2, none⟩ (.int .i64 ((rd_T51 l0_3 x38_2).f2))).setCell ⟨gb193, 3, none⟩ (.int .i64 ((rd_T51 l0_3 x38_2).f3))).heap[gb189]? = some (.cells #[.int .i64 a0_0, .slice A0_1 l0_1.length c0_1, .slice A0_2 l0_2.length c0_2, .slice (some ad192) l0_3.length c0_3] 30 (0, 0))) := ⟨by (with_reducible repeat (first | refine kn ?_ _ | refine kd ?_ | refine ka ?_ _)); refine blk_far ?_ NB189_193.out _; (with_reducible repeat (first | refine kn ?_ _ | refine kd ?_ | refine ka ?_ _)); refine blk_far ?_ NB189_193.out _; (with_reducible repeat (first | refine kn ?_ _ | refine kd ?_ | refine ka ?_ _)); refine blk_far ?_ NB189_193.out _; (with_reducible repeat (first | refine kn ?_ _ | refine kd ?_ | refine ka ?_ _)); refine blk_far ?_ NB189_193.out _; (with_reducible repeat (first | refine kn ?_ _ | refine kd ?_ | refine ka ?_ _)); exact BK189.out⟩
                    have n1_ : Aside0 (((((w63.setCell ⟨gb193, 0, none⟩ (.int .i64 ((rd_T51 l0_3 x38_2).f0))).setCell ⟨gb193, 1, none⟩ (.string ((rd_T51 l0_3 x38_2).f1))).setCell ⟨gb193, 2, none⟩ (.int .i64 ((rd_T51 l0_3 x38_2).f2))).setCell ⟨gb193, 3, none⟩ (.int .i64 ((rd_T51 l0_3 x38_2).f3))).heap[gb193]? = some (.cells #[.int .i64 ((rd_T51 l0_3 x38_2).f0), .string ((rd_T51 l0_3 x38_2).f1), .int .i64 ((rd_T51 l0_3 x38_2).f2), .int .i64 ((rd_T51 l0_3 x38_2).f3)] 51 (0, 0))) := ⟨by (with_reducible repeat (first | refine kn ?_ _ | refine kd ?_ | refine ka ?_ _)); refine blk_put (cs := #[.int .i64 ((rd_T51 l0_3 x38_2).f0), .string ((rd_T51 l0_3 x38_2).f1), .int .i64 ((rd_T51 l0_3 x38_2).f2), .int .i64 0]) ?_ 3 _ rfl; (with_reducible repeat (first | refine kn ?_ _ | refine kd ?_ | refine ka ?_ _)); refine blk_put (cs := #[.int .i64 ((rd_T51 l0_3 x38_2).f0), .string ((rd_T51 l0_3 x38_2).f1), .int .i64 0, .int .i64 0]) ?_ 2 _ rfl; (with_reducible repeat (first | refine kn ?_ _ | refine kd ?_ | refine ka ?_ _)); refine blk_put (cs := #[.int .i64 ((rd_T51 l0_3 x38_2).f0), .string (⟨#[]⟩ : ByteArray), .int .i64 0, .int .i64 0]) ?_ 1 _ rfl; (with_reducible repeat (first | refine kn ?_ _ | refine kd ?_ | refine ka ?_ _)); refine blk_put (cs := #[.int .i64 0, .string (⟨#[]⟩ : ByteArray), .int .i64 0, .int .i64 0]) ?_ 0 _ rfl; (with_reducible repeat (first | refine kn ?_ _ | refine kd ?_ | refine ka ?_ _)); exact BK193.out⟩
                    have n2_ : Aside0 (Below w.heap.size w ((((w63.setCell ⟨gb193, 0, none⟩ (.int .i64 ((rd_T51 l0_3 x38_2).f0))).setCell ⟨gb193, 1, none⟩ (.string ((rd_T51 l0_3 x38_2).f1))).setCell ⟨gb193, 2, none⟩ (.int .i64 ((rd_T51 l0_3 x38_2).f2))).setCell ⟨gb193, 3, none⟩ (.int .i64 ((rd_T51 l0_3 x38_2).f3)))) := ⟨by exact bw HB.out⟩
                    (try clear BK189)
                    (try clear BK193)
                    (try clear HB)
                    generalize ((((w63.setCell ⟨gb193, 0, none⟩ (.int .i64 ((rd_T51 l0_3 x38_2).f0))).setCell ⟨gb193, 1, none⟩ (.string ((rd_T51 l0_3 x38_2).f1))).setCell ⟨gb193, 2, none⟩ (.int .i64 ((rd_T51 l0_3 x38_2).f2))).setCell ⟨gb193, 3, none⟩ (.int .i64 ((rd_T51 l0_3 x38_2).f3))) = w66 at n0_ n1_ n2_ ⊢
                    revert n0_ n1_ n2_; intro BK189 BK193 HB
                    have n0_ := am (blk_drew BK189.out)
                    have n1_ := am (blk_drew BK193.out)
                    have n2_ := am (below_drew1 HB.out)
                    clear BK189 BK193 HB
                    revert n0_ n1_ n2_; intro BK189 BK193 HB
                    have p194 : 0 ≤ ((ji58) : Int) := of_decide_eq_true (by first | (with_reducible assumption) | assumption)
                    have q194 : (ji58) < (l0_3.length : Int) := of_decide_eq_true (by first | (with_reducible assumption) | assumption)
                    obtain ⟨ad194, e194, hx194_0, hx194_1, hx194_2, hx194_3⟩ := at_T51 HR0_3.out (ji58) p194 q194
                    have hw194_3 := hx194_3
                    have hw194_2 := hx194_2
                    have hw194_1 := hx194_1
                    have hw194_0 := hx194_0
                    obtain rfl : ad192 = ad194 := (by injection e194)
                    replace hx194_0 := (HB.out.cell (World.block_lt_of_cell? w _ hx194_0)).trans hx194_0
                    replace hx194_1 := (HB.out.cell (World.block_lt_of_cell? w _ hx194_1)).trans hx194_1
                    replace hx194_2 := (HB.out.cell (World.block_lt_of_cell? w _ hx194_2)).trans hx194_2
                    replace hx194_3 := (HB.out.cell (World.block_lt_of_cell? w _ hx194_3)).trans hx194_3
                    replace p194 := eq_true p194
                    replace q194 := eq_true q194
                    refine start_ (n := 57) (S := fun w' => w'.cell? ⟨gb193, 0, none⟩ = some (.int .i64 ((rd_T51 l0_3 x38_2).f0)) ∧ w'.cell? ⟨gb193, 1, none⟩ = some (.string ((rd_T51 l0_3 x38_2).f1)) ∧ w'.cell? ⟨gb193, 2, none⟩ = some (.int .i64 ((rd_T51 l0_3 x38_2).f2)) ∧ w'.cell? ⟨gb193, 3, none⟩ = some (.int .i64 ((rd_T51 l0_3 x38_2).f3)) ∧ w'.cell? ⟨gb189, 0, none⟩ = some (.int .i64 a0_0) ∧ w'.cell? ⟨gb189, 1, none⟩ = some (.slice A0_1 l0_1.length c0_1) ∧ w'.cell? ⟨gb189, 2, none⟩ = some (.slice A0_2 l0_2.length c0_2) ∧ w'.cell? ⟨gb189, 3, none⟩ = some (.slice (some ad192) l0_3.length c0_3) ∧ w'.cell? (ad192.add (((ji58)).toNat * 4)) = some (.int .i64 ((rd_T51 l0_3 (ji58)).f0)) ∧ w'.cell? ⟨(ad192.add (((ji58)).toNat * 4)).block, (ad192.add (((ji58)).toNat * 4)).off + 1, none⟩ = some (.string ((rd_T51 l0_3 (ji58)).f1)) ∧ w'.cell? ⟨(ad192.add (((ji58)).toNat * 4)).block, (ad192.add (((ji58)).toNat * 4)).off + 2, none⟩ = some (.int .i64 ((rd_T51 l0_3 (ji58)).f2)) ∧ w'.cell? ⟨(ad192.add (((ji58)).toNat * 4)).block, (ad192.add (((ji58)).toNat * 4)).off + 3, none⟩ = some (.int .i64 ((rd_T51 l0_3 (ji58)).f3))) (ds := []) (mk 57 0) (by kernel_rfl) rfl rfl ⟨(blk_cell BK193.out 0).trans rfl, (blk_cell BK193.out 1).trans rfl, (blk_cell BK193.out 2).trans rfl, (blk_cell BK193.out 3).trans rfl, (blk_cell BK189.out 0).trans rfl, (blk_cell BK189.out 1).trans rfl, (blk_cell BK189.out 2).trans rfl, (blk_cell BK189.out 3).trans rfl, ((HB.out.cell (World.block_lt_of_cell? w _ hw194_0)).trans hw194_0), ((HB.out.cell (World.block_lt_of_cell? w _ hw194_1)).trans hw194_1), ((HB.out.cell (World.block_lt_of_cell? w _ hw194_2)).trans hw194_2), ((HB.out.cell (World.block_lt_of_cell? w _ hw194_3)).trans hw194_3)⟩ (fun hHeld => ?_); refine with_tabW impl_AutomatonValid.tab6 impl_AutomatonValid.bits6 (fun HT_ HW_ => ?_)
                    generalize w66.drew = w67 at BK189 BK193 HB hx194_0 hx194_1 hx194_2 hx194_3 hHeld ⊢
                    refine pv 0 43 57 1 HT_ ?_
                    refine take_ (i := 1) (N := some 44) (v := ?_) (a' := ?_) (mk 57 3) rfl rfl (take_ofW HT_.out HW_.out (by kernel_rfl)) (fun _ _ _ h => h) (Or.inl ⟨by rfl, ?_⟩) hHeld ?_ ?_
                    rotate_left
                    ·rintro w' ⟨s0, s1, s2, s3, s4, s5, s6, s7, s8, s9, s10, s11⟩
                     go_simp
                     with_reducible rfl
                    rotate_left
                    ·simp only [Act.put, List.setIfInBounds_toArray, List.set_cons_zero, List.set_cons_succ, i64_w, i32_w]
                     rfl
                    refine pv 2 45 57 7 HT_ ?_
                    refine pv 3 46 57 15 HT_ ?_
                    refine pv 4 47 57 31 HT_ ?_
                    refine pv 6 49 57 95 HT_ ?_
                    refine take_ (i := 5) (N := some 48) (v := ?_) (a' := ?_) (mk 57 127) rfl rfl (take_ofW HT_.out HW_.out (by kernel_rfl)) (fun _ _ _ h => h) (Or.inl ⟨by rfl, ?_⟩) hHeld ?_ ?_
                    rotate_left
                    ·rintro w' ⟨s0, s1, s2, s3, s4, s5, s6, s7, s8, s9, s10, s11⟩
                     go_simp
                     with_reducible rfl
                    rotate_left
                    ·simp only [Act.put, List.setIfInBounds_toArray, List.set_cons_zero, List.set_cons_succ, i64_w, i32_w]
                     rfl
                    refine take_ (i := 7) (N := some 50) (v := ?_) (a' := ?_) (mk 57 255) rfl rfl (take_ofW HT_.out HW_.out (by kernel_rfl)) (fun _ _ _ h => h) (Or.inl ⟨by rfl, ?_⟩) hHeld ?_ ?_
                    rotate_left
                    ·rintro w' ⟨s0, s1, s2, s3, s4, s5, s6, s7, s8, s9, s10, s11⟩
                     go_simp
                     with_reducible rfl
                    rotate_left
                    ·simp only [Act.put, List.setIfInBounds_toArray, List.set_cons_zero, List.set_cons_succ, i64_w, i32_w]
                     rfl
                    refine pv 8 51 57 511 HT_ ?_
                    refine pv 9 52 57 1023 HT_ ?_
                    refine pv 10 53 57 2047 HT_ ?_
                    refine pv 11 54 57 4095 HT_ ?_
                    refine take_ (i := 12) (N := some 55) (v := ?_) (a' := ?_) (mk 57 8191) rfl rfl (take_ofW HT_.out HW_.out (by kernel_rfl)) (fun _ _ _ h => h) (Or.inl ⟨by rfl, ?_⟩) hHeld ?_ ?_
                    rotate_left
                    ·rintro w' ⟨s0, s1, s2, s3, s4, s5, s6, s7, s8, s9, s10, s11⟩
                     go_simp
                     with_reducible rfl
                    rotate_left
                    ·simp only [Act.put, List.setIfInBounds_toArray, List.set_cons_zero, List.set_cons_succ, i64_w, i32_w]
                     rfl
                    refine pv 13 56 57 16383 HT_ ?_
                    refine pv 14 57 57 32767 HT_ ?_
                    refine pv 15 58 57 65535 HT_ ?_
                    refine pv 16 59 57 131071 HT_ ?_
                    refine pv 18 61 57 393215 HT_ ?_
                    refine take_ (i := 17) (N := some 60) (v := ?_) (a' := ?_) (mk 57 524287) rfl rfl (take_ofW HT_.out HW_.out (by kernel_rfl)) (fun _ _ _ h => h) (Or.inl ⟨by rfl, ?_⟩) hHeld ?_ ?_
                    rotate_left
                    ·rintro w' ⟨s0, s1, s2, s3, s4, s5, s6, s7, s8, s9, s10, s11⟩
                     go_simp
                     with_reducible rfl
                    rotate_left
                    ·simp only [Act.put, List.setIfInBounds_toArray, List.set_cons_zero, List.set_cons_succ, i64_w, i32_w]
                     rfl
                    refine take_ (i := 19) (N := some 62) (v := ?_) (a' := ?_) (mk 57 1048575) rfl rfl (take_ofW HT_.out HW_.out (by kernel_rfl)) (fun _ _ _ h => h) (Or.inl ⟨by rfl, ?_⟩) hHeld ?_ ?_
                    rotate_left
                    ·rintro w' ⟨s0, s1, s2, s3, s4, s5, s6, s7, s8, s9, s10, s11⟩
                     go_simp
                     with_reducible rfl
                    rotate_left
                    ·simp only [Act.put, List.setIfInBounds_toArray, List.set_cons_zero, List.set_cons_succ, i64_w, i32_w]
                     rfl
                    refine pv 20 63 57 2097151 HT_ ?_
                    refine pv 21 64 57 4194303 HT_ ?_
                    refine pv 22 65 57 8388607 HT_ ?_
                    refine pv 23 66 57 16777215 HT_ ?_
                    refine take_ (i := 24) (N := some 67) (v := ?_) (a' := ?_) (mk 57 33554431) rfl rfl (take_ofW HT_.out HW_.out (by kernel_rfl)) (fun _ _ _ h => h) (Or.inl ⟨by rfl, ?_⟩) hHeld ?_ ?_
                    rotate_left
                    ·rintro w' ⟨s0, s1, s2, s3, s4, s5, s6, s7, s8, s9, s10, s11⟩
                     go_simp
                     with_reducible rfl
                    rotate_left
                    ·simp only [Act.put, List.setIfInBounds_toArray, List.set_cons_zero, List.set_cons_succ, i64_w, i32_w]
                     rfl
                    refine pv 25 68 57 67108863 HT_ ?_
                    refine pv 26 69 57 134217727 HT_ ?_
                    refine pu 27 70 57 268435455 HT_ ?_
                    refine pu 28 71 57 536870911 HT_ ?_
                    refine pu 29 72 57 1073741823 HT_ ?_
                    refine pv 30 73 57 2147483647 HT_ ?_
                    refine pv 31 74 57 4294967295 HT_ ?_
                    refine pv 32 75 57 8589934591 HT_ ?_
                    refine pv 33 76 57 17179869183 HT_ ?_
                    refine take_ (i := 34) (N := some 77) (v := ?_) (a' := ?_) (mk 57 34359738367) rfl rfl (take_ofW HT_.out HW_.out (by kernel_rfl)) (fun _ _ _ h => h) (Or.inl ⟨by rfl, ?_⟩) hHeld ?_ ?_
                    rotate_left
                    ·rintro w' ⟨s0, s1, s2, s3, s4, s5, s6, s7, s8, s9, s10, s11⟩
                     go_simp
                     with_reducible rfl
                    rotate_left
                    ·simp only [Act.put, List.setIfInBounds_toArray, List.set_cons_zero, List.set_cons_succ, i64_w, i32_w]
                     rfl
                    refine pv 35 78 57 68719476735 HT_ ?_
                    refine pv 36 79 57 137438953471 HT_ ?_
                    refine pv 37 80 57 274877906943 HT_ ?_
                    refine pv 38 81 57 549755813887 HT_ ?_
                    refine take_ (i := 39) (N := some 82) (v := ?_) (a' := ?_) (mk 57 1099511627775) rfl rfl (take_ofW HT_.out HW_.out (by kernel_rfl)) (fun _ _ _ h => h) (Or.inl ⟨by rfl, ?_⟩) hHeld ?_ ?_
                    rotate_left
                    ·rintro w' ⟨s0, s1, s2, s3, s4, s5, s6, s7, s8, s9, s10, s11⟩
                     go_simp
                     with_reducible rfl
                    rotate_left
                    ·simp only [Act.put, List.setIfInBounds_toArray, List.set_cons_zero, List.set_cons_succ, i64_w, i32_w]
                     rfl
                    refine pv 40 83 57 2199023255551 HT_ ?_
                    refine pv 41 84 57 4398046511103 HT_ ?_
                    refine pv 42 85 57 8796093022207 HT_ ?_
                    refine pv 43 86 57 17592186044415 HT_ ?_
                    refine pv 44 87 57 35184372088831 HT_ ?_
                    refine pv 45 88 57 70368744177663 HT_ ?_
                    refine pv 46 89 57 140737488355327 HT_ ?_
                    refine pv 48 91 57 422212465065983 HT_ ?_
                    refine pv 49 92 57 985162418487295 HT_ ?_
                    refine take_ (i := 47) (N := some 90) (v := ?_) (a' := ?_) (mk 57 1125899906842623) rfl rfl (take_ofW HT_.out HW_.out (by kernel_rfl)) (fun _ _ _ h => h) (Or.inl ⟨by rfl, ?_⟩) hHeld ?_ ?_
                    rotate_left
                    ·rintro w' ⟨s0, s1, s2, s3, s4, s5, s6, s7, s8, s9, s10, s11⟩
                     go_simp
                     with_reducible rfl
                    rotate_left
                    ·simp only [Act.put, List.setIfInBounds_toArray, List.set_cons_zero, List.set_cons_succ, i64_w, i32_w]
                     rfl
                    refine pv 50 93 57 2251799813685247 HT_ ?_
                    refine take_ (i := 51) (N := some 94) (v := ?_) (a' := ?_) (mk 57 4503599627370495) rfl rfl (take_ofW HT_.out HW_.out (by kernel_rfl)) (fun _ _ _ h => h) (Or.inl ⟨by rfl, ?_⟩) hHeld ?_ ?_
                    rotate_left
                    ·rintro w' ⟨s0, s1, s2, s3, s4, s5, s6, s7, s8, s9, s10, s11⟩
                     go_simp
                     with_reducible rfl
                    rotate_left
                    ·simp only [Act.put, List.setIfInBounds_toArray, List.set_cons_zero, List.set_cons_succ, i64_w, i32_w]
                     rfl
                    refine take_ (i := 52) (N := some 95) (v := ?_) (a' := ?_) (mk 57 9007199254740991) rfl rfl (take_ofW HT_.out HW_.out (by kernel_rfl)) (fun _ _ _ h => h) (Or.inl ⟨by rfl, ?_⟩) hHeld ?_ ?_
                    rotate_left
                    ·rintro w' ⟨s0, s1, s2, s3, s4, s5, s6, s7, s8, s9, s10, s11⟩
                     go_simp
                     with_reducible rfl
                    rotate_left
                    ·simp only [Act.put, List.setIfInBounds_toArray, List.set_cons_zero, List.set_cons_succ, i64_w, i32_w]
                     rfl
                    refine one_ (i := 53) (N := some 96) (mk 57 18014398509481983) rfl rfl (one_of HT_.out (by kernel_rfl)) (by decide) (fun K hK => ?_)
                    refine goes_ Try.func45 (by kernel_rfl) rfl #[.agg #[.int .i64 ((rd_T51 l0_3 (ji58)).f0), .string ((rd_T51 l0_3 (ji58)).f1), .int .i64 ((rd_T51 l0_3 (ji58)).f2), .int .i64 ((rd_T51 l0_3 (ji58)).f3)], .agg #[.int .i64 ((rd_T51 l0_3 x38_2).f0), .string ((rd_T51 l0_3 x38_2).f1), .int .i64 ((rd_T51 l0_3 x38_2).f2), .int .i64 ((rd_T51 l0_3 x38_2).f3)]] (by rfl) rfl rfl (by (try simp only [List.map_toArray, List.map_cons, List.map_nil]); first | done | (simp only [hji58]; rfl) | rfl | (simp only [List.length_drop, List.length_take]; rfl)) ?_
                    with_reducible refine (impl_stepOrder.calls k2 ((rd_T51 l0_3 (ji58)).f0) ((rd_T51 l0_3 (ji58)).f1) ((rd_T51 l0_3 (ji58)).f2) ((rd_T51 l0_3 (ji58)).f3) ((rd_T51 l0_3 x38_2).f0) ((rd_T51 l0_3 x38_2).f1) ((rd_T51 l0_3 x38_2).f2) ((rd_T51 l0_3 x38_2).f3) t195 _ A61.out).mono ?_
                    rintro e w68 ⟨rfl, hb⟩
                    refine ⟨_, rfl, ?_⟩
                    have n0_ := bk BK189 hb
                    have n1_ := bk BK193 hb
                    have n2_ := am (below_step (bw HB.out) hb)
                    clear BK189 BK193 HB
                    revert n0_ n1_ n2_; intro BK189 BK193 HB
                    (try clear hb)
                    (try clear hb2)
                    (try clear hk)
                    (try clear hi)
                    refine hK.out _ _ ⟨(blk_cell BK193.out 0).trans rfl, (blk_cell BK193.out 1).trans rfl, (blk_cell BK193.out 2).trans rfl, (blk_cell BK193.out 3).trans rfl, (blk_cell BK189.out 0).trans rfl, (blk_cell BK189.out 1).trans rfl, (blk_cell BK189.out 2).trans rfl, (blk_cell BK189.out 3).trans rfl, ((HB.out.cell (World.block_lt_of_cell? w _ hw194_0)).trans hw194_0), ((HB.out.cell (World.block_lt_of_cell? w _ hw194_1)).trans hw194_1), ((HB.out.cell (World.block_lt_of_cell? w _ hw194_2)).trans hw194_2), ((HB.out.cell (World.block_lt_of_cell? w _ hw194_3)).trans hw194_3)⟩ (fun hHeld => ?_)
                    clear hK K
                    refine norm_ (a' := ?_) ?_ ?_
                    rotate_left
                    ·show Act.put _ (some 96) _ = _
                     simp only [Act.put, List.setIfInBounds_toArray, List.set_cons_zero, List.set_cons_succ, i64_w, i32_w]
                     rfl
                    refine pv 54 97 57 36028797018963967 HT_ ?_
                    refine pv 55 98 57 72057594037927935 HT_ ?_
                    refine pv 56 99 57 144115188075855871 HT_ ?_
                    refine done_ (done_of HT_.out (by kernel_rfl)) ?_
                    try go_wp2
                    go_ret
                    exact ⟨by first | rfl | (simp [errW_none, errW_some] <;> rfl) | (simp only [← hji58]; first | rfl | (simp [errW_none, errW_some] <;> rfl)) | (simp [*, errW_none, errW_some] <;> rfl), by exact bw HB.out⟩
                   ·rw [if_neg c62] at H
                    have c62b0 : decide (0 ≤ t195) = false := decide_eq_false c62
                    clear c62
                    have H' := am H
                    clear H
                    have p192 : 0 ≤ (x38_2 : Int) := of_decide_eq_true (by first | (with_reducible assumption) | assumption)
                    have q192 : x38_2 < (l0_3.length : Int) := of_decide_eq_true (by first | (with_reducible assumption) | assumption)
                    obtain ⟨ad192, e192, hx192_0, hx192_1, hx192_2, hx192_3⟩ := at_T51 HR0_3.out x38_2 p192 q192
                    cases e192
                    replace hx192_0 := (HB.out.cell (World.block_lt_of_cell? w _ hx192_0)).trans hx192_0
                    replace hx192_1 := (HB.out.cell (World.block_lt_of_cell? w _ hx192_1)).trans hx192_1
                    replace hx192_2 := (HB.out.cell (World.block_lt_of_cell? w _ hx192_2)).trans hx192_2
                    replace hx192_3 := (HB.out.cell (World.block_lt_of_cell? w _ hx192_3)).trans hx192_3
                    replace p192 := eq_true p192
                    replace q192 := eq_true q192
                    try go_wp2_with (first | ((with_reducible refine gate_dst (N := 4) rfl ?_); (try (refine gate_guard (by rfl) ?_; dsimp only)); refine box_event ?hg (N := 4) ?hd (cs := #[.int .i64 0, .string (⟨#[]⟩ : ByteArray), .int .i64 0, .int .i64 0]) (t := 51) ?hr ?_; (case hd => rfl); (case hg => rfl); (case hr => first | (go_simp; done) | (go_simp; rfl)); intro gb193 hg w69 hbox hb; have n0_ := bk BK189 hb; have n1_ := am (below_step (bw HB.out) hb); have n2_ := am (hbox); have n3_ := am ((by rw [hg]; exact (below_size (bw HB.out)) : w.heap.size ≤ gb193)); have n4_ := am ((by rw [hg]; exact (below_size (bw HB.out)) : w.heap.size ≤ gb193)); have n5_ := am ((by rw [hg]; exact Nat.ne_of_lt (blk_lt (kz BK189.out)) : gb189 ≠ gb193)); have n6_ := am ((by rw [hg]; exact Nat.ne_of_gt (blk_lt (kz BK189.out)) : gb193 ≠ gb189)); clear BK189 HB; revert n0_ n1_ n2_ n3_ n4_ n5_ n6_; intro BK189 HB BK193 GW193 GE193 NB189_193 NB193_189; clear hb hbox hg; have hnb70 := NB193_189.out; have hnc70 := NB189_193.out; have hcz71_0 := cz40 BK193.out; have hcz71_1 := cz41 BK193.out; have hcz71_2 := cz42 BK193.out; have hcz71_3 := cz43 BK193.out; have hfz71_0 := blk_frozen BK193.out 0; have hfz71_1 := blk_frozen BK193.out 1; have hfz71_2 := blk_frozen BK193.out 2; have hfz71_3 := blk_frozen BK193.out 3))
                    have n0_ : Aside0 (((((w69.setCell ⟨gb193, 0, none⟩ (.int .i64 ((rd_T51 l0_3 x38_2).f0))).setCell ⟨gb193, 1, none⟩ (.string ((rd_T51 l0_3 x38_2).f1))).setCell ⟨gb193, 2, none⟩ (.int .i64 ((rd_T51 l0_3 x38_2).f2))).setCell ⟨gb193, 3, none⟩ (.int .i64 ((rd_T51 l0_3 x38_2).f3))).heap[gb189]? = some (.cells #[.int .i64 a0_0, .slice A0_1 l0_1.length c0_1, .slice A0_2 l0_2.length c0_2, .slice (some ad192) l0_3.length c0_3] 30 (0, 0))) := ⟨by (with_reducible repeat (first | refine kn ?_ _ | refine kd ?_ | refine ka ?_ _)); refine blk_far ?_ NB189_193.out _; (with_reducible repeat (first | refine kn ?_ _ | refine kd ?_ | refine ka ?_ _)); refine blk_far ?_ NB189_193.out _; (with_reducible repeat (first | refine kn ?_ _ | refine kd ?_ | refine ka ?_ _)); refine blk_far ?_ NB189_193.out _; (with_reducible repeat (first | refine kn ?_ _ | refine kd ?_ | refine ka ?_ _)); refine blk_far ?_ NB189_193.out _; (with_reducible repeat (first | refine kn ?_ _ | refine kd ?_ | refine ka ?_ _)); exact BK189.out⟩
                    have n1_ : Aside0 (((((w69.setCell ⟨gb193, 0, none⟩ (.int .i64 ((rd_T51 l0_3 x38_2).f0))).setCell ⟨gb193, 1, none⟩ (.string ((rd_T51 l0_3 x38_2).f1))).setCell ⟨gb193, 2, none⟩ (.int .i64 ((rd_T51 l0_3 x38_2).f2))).setCell ⟨gb193, 3, none⟩ (.int .i64 ((rd_T51 l0_3 x38_2).f3))).heap[gb193]? = some (.cells #[.int .i64 ((rd_T51 l0_3 x38_2).f0), .string ((rd_T51 l0_3 x38_2).f1), .int .i64 ((rd_T51 l0_3 x38_2).f2), .int .i64 ((rd_T51 l0_3 x38_2).f3)] 51 (0, 0))) := ⟨by (with_reducible repeat (first | refine kn ?_ _ | refine kd ?_ | refine ka ?_ _)); refine blk_put (cs := #[.int .i64 ((rd_T51 l0_3 x38_2).f0), .string ((rd_T51 l0_3 x38_2).f1), .int .i64 ((rd_T51 l0_3 x38_2).f2), .int .i64 0]) ?_ 3 _ rfl; (with_reducible repeat (first | refine kn ?_ _ | refine kd ?_ | refine ka ?_ _)); refine blk_put (cs := #[.int .i64 ((rd_T51 l0_3 x38_2).f0), .string ((rd_T51 l0_3 x38_2).f1), .int .i64 0, .int .i64 0]) ?_ 2 _ rfl; (with_reducible repeat (first | refine kn ?_ _ | refine kd ?_ | refine ka ?_ _)); refine blk_put (cs := #[.int .i64 ((rd_T51 l0_3 x38_2).f0), .string (⟨#[]⟩ : ByteArray), .int .i64 0, .int .i64 0]) ?_ 1 _ rfl; (with_reducible repeat (first | refine kn ?_ _ | refine kd ?_ | refine ka ?_ _)); refine blk_put (cs := #[.int .i64 0, .string (⟨#[]⟩ : ByteArray), .int .i64 0, .int .i64 0]) ?_ 0 _ rfl; (with_reducible repeat (first | refine kn ?_ _ | refine kd ?_ | refine ka ?_ _)); exact BK193.out⟩
                    have n2_ : Aside0 (Below w.heap.size w ((((w69.setCell ⟨gb193, 0, none⟩ (.int .i64 ((rd_T51 l0_3 x38_2).f0))).setCell ⟨gb193, 1, none⟩ (.string ((rd_T51 l0_3 x38_2).f1))).setCell ⟨gb193, 2, none⟩ (.int .i64 ((rd_T51 l0_3 x38_2).f2))).setCell ⟨gb193, 3, none⟩ (.int .i64 ((rd_T51 l0_3 x38_2).f3)))) := ⟨by exact bw HB.out⟩
                    (try clear BK189)
                    (try clear BK193)
                    (try clear HB)
                    generalize ((((w69.setCell ⟨gb193, 0, none⟩ (.int .i64 ((rd_T51 l0_3 x38_2).f0))).setCell ⟨gb193, 1, none⟩ (.string ((rd_T51 l0_3 x38_2).f1))).setCell ⟨gb193, 2, none⟩ (.int .i64 ((rd_T51 l0_3 x38_2).f2))).setCell ⟨gb193, 3, none⟩ (.int .i64 ((rd_T51 l0_3 x38_2).f3))) = w72 at n0_ n1_ n2_ ⊢
                    revert n0_ n1_ n2_; intro BK189 BK193 HB
                    have n0_ := am (blk_drew BK189.out)
                    have n1_ := am (blk_drew BK193.out)
                    have n2_ := am (below_drew1 HB.out)
                    clear BK189 BK193 HB
                    revert n0_ n1_ n2_; intro BK189 BK193 HB
                    have p194 : 0 ≤ ((ji58) : Int) := of_decide_eq_true (by first | (with_reducible assumption) | assumption)
                    have q194 : (ji58) < (l0_3.length : Int) := of_decide_eq_true (by first | (with_reducible assumption) | assumption)
                    obtain ⟨ad194, e194, hx194_0, hx194_1, hx194_2, hx194_3⟩ := at_T51 HR0_3.out (ji58) p194 q194
                    have hw194_3 := hx194_3
                    have hw194_2 := hx194_2
                    have hw194_1 := hx194_1
                    have hw194_0 := hx194_0
                    obtain rfl : ad192 = ad194 := (by injection e194)
                    replace hx194_0 := (HB.out.cell (World.block_lt_of_cell? w _ hx194_0)).trans hx194_0
                    replace hx194_1 := (HB.out.cell (World.block_lt_of_cell? w _ hx194_1)).trans hx194_1
                    replace hx194_2 := (HB.out.cell (World.block_lt_of_cell? w _ hx194_2)).trans hx194_2
                    replace hx194_3 := (HB.out.cell (World.block_lt_of_cell? w _ hx194_3)).trans hx194_3
                    replace p194 := eq_true p194
                    replace q194 := eq_true q194
                    refine start_ (n := 57) (S := fun w' => w'.cell? ⟨gb193, 0, none⟩ = some (.int .i64 ((rd_T51 l0_3 x38_2).f0)) ∧ w'.cell? ⟨gb193, 1, none⟩ = some (.string ((rd_T51 l0_3 x38_2).f1)) ∧ w'.cell? ⟨gb193, 2, none⟩ = some (.int .i64 ((rd_T51 l0_3 x38_2).f2)) ∧ w'.cell? ⟨gb193, 3, none⟩ = some (.int .i64 ((rd_T51 l0_3 x38_2).f3)) ∧ w'.cell? ⟨gb189, 0, none⟩ = some (.int .i64 a0_0) ∧ w'.cell? ⟨gb189, 1, none⟩ = some (.slice A0_1 l0_1.length c0_1) ∧ w'.cell? ⟨gb189, 2, none⟩ = some (.slice A0_2 l0_2.length c0_2) ∧ w'.cell? ⟨gb189, 3, none⟩ = some (.slice (some ad192) l0_3.length c0_3) ∧ w'.cell? (ad192.add (((ji58)).toNat * 4)) = some (.int .i64 ((rd_T51 l0_3 (ji58)).f0)) ∧ w'.cell? ⟨(ad192.add (((ji58)).toNat * 4)).block, (ad192.add (((ji58)).toNat * 4)).off + 1, none⟩ = some (.string ((rd_T51 l0_3 (ji58)).f1)) ∧ w'.cell? ⟨(ad192.add (((ji58)).toNat * 4)).block, (ad192.add (((ji58)).toNat * 4)).off + 2, none⟩ = some (.int .i64 ((rd_T51 l0_3 (ji58)).f2)) ∧ w'.cell? ⟨(ad192.add (((ji58)).toNat * 4)).block, (ad192.add (((ji58)).toNat * 4)).off + 3, none⟩ = some (.int .i64 ((rd_T51 l0_3 (ji58)).f3))) (ds := []) (mk 57 0) (by kernel_rfl) rfl rfl ⟨(blk_cell BK193.out 0).trans rfl, (blk_cell BK193.out 1).trans rfl, (blk_cell BK193.out 2).trans rfl, (blk_cell BK193.out 3).trans rfl, (blk_cell BK189.out 0).trans rfl, (blk_cell BK189.out 1).trans rfl, (blk_cell BK189.out 2).trans rfl, (blk_cell BK189.out 3).trans rfl, ((HB.out.cell (World.block_lt_of_cell? w _ hw194_0)).trans hw194_0), ((HB.out.cell (World.block_lt_of_cell? w _ hw194_1)).trans hw194_1), ((HB.out.cell (World.block_lt_of_cell? w _ hw194_2)).trans hw194_2), ((HB.out.cell (World.block_lt_of_cell? w _ hw194_3)).trans hw194_3)⟩ (fun hHeld => ?_); refine with_tabW impl_AutomatonValid.tab6 impl_AutomatonValid.bits6 (fun HT_ HW_ => ?_)
                    generalize w72.drew = w73 at BK189 BK193 HB hx194_0 hx194_1 hx194_2 hx194_3 hHeld ⊢
                    refine pv 0 43 57 1 HT_ ?_
                    refine take_ (i := 1) (N := some 44) (v := ?_) (a' := ?_) (mk 57 3) rfl rfl (take_ofW HT_.out HW_.out (by kernel_rfl)) (fun _ _ _ h => h) (Or.inl ⟨by rfl, ?_⟩) hHeld ?_ ?_
                    rotate_left
                    ·rintro w' ⟨s0, s1, s2, s3, s4, s5, s6, s7, s8, s9, s10, s11⟩
                     go_simp
                     with_reducible rfl
                    rotate_left
                    ·simp only [Act.put, List.setIfInBounds_toArray, List.set_cons_zero, List.set_cons_succ, i64_w, i32_w]
                     rfl
                    refine pv 2 45 57 7 HT_ ?_
                    refine pv 3 46 57 15 HT_ ?_
                    refine pv 4 47 57 31 HT_ ?_
                    refine pv 6 49 57 95 HT_ ?_
                    refine take_ (i := 5) (N := some 48) (v := ?_) (a' := ?_) (mk 57 127) rfl rfl (take_ofW HT_.out HW_.out (by kernel_rfl)) (fun _ _ _ h => h) (Or.inl ⟨by rfl, ?_⟩) hHeld ?_ ?_
                    rotate_left
                    ·rintro w' ⟨s0, s1, s2, s3, s4, s5, s6, s7, s8, s9, s10, s11⟩
                     go_simp
                     with_reducible rfl
                    rotate_left
                    ·simp only [Act.put, List.setIfInBounds_toArray, List.set_cons_zero, List.set_cons_succ, i64_w, i32_w]
                     rfl
                    refine take_ (i := 7) (N := some 50) (v := ?_) (a' := ?_) (mk 57 255) rfl rfl (take_ofW HT_.out HW_.out (by kernel_rfl)) (fun _ _ _ h => h) (Or.inl ⟨by rfl, ?_⟩) hHeld ?_ ?_
                    rotate_left
                    ·rintro w' ⟨s0, s1, s2, s3, s4, s5, s6, s7, s8, s9, s10, s11⟩
                     go_simp
                     with_reducible rfl
                    rotate_left
                    ·simp only [Act.put, List.setIfInBounds_toArray, List.set_cons_zero, List.set_cons_succ, i64_w, i32_w]
                     rfl
                    refine pv 8 51 57 511 HT_ ?_
                    refine pv 9 52 57 1023 HT_ ?_
                    refine pv 10 53 57 2047 HT_ ?_
                    refine pv 11 54 57 4095 HT_ ?_
                    refine take_ (i := 12) (N := some 55) (v := ?_) (a' := ?_) (mk 57 8191) rfl rfl (take_ofW HT_.out HW_.out (by kernel_rfl)) (fun _ _ _ h => h) (Or.inl ⟨by rfl, ?_⟩) hHeld ?_ ?_
                    rotate_left
                    ·rintro w' ⟨s0, s1, s2, s3, s4, s5, s6, s7, s8, s9, s10, s11⟩
                     go_simp
                     with_reducible rfl
                    rotate_left
                    ·simp only [Act.put, List.setIfInBounds_toArray, List.set_cons_zero, List.set_cons_succ, i64_w, i32_w]
                     rfl
                    refine pv 13 56 57 16383 HT_ ?_
                    refine pv 14 57 57 32767 HT_ ?_
                    refine pv 15 58 57 65535 HT_ ?_
                    refine pv 16 59 57 131071 HT_ ?_
                    refine pv 18 61 57 393215 HT_ ?_
                    refine take_ (i := 17) (N := some 60) (v := ?_) (a' := ?_) (mk 57 524287) rfl rfl (take_ofW HT_.out HW_.out (by kernel_rfl)) (fun _ _ _ h => h) (Or.inl ⟨by rfl, ?_⟩) hHeld ?_ ?_
                    rotate_left
                    ·rintro w' ⟨s0, s1, s2, s3, s4, s5, s6, s7, s8, s9, s10, s11⟩
                     go_simp
                     with_reducible rfl
                    rotate_left
                    ·simp only [Act.put, List.setIfInBounds_toArray, List.set_cons_zero, List.set_cons_succ, i64_w, i32_w]
                     rfl
                    refine take_ (i := 19) (N := some 62) (v := ?_) (a' := ?_) (mk 57 1048575) rfl rfl (take_ofW HT_.out HW_.out (by kernel_rfl)) (fun _ _ _ h => h) (Or.inl ⟨by rfl, ?_⟩) hHeld ?_ ?_
                    rotate_left
                    ·rintro w' ⟨s0, s1, s2, s3, s4, s5, s6, s7, s8, s9, s10, s11⟩
                     go_simp
                     with_reducible rfl
                    rotate_left
                    ·simp only [Act.put, List.setIfInBounds_toArray, List.set_cons_zero, List.set_cons_succ, i64_w, i32_w]
                     rfl
                    refine pv 20 63 57 2097151 HT_ ?_
                    refine pv 21 64 57 4194303 HT_ ?_
                    refine pv 22 65 57 8388607 HT_ ?_
                    refine pv 23 66 57 16777215 HT_ ?_
                    refine take_ (i := 24) (N := some 67) (v := ?_) (a' := ?_) (mk 57 33554431) rfl rfl (take_ofW HT_.out HW_.out (by kernel_rfl)) (fun _ _ _ h => h) (Or.inl ⟨by rfl, ?_⟩) hHeld ?_ ?_
                    rotate_left
                    ·rintro w' ⟨s0, s1, s2, s3, s4, s5, s6, s7, s8, s9, s10, s11⟩
                     go_simp
                     with_reducible rfl
                    rotate_left
                    ·simp only [Act.put, List.setIfInBounds_toArray, List.set_cons_zero, List.set_cons_succ, i64_w, i32_w]
                     rfl
                    refine pv 25 68 57 67108863 HT_ ?_
                    refine pv 26 69 57 134217727 HT_ ?_
                    refine pu 27 70 57 268435455 HT_ ?_
                    refine pu 28 71 57 536870911 HT_ ?_
                    refine pu 29 72 57 1073741823 HT_ ?_
                    refine pv 30 73 57 2147483647 HT_ ?_
                    refine pv 31 74 57 4294967295 HT_ ?_
                    refine pv 32 75 57 8589934591 HT_ ?_
                    refine pv 33 76 57 17179869183 HT_ ?_
                    refine take_ (i := 34) (N := some 77) (v := ?_) (a' := ?_) (mk 57 34359738367) rfl rfl (take_ofW HT_.out HW_.out (by kernel_rfl)) (fun _ _ _ h => h) (Or.inl ⟨by rfl, ?_⟩) hHeld ?_ ?_
                    rotate_left
                    ·rintro w' ⟨s0, s1, s2, s3, s4, s5, s6, s7, s8, s9, s10, s11⟩
                     go_simp
                     with_reducible rfl
                    rotate_left
                    ·simp only [Act.put, List.setIfInBounds_toArray, List.set_cons_zero, List.set_cons_succ, i64_w, i32_w]
                     rfl
                    refine pv 35 78 57 68719476735 HT_ ?_
                    refine pv 36 79 57 137438953471 HT_ ?_
                    refine pv 37 80 57 274877906943 HT_ ?_
                    refine pv 38 81 57 549755813887 HT_ ?_
                    refine take_ (i := 39) (N := some 82) (v := ?_) (a' := ?_) (mk 57 1099511627775) rfl rfl (take_ofW HT_.out HW_.out (by kernel_rfl)) (fun _ _ _ h => h) (Or.inl ⟨by rfl, ?_⟩) hHeld ?_ ?_
                    rotate_left
                    ·rintro w' ⟨s0, s1, s2, s3, s4, s5, s6, s7, s8, s9, s10, s11⟩
                     go_simp
                     with_reducible rfl
                    rotate_left
                    ·simp only [Act.put, List.setIfInBounds_toArray, List.set_cons_zero, List.set_cons_succ, i64_w, i32_w]
                     rfl
                    refine pv 40 83 57 2199023255551 HT_ ?_
                    refine pv 41 84 57 4398046511103 HT_ ?_
                    refine pv 42 85 57 8796093022207 HT_ ?_
                    refine pv 43 86 57 17592186044415 HT_ ?_
                    refine pv 44 87 57 35184372088831 HT_ ?_
                    refine pv 45 88 57 70368744177663 HT_ ?_
                    refine pv 46 89 57 140737488355327 HT_ ?_
                    refine pv 48 91 57 422212465065983 HT_ ?_
                    refine pv 49 92 57 985162418487295 HT_ ?_
                    refine take_ (i := 47) (N := some 90) (v := ?_) (a' := ?_) (mk 57 1125899906842623) rfl rfl (take_ofW HT_.out HW_.out (by kernel_rfl)) (fun _ _ _ h => h) (Or.inl ⟨by rfl, ?_⟩) hHeld ?_ ?_
                    rotate_left
                    ·rintro w' ⟨s0, s1, s2, s3, s4, s5, s6, s7, s8, s9, s10, s11⟩
                     go_simp
                     with_reducible rfl
                    rotate_left
                    ·simp only [Act.put, List.setIfInBounds_toArray, List.set_cons_zero, List.set_cons_succ, i64_w, i32_w]
                     rfl
                    refine pv 50 93 57 2251799813685247 HT_ ?_
                    refine take_ (i := 51) (N := some 94) (v := ?_) (a' := ?_) (mk 57 4503599627370495) rfl rfl (take_ofW HT_.out HW_.out (by kernel_rfl)) (fun _ _ _ h => h) (Or.inl ⟨by rfl, ?_⟩) hHeld ?_ ?_
                    rotate_left
                    ·rintro w' ⟨s0, s1, s2, s3, s4, s5, s6, s7, s8, s9, s10, s11⟩
                     go_simp
                     with_reducible rfl
                    rotate_left
                    ·simp only [Act.put, List.setIfInBounds_toArray, List.set_cons_zero, List.set_cons_succ, i64_w, i32_w]
                     rfl
                    refine take_ (i := 52) (N := some 95) (v := ?_) (a' := ?_) (mk 57 9007199254740991) rfl rfl (take_ofW HT_.out HW_.out (by kernel_rfl)) (fun _ _ _ h => h) (Or.inl ⟨by rfl, ?_⟩) hHeld ?_ ?_
                    rotate_left
                    ·rintro w' ⟨s0, s1, s2, s3, s4, s5, s6, s7, s8, s9, s10, s11⟩
                     go_simp
                     with_reducible rfl
                    rotate_left
                    ·simp only [Act.put, List.setIfInBounds_toArray, List.set_cons_zero, List.set_cons_succ, i64_w, i32_w]
                     rfl
                    refine one_ (i := 53) (N := some 96) (mk 57 18014398509481983) rfl rfl (one_of HT_.out (by kernel_rfl)) (by decide) (fun K hK => ?_)
                    refine goes_ Try.func45 (by kernel_rfl) rfl #[.agg #[.int .i64 ((rd_T51 l0_3 (ji58)).f0), .string ((rd_T51 l0_3 (ji58)).f1), .int .i64 ((rd_T51 l0_3 (ji58)).f2), .int .i64 ((rd_T51 l0_3 (ji58)).f3)], .agg #[.int .i64 ((rd_T51 l0_3 x38_2).f0), .string ((rd_T51 l0_3 x38_2).f1), .int .i64 ((rd_T51 l0_3 x38_2).f2), .int .i64 ((rd_T51 l0_3 x38_2).f3)]] (by rfl) rfl rfl (by (try simp only [List.map_toArray, List.map_cons, List.map_nil]); first | done | (simp only [hji58]; rfl) | rfl | (simp only [List.length_drop, List.length_take]; rfl)) ?_
                    with_reducible refine (impl_stepOrder.calls k2 ((rd_T51 l0_3 (ji58)).f0) ((rd_T51 l0_3 (ji58)).f1) ((rd_T51 l0_3 (ji58)).f2) ((rd_T51 l0_3 (ji58)).f3) ((rd_T51 l0_3 x38_2).f0) ((rd_T51 l0_3 x38_2).f1) ((rd_T51 l0_3 x38_2).f2) ((rd_T51 l0_3 x38_2).f3) t195 _ A61.out).mono ?_
                    rintro e w74 ⟨rfl, hb⟩
                    refine ⟨_, rfl, ?_⟩
                    have n0_ := bk BK189 hb
                    have n1_ := bk BK193 hb
                    have n2_ := am (below_step (bw HB.out) hb)
                    clear BK189 BK193 HB
                    revert n0_ n1_ n2_; intro BK189 BK193 HB
                    (try clear hb)
                    (try clear hb2)
                    (try clear hk)
                    (try clear hi)
                    refine hK.out _ _ ⟨(blk_cell BK193.out 0).trans rfl, (blk_cell BK193.out 1).trans rfl, (blk_cell BK193.out 2).trans rfl, (blk_cell BK193.out 3).trans rfl, (blk_cell BK189.out 0).trans rfl, (blk_cell BK189.out 1).trans rfl, (blk_cell BK189.out 2).trans rfl, (blk_cell BK189.out 3).trans rfl, ((HB.out.cell (World.block_lt_of_cell? w _ hw194_0)).trans hw194_0), ((HB.out.cell (World.block_lt_of_cell? w _ hw194_1)).trans hw194_1), ((HB.out.cell (World.block_lt_of_cell? w _ hw194_2)).trans hw194_2), ((HB.out.cell (World.block_lt_of_cell? w _ hw194_3)).trans hw194_3)⟩ (fun hHeld => ?_)
                    clear hK K
                    refine norm_ (a' := ?_) ?_ ?_
                    rotate_left
                    ·show Act.put _ (some 96) _ = _
                     simp only [Act.put, List.setIfInBounds_toArray, List.set_cons_zero, List.set_cons_succ, i64_w, i32_w]
                     rfl
                    refine pv 54 97 57 36028797018963967 HT_ ?_
                    refine pv 55 98 57 72057594037927935 HT_ ?_
                    refine pv 56 99 57 144115188075855871 HT_ ?_
                    refine done_ (done_of HT_.out (by kernel_rfl)) ?_
                    try go_wp2
                    go_roundg k2
                    case measure => have := HJ1.out; have := HK2.out; omega
                    case rel => exact ⟨(wrap64 (x38_2 + 1)), (by first | rfl | (simp; done) | (simp [*]; done)), H', ⟨by have := HJ1.out; have := HK2.out; omega⟩, ⟨kz BK189.out⟩, ⟨by exact bw HB.out⟩⟩
                  ·rw [if_neg c60] at H
                   exact absurd H (by simp)
                 ·rw [if_neg c59] at H
                  exact absurd H (by simp)
                ·rw [if_neg c57] at H
                 have c57b0 : decide (0 < x38_2) = false := decide_eq_false c57
                 clear c57
                 have H' := am H
                 clear H
                 have p192 : 0 ≤ (x38_2 : Int) := of_decide_eq_true (by first | (with_reducible assumption) | assumption)
                 have q192 : x38_2 < (l0_3.length : Int) := of_decide_eq_true (by first | (with_reducible assumption) | assumption)
                 obtain ⟨ad192, e192, hx192_0, hx192_1, hx192_2, hx192_3⟩ := at_T51 HR0_3.out x38_2 p192 q192
                 cases e192
                 replace hx192_0 := (HB.out.cell (World.block_lt_of_cell? w _ hx192_0)).trans hx192_0
                 replace hx192_1 := (HB.out.cell (World.block_lt_of_cell? w _ hx192_1)).trans hx192_1
                 replace hx192_2 := (HB.out.cell (World.block_lt_of_cell? w _ hx192_2)).trans hx192_2
                 replace hx192_3 := (HB.out.cell (World.block_lt_of_cell? w _ hx192_3)).trans hx192_3
                 replace p192 := eq_true p192
                 replace q192 := eq_true q192
                 try go_wp2_with (first | ((with_reducible refine gate_dst (N := 4) rfl ?_); (try (refine gate_guard (by rfl) ?_; dsimp only)); refine box_event ?hg (N := 4) ?hd (cs := #[.int .i64 0, .string (⟨#[]⟩ : ByteArray), .int .i64 0, .int .i64 0]) (t := 51) ?hr ?_; (case hd => rfl); (case hg => rfl); (case hr => first | (go_simp; done) | (go_simp; rfl)); intro gb193 hg w75 hbox hb; have n0_ := bk BK189 hb; have n1_ := am (below_step (bw HB.out) hb); have n2_ := am (hbox); have n3_ := am ((by rw [hg]; exact (below_size (bw HB.out)) : w.heap.size ≤ gb193)); have n4_ := am ((by rw [hg]; exact (below_size (bw HB.out)) : w.heap.size ≤ gb193)); have n5_ := am ((by rw [hg]; exact Nat.ne_of_lt (blk_lt (kz BK189.out)) : gb189 ≠ gb193)); have n6_ := am ((by rw [hg]; exact Nat.ne_of_gt (blk_lt (kz BK189.out)) : gb193 ≠ gb189)); clear BK189 HB; revert n0_ n1_ n2_ n3_ n4_ n5_ n6_; intro BK189 HB BK193 GW193 GE193 NB189_193 NB193_189; clear hb hbox hg; have hnb76 := NB193_189.out; have hnc76 := NB189_193.out; have hcz77_0 := cz40 BK193.out; have hcz77_1 := cz41 BK193.out; have hcz77_2 := cz42 BK193.out; have hcz77_3 := cz43 BK193.out; have hfz77_0 := blk_frozen BK193.out 0; have hfz77_1 := blk_frozen BK193.out 1; have hfz77_2 := blk_frozen BK193.out 2; have hfz77_3 := blk_frozen BK193.out 3))
                 have n0_ : Aside0 (((((w75.setCell ⟨gb193, 0, none⟩ (.int .i64 ((rd_T51 l0_3 x38_2).f0))).setCell ⟨gb193, 1, none⟩ (.string ((rd_T51 l0_3 x38_2).f1))).setCell ⟨gb193, 2, none⟩ (.int .i64 ((rd_T51 l0_3 x38_2).f2))).setCell ⟨gb193, 3, none⟩ (.int .i64 ((rd_T51 l0_3 x38_2).f3))).heap[gb189]? = some (.cells #[.int .i64 a0_0, .slice A0_1 l0_1.length c0_1, .slice A0_2 l0_2.length c0_2, .slice (some ad192) l0_3.length c0_3] 30 (0, 0))) := ⟨by (with_reducible repeat (first | refine kn ?_ _ | refine kd ?_ | refine ka ?_ _)); refine blk_far ?_ NB189_193.out _; (with_reducible repeat (first | refine kn ?_ _ | refine kd ?_ | refine ka ?_ _)); refine blk_far ?_ NB189_193.out _; (with_reducible repeat (first | refine kn ?_ _ | refine kd ?_ | refine ka ?_ _)); refine blk_far ?_ NB189_193.out _; (with_reducible repeat (first | refine kn ?_ _ | refine kd ?_ | refine ka ?_ _)); refine blk_far ?_ NB189_193.out _; (with_reducible repeat (first | refine kn ?_ _ | refine kd ?_ | refine ka ?_ _)); exact BK189.out⟩
                 have n1_ : Aside0 (((((w75.setCell ⟨gb193, 0, none⟩ (.int .i64 ((rd_T51 l0_3 x38_2).f0))).setCell ⟨gb193, 1, none⟩ (.string ((rd_T51 l0_3 x38_2).f1))).setCell ⟨gb193, 2, none⟩ (.int .i64 ((rd_T51 l0_3 x38_2).f2))).setCell ⟨gb193, 3, none⟩ (.int .i64 ((rd_T51 l0_3 x38_2).f3))).heap[gb193]? = some (.cells #[.int .i64 ((rd_T51 l0_3 x38_2).f0), .string ((rd_T51 l0_3 x38_2).f1), .int .i64 ((rd_T51 l0_3 x38_2).f2), .int .i64 ((rd_T51 l0_3 x38_2).f3)] 51 (0, 0))) := ⟨by (with_reducible repeat (first | refine kn ?_ _ | refine kd ?_ | refine ka ?_ _)); refine blk_put (cs := #[.int .i64 ((rd_T51 l0_3 x38_2).f0), .string ((rd_T51 l0_3 x38_2).f1), .int .i64 ((rd_T51 l0_3 x38_2).f2), .int .i64 0]) ?_ 3 _ rfl; (with_reducible repeat (first | refine kn ?_ _ | refine kd ?_ | refine ka ?_ _)); refine blk_put (cs := #[.int .i64 ((rd_T51 l0_3 x38_2).f0), .string ((rd_T51 l0_3 x38_2).f1), .int .i64 0, .int .i64 0]) ?_ 2 _ rfl; (with_reducible repeat (first | refine kn ?_ _ | refine kd ?_ | refine ka ?_ _)); refine blk_put (cs := #[.int .i64 ((rd_T51 l0_3 x38_2).f0), .string (⟨#[]⟩ : ByteArray), .int .i64 0, .int .i64 0]) ?_ 1 _ rfl; (with_reducible repeat (first | refine kn ?_ _ | refine kd ?_ | refine ka ?_ _)); refine blk_put (cs := #[.int .i64 0, .string (⟨#[]⟩ : ByteArray), .int .i64 0, .int .i64 0]) ?_ 0 _ rfl; (with_reducible repeat (first | refine kn ?_ _ | refine kd ?_ | refine ka ?_ _)); exact BK193.out⟩
                 have n2_ : Aside0 (Below w.heap.size w ((((w75.setCell ⟨gb193, 0, none⟩ (.int .i64 ((rd_T51 l0_3 x38_2).f0))).setCell ⟨gb193, 1, none⟩ (.string ((rd_T51 l0_3 x38_2).f1))).setCell ⟨gb193, 2, none⟩ (.int .i64 ((rd_T51 l0_3 x38_2).f2))).setCell ⟨gb193, 3, none⟩ (.int .i64 ((rd_T51 l0_3 x38_2).f3)))) := ⟨by exact bw HB.out⟩
                 (try clear BK189)
                 (try clear BK193)
                 (try clear HB)
                 generalize ((((w75.setCell ⟨gb193, 0, none⟩ (.int .i64 ((rd_T51 l0_3 x38_2).f0))).setCell ⟨gb193, 1, none⟩ (.string ((rd_T51 l0_3 x38_2).f1))).setCell ⟨gb193, 2, none⟩ (.int .i64 ((rd_T51 l0_3 x38_2).f2))).setCell ⟨gb193, 3, none⟩ (.int .i64 ((rd_T51 l0_3 x38_2).f3))) = w78 at n0_ n1_ n2_ ⊢
                 revert n0_ n1_ n2_; intro BK189 BK193 HB
                 have n0_ := am (blk_drew BK189.out)
                 have n1_ := am (blk_drew BK193.out)
                 have n2_ := am (below_drew1 HB.out)
                 clear BK189 BK193 HB
                 revert n0_ n1_ n2_; intro BK189 BK193 HB
                 refine start_ (n := 57) (S := fun w' => w'.cell? ⟨gb193, 0, none⟩ = some (.int .i64 ((rd_T51 l0_3 x38_2).f0)) ∧ w'.cell? ⟨gb193, 1, none⟩ = some (.string ((rd_T51 l0_3 x38_2).f1)) ∧ w'.cell? ⟨gb193, 2, none⟩ = some (.int .i64 ((rd_T51 l0_3 x38_2).f2)) ∧ w'.cell? ⟨gb193, 3, none⟩ = some (.int .i64 ((rd_T51 l0_3 x38_2).f3)) ∧ w'.cell? ⟨gb189, 0, none⟩ = some (.int .i64 a0_0) ∧ w'.cell? ⟨gb189, 1, none⟩ = some (.slice A0_1 l0_1.length c0_1) ∧ w'.cell? ⟨gb189, 2, none⟩ = some (.slice A0_2 l0_2.length c0_2) ∧ w'.cell? ⟨gb189, 3, none⟩ = some (.slice (some ad192) l0_3.length c0_3)) (ds := []) (mk 57 0) (by kernel_rfl) rfl rfl ⟨(blk_cell BK193.out 0).trans rfl, (blk_cell BK193.out 1).trans rfl, (blk_cell BK193.out 2).trans rfl, (blk_cell BK193.out 3).trans rfl, (blk_cell BK189.out 0).trans rfl, (blk_cell BK189.out 1).trans rfl, (blk_cell BK189.out 2).trans rfl, (blk_cell BK189.out 3).trans rfl⟩ (fun hHeld => ?_); refine with_tabW impl_AutomatonValid.tab6 impl_AutomatonValid.bits6 (fun HT_ HW_ => ?_)
                 generalize w78.drew = w79 at BK189 BK193 HB hHeld ⊢
                 refine pv 0 43 57 1 HT_ ?_
                 refine take_ (i := 1) (N := some 44) (v := ?_) (a' := ?_) (mk 57 3) rfl rfl (take_ofW HT_.out HW_.out (by kernel_rfl)) (fun _ _ _ h => h) (Or.inl ⟨by rfl, ?_⟩) hHeld ?_ ?_
                 rotate_left
                 ·rintro w' ⟨s0, s1, s2, s3, s4, s5, s6, s7⟩
                  go_simp
                  with_reducible rfl
                 rotate_left
                 ·simp only [Act.put, List.setIfInBounds_toArray, List.set_cons_zero, List.set_cons_succ, i64_w, i32_w]
                  rfl
                 refine pv 2 45 57 7 HT_ ?_
                 refine pv 3 46 57 15 HT_ ?_
                 refine pv 4 47 57 31 HT_ ?_
                 refine pv 6 49 57 95 HT_ ?_
                 refine take_ (i := 5) (N := some 48) (v := ?_) (a' := ?_) (mk 57 127) rfl rfl (take_ofW HT_.out HW_.out (by kernel_rfl)) (fun _ _ _ h => h) (Or.inl ⟨by rfl, ?_⟩) hHeld ?_ ?_
                 rotate_left
                 ·rintro w' ⟨s0, s1, s2, s3, s4, s5, s6, s7⟩
                  go_simp
                  with_reducible rfl
                 rotate_left
                 ·simp only [Act.put, List.setIfInBounds_toArray, List.set_cons_zero, List.set_cons_succ, i64_w, i32_w]
                  rfl
                 refine take_ (i := 7) (N := some 50) (v := ?_) (a' := ?_) (mk 57 255) rfl rfl (take_ofW HT_.out HW_.out (by kernel_rfl)) (fun _ _ _ h => h) (Or.inl ⟨by rfl, ?_⟩) hHeld ?_ ?_
                 rotate_left
                 ·rintro w' ⟨s0, s1, s2, s3, s4, s5, s6, s7⟩
                  go_simp
                  with_reducible rfl
                 rotate_left
                 ·simp only [Act.put, List.setIfInBounds_toArray, List.set_cons_zero, List.set_cons_succ, i64_w, i32_w]
                  rfl
                 refine pv 8 51 57 511 HT_ ?_
                 refine pv 9 52 57 1023 HT_ ?_
                 refine pv 10 53 57 2047 HT_ ?_
                 refine pv 11 54 57 4095 HT_ ?_
                 refine take_ (i := 12) (N := some 55) (v := ?_) (a' := ?_) (mk 57 8191) rfl rfl (take_ofW HT_.out HW_.out (by kernel_rfl)) (fun _ _ _ h => h) (Or.inl ⟨by rfl, ?_⟩) hHeld ?_ ?_
                 rotate_left
                 ·rintro w' ⟨s0, s1, s2, s3, s4, s5, s6, s7⟩
                  go_simp
                  with_reducible rfl
                 rotate_left
                 ·simp only [Act.put, List.setIfInBounds_toArray, List.set_cons_zero, List.set_cons_succ, i64_w, i32_w]
                  rfl
                 refine pv 13 56 57 16383 HT_ ?_
                 refine pv 14 57 57 32767 HT_ ?_
                 refine pv 15 58 57 65535 HT_ ?_
                 refine pv 16 59 57 131071 HT_ ?_
                 refine pv 18 61 57 393215 HT_ ?_
                 refine take_ (i := 17) (N := some 60) (v := ?_) (a' := ?_) (mk 57 524287) rfl rfl (take_ofW HT_.out HW_.out (by kernel_rfl)) (fun _ _ _ h => h) (Or.inl ⟨by rfl, ?_⟩) hHeld ?_ ?_
                 rotate_left
                 ·rintro w' ⟨s0, s1, s2, s3, s4, s5, s6, s7⟩
                  go_simp
                  with_reducible rfl
                 rotate_left
                 ·simp only [Act.put, List.setIfInBounds_toArray, List.set_cons_zero, List.set_cons_succ, i64_w, i32_w]
                  rfl
                 refine take_ (i := 19) (N := some 62) (v := ?_) (a' := ?_) (mk 57 1048575) rfl rfl (take_ofW HT_.out HW_.out (by kernel_rfl)) (fun _ _ _ h => h) (Or.inl ⟨by rfl, ?_⟩) hHeld ?_ ?_
                 rotate_left
                 ·rintro w' ⟨s0, s1, s2, s3, s4, s5, s6, s7⟩
                  go_simp
                  with_reducible rfl
                 rotate_left
                 ·simp only [Act.put, List.setIfInBounds_toArray, List.set_cons_zero, List.set_cons_succ, i64_w, i32_w]
                  rfl
                 refine pv 20 63 57 2097151 HT_ ?_
                 refine pv 21 64 57 4194303 HT_ ?_
                 refine pv 22 65 57 8388607 HT_ ?_
                 refine pv 23 66 57 16777215 HT_ ?_
                 refine take_ (i := 24) (N := some 67) (v := ?_) (a' := ?_) (mk 57 33554431) rfl rfl (take_ofW HT_.out HW_.out (by kernel_rfl)) (fun _ _ _ h => h) (Or.inl ⟨by rfl, ?_⟩) hHeld ?_ ?_
                 rotate_left
                 ·rintro w' ⟨s0, s1, s2, s3, s4, s5, s6, s7⟩
                  go_simp
                  with_reducible rfl
                 rotate_left
                 ·simp only [Act.put, List.setIfInBounds_toArray, List.set_cons_zero, List.set_cons_succ, i64_w, i32_w]
                  rfl
                 refine pv 25 68 57 67108863 HT_ ?_
                 refine pv 26 69 57 134217727 HT_ ?_
                 refine pu 27 70 57 268435455 HT_ ?_
                 refine pu 28 71 57 536870911 HT_ ?_
                 refine pu 29 72 57 1073741823 HT_ ?_
                 refine pv 30 73 57 2147483647 HT_ ?_
                 refine pv 31 74 57 4294967295 HT_ ?_
                 refine pv 32 75 57 8589934591 HT_ ?_
                 refine pv 33 76 57 17179869183 HT_ ?_
                 refine take_ (i := 34) (N := some 77) (v := ?_) (a' := ?_) (mk 57 34359738367) rfl rfl (take_ofW HT_.out HW_.out (by kernel_rfl)) (fun _ _ _ h => h) (Or.inl ⟨by rfl, ?_⟩) hHeld ?_ ?_
                 rotate_left
                 ·rintro w' ⟨s0, s1, s2, s3, s4, s5, s6, s7⟩
                  go_simp
                  with_reducible rfl
                 rotate_left
                 ·simp only [Act.put, List.setIfInBounds_toArray, List.set_cons_zero, List.set_cons_succ, i64_w, i32_w]
                  rfl
                 refine pv 35 78 57 68719476735 HT_ ?_
                 refine pv 36 79 57 137438953471 HT_ ?_
                 refine pv 37 80 57 274877906943 HT_ ?_
                 refine pv 38 81 57 549755813887 HT_ ?_
                 refine take_ (i := 39) (N := some 82) (v := ?_) (a' := ?_) (mk 57 1099511627775) rfl rfl (take_ofW HT_.out HW_.out (by kernel_rfl)) (fun _ _ _ h => h) (Or.inl ⟨by rfl, ?_⟩) hHeld ?_ ?_
                 rotate_left
                 ·rintro w' ⟨s0, s1, s2, s3, s4, s5, s6, s7⟩
                  go_simp
                  with_reducible rfl
                 rotate_left
                 ·simp only [Act.put, List.setIfInBounds_toArray, List.set_cons_zero, List.set_cons_succ, i64_w, i32_w]
                  rfl
                 refine pv 40 83 57 2199023255551 HT_ ?_
                 refine pv 41 84 57 4398046511103 HT_ ?_
                 refine pv 42 85 57 8796093022207 HT_ ?_
                 refine pv 43 86 57 17592186044415 HT_ ?_
                 refine pv 44 87 57 35184372088831 HT_ ?_
                 refine pv 45 88 57 70368744177663 HT_ ?_
                 refine pu 46 89 57 140737488355327 HT_ ?_
                 refine pu 47 90 57 281474976710655 HT_ ?_
                 refine pu 48 91 57 562949953421311 HT_ ?_
                 refine pu 49 92 57 1125899906842623 HT_ ?_
                 refine pu 50 93 57 2251799813685247 HT_ ?_
                 refine pu 51 94 57 4503599627370495 HT_ ?_
                 refine pu 52 95 57 9007199254740991 HT_ ?_
                 refine pu 53 96 57 18014398509481983 HT_ ?_
                 refine pu 54 97 57 36028797018963967 HT_ ?_
                 refine pv 55 98 57 72057594037927935 HT_ ?_
                 refine pv 56 99 57 144115188075855871 HT_ ?_
                 refine done_ (done_of HT_.out (by kernel_rfl)) ?_
                 try go_wp2
                 go_roundg k2
                 case measure => have := HJ1.out; have := HK2.out; omega
                 case rel => exact ⟨(wrap64 (x38_2 + 1)), (by first | rfl | (simp; done) | (simp [*]; done)), H', ⟨by have := HJ1.out; have := HK2.out; omega⟩, ⟨kz BK189.out⟩, ⟨by exact bw HB.out⟩⟩
             ·rw [if_neg c44] at H
              have c44b0 : (((rd_T51 l0_3 x38_2).f1).toList == ([97] : List UInt8)) = false := beq_eq_false_iff_ne.mpr c44
              have c44b1 : (((rd_T51 l0_3 x38_2).f1).toList != ([97] : List UInt8)) = true := bne_iff_ne.mpr c44
              by_cases c80 : ((rd_T51 l0_3 x38_2).f1).toList = ([98] : List UInt8)
              ·rw [if_pos c80] at H
               have c80b0 : (((rd_T51 l0_3 x38_2).f1).toList == ([98] : List UInt8)) = true := beq_iff_eq.mpr c80
               have c80b1 : (((rd_T51 l0_3 x38_2).f1).toList != ([98] : List UInt8)) = false := bne_eq_false_iff_eq.mpr c80
               clear c80
               by_cases c81 : ((rd_T51 l0_3 x38_2).f3) < 0
               ·rw [if_pos c81] at H
                have c81b0 : decide (((rd_T51 l0_3 x38_2).f3) < 0) = true := decide_eq_true c81
                clear c81
                obtain rfl := Option.some.inj H
                have p192 : 0 ≤ (x38_2 : Int) := of_decide_eq_true (by first | (with_reducible assumption) | assumption)
                have q192 : x38_2 < (l0_3.length : Int) := of_decide_eq_true (by first | (with_reducible assumption) | assumption)
                obtain ⟨ad192, e192, hx192_0, hx192_1, hx192_2, hx192_3⟩ := at_T51 HR0_3.out x38_2 p192 q192
                cases e192
                replace hx192_0 := (HB.out.cell (World.block_lt_of_cell? w _ hx192_0)).trans hx192_0
                replace hx192_1 := (HB.out.cell (World.block_lt_of_cell? w _ hx192_1)).trans hx192_1
                replace hx192_2 := (HB.out.cell (World.block_lt_of_cell? w _ hx192_2)).trans hx192_2
                replace hx192_3 := (HB.out.cell (World.block_lt_of_cell? w _ hx192_3)).trans hx192_3
                replace p192 := eq_true p192
                replace q192 := eq_true q192
                try go_wp2_with (first | ((with_reducible refine gate_dst (N := 4) rfl ?_); (try (refine gate_guard (by rfl) ?_; dsimp only)); refine box_event ?hg (N := 4) ?hd (cs := #[.int .i64 0, .string (⟨#[]⟩ : ByteArray), .int .i64 0, .int .i64 0]) (t := 51) ?hr ?_; (case hd => rfl); (case hg => rfl); (case hr => first | (go_simp; done) | (go_simp; rfl)); intro gb193 hg w82 hbox hb; have n0_ := bk BK189 hb; have n1_ := am (below_step (bw HB.out) hb); have n2_ := am (hbox); have n3_ := am ((by rw [hg]; exact (below_size (bw HB.out)) : w.heap.size ≤ gb193)); have n4_ := am ((by rw [hg]; exact (below_size (bw HB.out)) : w.heap.size ≤ gb193)); have n5_ := am ((by rw [hg]; exact Nat.ne_of_lt (blk_lt (kz BK189.out)) : gb189 ≠ gb193)); have n6_ := am ((by rw [hg]; exact Nat.ne_of_gt (blk_lt (kz BK189.out)) : gb193 ≠ gb189)); clear BK189 HB; revert n0_ n1_ n2_ n3_ n4_ n5_ n6_; intro BK189 HB BK193 GW193 GE193 NB189_193 NB193_189; clear hb hbox hg; have hnb83 := NB193_189.out; have hnc83 := NB189_193.out; have hcz84_0 := cz40 BK193.out; have hcz84_1 := cz41 BK193.out; have hcz84_2 := cz42 BK193.out; have hcz84_3 := cz43 BK193.out; have hfz84_0 := blk_frozen BK193.out 0; have hfz84_1 := blk_frozen BK193.out 1; have hfz84_2 := blk_frozen BK193.out 2; have hfz84_3 := blk_frozen BK193.out 3))
                have n0_ : Aside0 (((((w82.setCell ⟨gb193, 0, none⟩ (.int .i64 ((rd_T51 l0_3 x38_2).f0))).setCell ⟨gb193, 1, none⟩ (.string ((rd_T51 l0_3 x38_2).f1))).setCell ⟨gb193, 2, none⟩ (.int .i64 ((rd_T51 l0_3 x38_2).f2))).setCell ⟨gb193, 3, none⟩ (.int .i64 ((rd_T51 l0_3 x38_2).f3))).heap[gb189]? = some (.cells #[.int .i64 a0_0, .slice A0_1 l0_1.length c0_1, .slice A0_2 l0_2.length c0_2, .slice (some ad192) l0_3.length c0_3] 30 (0, 0))) := ⟨by (with_reducible repeat (first | refine kn ?_ _ | refine kd ?_ | refine ka ?_ _)); refine blk_far ?_ NB189_193.out _; (with_reducible repeat (first | refine kn ?_ _ | refine kd ?_ | refine ka ?_ _)); refine blk_far ?_ NB189_193.out _; (with_reducible repeat (first | refine kn ?_ _ | refine kd ?_ | refine ka ?_ _)); refine blk_far ?_ NB189_193.out _; (with_reducible repeat (first | refine kn ?_ _ | refine kd ?_ | refine ka ?_ _)); refine blk_far ?_ NB189_193.out _; (with_reducible repeat (first | refine kn ?_ _ | refine kd ?_ | refine ka ?_ _)); exact BK189.out⟩
                have n1_ : Aside0 (((((w82.setCell ⟨gb193, 0, none⟩ (.int .i64 ((rd_T51 l0_3 x38_2).f0))).setCell ⟨gb193, 1, none⟩ (.string ((rd_T51 l0_3 x38_2).f1))).setCell ⟨gb193, 2, none⟩ (.int .i64 ((rd_T51 l0_3 x38_2).f2))).setCell ⟨gb193, 3, none⟩ (.int .i64 ((rd_T51 l0_3 x38_2).f3))).heap[gb193]? = some (.cells #[.int .i64 ((rd_T51 l0_3 x38_2).f0), .string ((rd_T51 l0_3 x38_2).f1), .int .i64 ((rd_T51 l0_3 x38_2).f2), .int .i64 ((rd_T51 l0_3 x38_2).f3)] 51 (0, 0))) := ⟨by (with_reducible repeat (first | refine kn ?_ _ | refine kd ?_ | refine ka ?_ _)); refine blk_put (cs := #[.int .i64 ((rd_T51 l0_3 x38_2).f0), .string ((rd_T51 l0_3 x38_2).f1), .int .i64 ((rd_T51 l0_3 x38_2).f2), .int .i64 0]) ?_ 3 _ rfl; (with_reducible repeat (first | refine kn ?_ _ | refine kd ?_ | refine ka ?_ _)); refine blk_put (cs := #[.int .i64 ((rd_T51 l0_3 x38_2).f0), .string ((rd_T51 l0_3 x38_2).f1), .int .i64 0, .int .i64 0]) ?_ 2 _ rfl; (with_reducible repeat (first | refine kn ?_ _ | refine kd ?_ | refine ka ?_ _)); refine blk_put (cs := #[.int .i64 ((rd_T51 l0_3 x38_2).f0), .string (⟨#[]⟩ : ByteArray), .int .i64 0, .int .i64 0]) ?_ 1 _ rfl; (with_reducible repeat (first | refine kn ?_ _ | refine kd ?_ | refine ka ?_ _)); refine blk_put (cs := #[.int .i64 0, .string (⟨#[]⟩ : ByteArray), .int .i64 0, .int .i64 0]) ?_ 0 _ rfl; (with_reducible repeat (first | refine kn ?_ _ | refine kd ?_ | refine ka ?_ _)); exact BK193.out⟩
                have n2_ : Aside0 (Below w.heap.size w ((((w82.setCell ⟨gb193, 0, none⟩ (.int .i64 ((rd_T51 l0_3 x38_2).f0))).setCell ⟨gb193, 1, none⟩ (.string ((rd_T51 l0_3 x38_2).f1))).setCell ⟨gb193, 2, none⟩ (.int .i64 ((rd_T51 l0_3 x38_2).f2))).setCell ⟨gb193, 3, none⟩ (.int .i64 ((rd_T51 l0_3 x38_2).f3)))) := ⟨by exact bw HB.out⟩
                (try clear BK189)
                (try clear BK193)
                (try clear HB)
                generalize ((((w82.setCell ⟨gb193, 0, none⟩ (.int .i64 ((rd_T51 l0_3 x38_2).f0))).setCell ⟨gb193, 1, none⟩ (.string ((rd_T51 l0_3 x38_2).f1))).setCell ⟨gb193, 2, none⟩ (.int .i64 ((rd_T51 l0_3 x38_2).f2))).setCell ⟨gb193, 3, none⟩ (.int .i64 ((rd_T51 l0_3 x38_2).f3))) = w85 at n0_ n1_ n2_ ⊢
                revert n0_ n1_ n2_; intro BK189 BK193 HB
                have n0_ := am (blk_drew BK189.out)
                have n1_ := am (blk_drew BK193.out)
                have n2_ := am (below_drew1 HB.out)
                clear BK189 BK193 HB
                revert n0_ n1_ n2_; intro BK189 BK193 HB
                refine start_ (n := 57) (S := fun w' => w'.cell? ⟨gb193, 0, none⟩ = some (.int .i64 ((rd_T51 l0_3 x38_2).f0)) ∧ w'.cell? ⟨gb193, 1, none⟩ = some (.string ((rd_T51 l0_3 x38_2).f1)) ∧ w'.cell? ⟨gb193, 2, none⟩ = some (.int .i64 ((rd_T51 l0_3 x38_2).f2)) ∧ w'.cell? ⟨gb193, 3, none⟩ = some (.int .i64 ((rd_T51 l0_3 x38_2).f3)) ∧ w'.cell? ⟨gb189, 0, none⟩ = some (.int .i64 a0_0) ∧ w'.cell? ⟨gb189, 1, none⟩ = some (.slice A0_1 l0_1.length c0_1) ∧ w'.cell? ⟨gb189, 2, none⟩ = some (.slice A0_2 l0_2.length c0_2) ∧ w'.cell? ⟨gb189, 3, none⟩ = some (.slice (some ad192) l0_3.length c0_3)) (ds := []) (mk 57 0) (by kernel_rfl) rfl rfl ⟨(blk_cell BK193.out 0).trans rfl, (blk_cell BK193.out 1).trans rfl, (blk_cell BK193.out 2).trans rfl, (blk_cell BK193.out 3).trans rfl, (blk_cell BK189.out 0).trans rfl, (blk_cell BK189.out 1).trans rfl, (blk_cell BK189.out 2).trans rfl, (blk_cell BK189.out 3).trans rfl⟩ (fun hHeld => ?_); refine with_tabW impl_AutomatonValid.tab6 impl_AutomatonValid.bits6 (fun HT_ HW_ => ?_)
                generalize w85.drew = w86 at BK189 BK193 HB hHeld ⊢
                refine pv 0 43 57 1 HT_ ?_
                refine take_ (i := 1) (N := some 44) (v := ?_) (a' := ?_) (mk 57 3) rfl rfl (take_ofW HT_.out HW_.out (by kernel_rfl)) (fun _ _ _ h => h) (Or.inl ⟨by rfl, ?_⟩) hHeld ?_ ?_
                rotate_left
                ·rintro w' ⟨s0, s1, s2, s3, s4, s5, s6, s7⟩
                 go_simp
                 with_reducible rfl
                rotate_left
                ·simp only [Act.put, List.setIfInBounds_toArray, List.set_cons_zero, List.set_cons_succ, i64_w, i32_w]
                 rfl
                refine pv 2 45 57 7 HT_ ?_
                refine pv 3 46 57 15 HT_ ?_
                refine pv 4 47 57 31 HT_ ?_
                refine pv 6 49 57 95 HT_ ?_
                refine take_ (i := 5) (N := some 48) (v := ?_) (a' := ?_) (mk 57 127) rfl rfl (take_ofW HT_.out HW_.out (by kernel_rfl)) (fun _ _ _ h => h) (Or.inl ⟨by rfl, ?_⟩) hHeld ?_ ?_
                rotate_left
                ·rintro w' ⟨s0, s1, s2, s3, s4, s5, s6, s7⟩
                 go_simp
                 with_reducible rfl
                rotate_left
                ·simp only [Act.put, List.setIfInBounds_toArray, List.set_cons_zero, List.set_cons_succ, i64_w, i32_w]
                 rfl
                refine take_ (i := 7) (N := some 50) (v := ?_) (a' := ?_) (mk 57 255) rfl rfl (take_ofW HT_.out HW_.out (by kernel_rfl)) (fun _ _ _ h => h) (Or.inl ⟨by rfl, ?_⟩) hHeld ?_ ?_
                rotate_left
                ·rintro w' ⟨s0, s1, s2, s3, s4, s5, s6, s7⟩
                 go_simp
                 with_reducible rfl
                rotate_left
                ·simp only [Act.put, List.setIfInBounds_toArray, List.set_cons_zero, List.set_cons_succ, i64_w, i32_w]
                 rfl
                refine pv 8 51 57 511 HT_ ?_
                refine pv 9 52 57 1023 HT_ ?_
                refine pv 10 53 57 2047 HT_ ?_
                refine pv 11 54 57 4095 HT_ ?_
                refine take_ (i := 12) (N := some 55) (v := ?_) (a' := ?_) (mk 57 8191) rfl rfl (take_ofW HT_.out HW_.out (by kernel_rfl)) (fun _ _ _ h => h) (Or.inl ⟨by rfl, ?_⟩) hHeld ?_ ?_
                rotate_left
                ·rintro w' ⟨s0, s1, s2, s3, s4, s5, s6, s7⟩
                 go_simp
                 with_reducible rfl
                rotate_left
                ·simp only [Act.put, List.setIfInBounds_toArray, List.set_cons_zero, List.set_cons_succ, i64_w, i32_w]
                 rfl
                refine pv 13 56 57 16383 HT_ ?_
                refine pv 14 57 57 32767 HT_ ?_
                refine pv 15 58 57 65535 HT_ ?_
                refine pv 16 59 57 131071 HT_ ?_
                refine pv 18 61 57 393215 HT_ ?_
                refine take_ (i := 17) (N := some 60) (v := ?_) (a' := ?_) (mk 57 524287) rfl rfl (take_ofW HT_.out HW_.out (by kernel_rfl)) (fun _ _ _ h => h) (Or.inl ⟨by rfl, ?_⟩) hHeld ?_ ?_
                rotate_left
                ·rintro w' ⟨s0, s1, s2, s3, s4, s5, s6, s7⟩
                 go_simp
                 with_reducible rfl
                rotate_left
                ·simp only [Act.put, List.setIfInBounds_toArray, List.set_cons_zero, List.set_cons_succ, i64_w, i32_w]
                 rfl
                refine take_ (i := 19) (N := some 62) (v := ?_) (a' := ?_) (mk 57 1048575) rfl rfl (take_ofW HT_.out HW_.out (by kernel_rfl)) (fun _ _ _ h => h) (Or.inl ⟨by rfl, ?_⟩) hHeld ?_ ?_
                rotate_left
                ·rintro w' ⟨s0, s1, s2, s3, s4, s5, s6, s7⟩
                 go_simp
                 with_reducible rfl
                rotate_left
                ·simp only [Act.put, List.setIfInBounds_toArray, List.set_cons_zero, List.set_cons_succ, i64_w, i32_w]
                 rfl
                refine pv 20 63 57 2097151 HT_ ?_
                refine pv 21 64 57 4194303 HT_ ?_
                refine pv 22 65 57 8388607 HT_ ?_
                refine pv 23 66 57 16777215 HT_ ?_
                refine take_ (i := 24) (N := some 67) (v := ?_) (a' := ?_) (mk 57 33554431) rfl rfl (take_ofW HT_.out HW_.out (by kernel_rfl)) (fun _ _ _ h => h) (Or.inl ⟨by rfl, ?_⟩) hHeld ?_ ?_
                rotate_left
                ·rintro w' ⟨s0, s1, s2, s3, s4, s5, s6, s7⟩
                 go_simp
                 with_reducible rfl
                rotate_left
                ·simp only [Act.put, List.setIfInBounds_toArray, List.set_cons_zero, List.set_cons_succ, i64_w, i32_w]
                 rfl
                refine pv 25 68 57 67108863 HT_ ?_
                refine pv 26 69 57 134217727 HT_ ?_
                refine pv 27 70 57 268435455 HT_ ?_
                refine take_ (i := 28) (N := some 71) (v := ?_) (a' := ?_) (mk 57 536870911) rfl rfl (take_ofW HT_.out HW_.out (by kernel_rfl)) (fun _ _ _ h => h) (Or.inl ⟨by rfl, ?_⟩) hHeld ?_ ?_
                rotate_left
                ·rintro w' ⟨s0, s1, s2, s3, s4, s5, s6, s7⟩
                 go_simp
                 with_reducible rfl
                rotate_left
                ·simp only [Act.put, List.setIfInBounds_toArray, List.set_cons_zero, List.set_cons_succ, i64_w, i32_w]
                 rfl
                refine pv 29 72 57 1073741823 HT_ ?_
                refine pv 30 73 57 2147483647 HT_ ?_
                refine pv 31 74 57 4294967295 HT_ ?_
                refine pv 32 75 57 8589934591 HT_ ?_
                refine pv 33 76 57 17179869183 HT_ ?_
                refine take_ (i := 34) (N := some 77) (v := ?_) (a' := ?_) (mk 57 34359738367) rfl rfl (take_ofW HT_.out HW_.out (by kernel_rfl)) (fun _ _ _ h => h) (Or.inl ⟨by rfl, ?_⟩) hHeld ?_ ?_
                rotate_left
                ·rintro w' ⟨s0, s1, s2, s3, s4, s5, s6, s7⟩
                 go_simp
                 with_reducible rfl
                rotate_left
                ·simp only [Act.put, List.setIfInBounds_toArray, List.set_cons_zero, List.set_cons_succ, i64_w, i32_w]
                 rfl
                refine pv 35 78 57 68719476735 HT_ ?_
                refine pv 36 79 57 137438953471 HT_ ?_
                refine pv 37 80 57 274877906943 HT_ ?_
                refine pu 38 81 57 549755813887 HT_ ?_
                refine pu 39 82 57 1099511627775 HT_ ?_
                refine pu 40 83 57 2199023255551 HT_ ?_
                refine pv 41 84 57 4398046511103 HT_ ?_
                refine pv 42 85 57 8796093022207 HT_ ?_
                refine pu 43 86 57 17592186044415 HT_ ?_
                refine pu 44 87 57 35184372088831 HT_ ?_
                refine pu 45 88 57 70368744177663 HT_ ?_
                refine pu 46 89 57 140737488355327 HT_ ?_
                refine pu 47 90 57 281474976710655 HT_ ?_
                refine pu 48 91 57 562949953421311 HT_ ?_
                refine pu 49 92 57 1125899906842623 HT_ ?_
                refine pu 50 93 57 2251799813685247 HT_ ?_
                refine pu 51 94 57 4503599627370495 HT_ ?_
                refine pu 52 95 57 9007199254740991 HT_ ?_
                refine pu 53 96 57 18014398509481983 HT_ ?_
                refine pu 54 97 57 36028797018963967 HT_ ?_
                refine pu 55 98 57 72057594037927935 HT_ ?_
                refine pv 56 99 57 144115188075855871 HT_ ?_
                refine done_ (done_of HT_.out (by kernel_rfl)) ?_
                try go_wp2
                go_ret
                exact ⟨by first | rfl | (simp [errW_none, errW_some] <;> rfl) | (simp [*, errW_none, errW_some] <;> rfl), by exact bw HB.out⟩
               ·rw [if_neg c81] at H
                have c81b0 : decide (((rd_T51 l0_3 x38_2).f3) < 0) = false := decide_eq_false c81
                clear c81
                by_cases c87 : ((rd_T51 l0_3 x38_2).f3) > 3
                ·rw [if_pos c87] at H
                 have c87b0 : decide (3 < ((rd_T51 l0_3 x38_2).f3)) = true := decide_eq_true c87
                 clear c87
                 obtain rfl := Option.some.inj H
                 have p192 : 0 ≤ (x38_2 : Int) := of_decide_eq_true (by first | (with_reducible assumption) | assumption)
                 have q192 : x38_2 < (l0_3.length : Int) := of_decide_eq_true (by first | (with_reducible assumption) | assumption)
                 obtain ⟨ad192, e192, hx192_0, hx192_1, hx192_2, hx192_3⟩ := at_T51 HR0_3.out x38_2 p192 q192
                 cases e192
                 replace hx192_0 := (HB.out.cell (World.block_lt_of_cell? w _ hx192_0)).trans hx192_0
                 replace hx192_1 := (HB.out.cell (World.block_lt_of_cell? w _ hx192_1)).trans hx192_1
                 replace hx192_2 := (HB.out.cell (World.block_lt_of_cell? w _ hx192_2)).trans hx192_2
                 replace hx192_3 := (HB.out.cell (World.block_lt_of_cell? w _ hx192_3)).trans hx192_3
                 replace p192 := eq_true p192
                 replace q192 := eq_true q192
                 try go_wp2_with (first | ((with_reducible refine gate_dst (N := 4) rfl ?_); (try (refine gate_guard (by rfl) ?_; dsimp only)); refine box_event ?hg (N := 4) ?hd (cs := #[.int .i64 0, .string (⟨#[]⟩ : ByteArray), .int .i64 0, .int .i64 0]) (t := 51) ?hr ?_; (case hd => rfl); (case hg => rfl); (case hr => first | (go_simp; done) | (go_simp; rfl)); intro gb193 hg w88 hbox hb; have n0_ := bk BK189 hb; have n1_ := am (below_step (bw HB.out) hb); have n2_ := am (hbox); have n3_ := am ((by rw [hg]; exact (below_size (bw HB.out)) : w.heap.size ≤ gb193)); have n4_ := am ((by rw [hg]; exact (below_size (bw HB.out)) : w.heap.size ≤ gb193)); have n5_ := am ((by rw [hg]; exact Nat.ne_of_lt (blk_lt (kz BK189.out)) : gb189 ≠ gb193)); have n6_ := am ((by rw [hg]; exact Nat.ne_of_gt (blk_lt (kz BK189.out)) : gb193 ≠ gb189)); clear BK189 HB; revert n0_ n1_ n2_ n3_ n4_ n5_ n6_; intro BK189 HB BK193 GW193 GE193 NB189_193 NB193_189; clear hb hbox hg; have hnb89 := NB193_189.out; have hnc89 := NB189_193.out; have hcz90_0 := cz40 BK193.out; have hcz90_1 := cz41 BK193.out; have hcz90_2 := cz42 BK193.out; have hcz90_3 := cz43 BK193.out; have hfz90_0 := blk_frozen BK193.out 0; have hfz90_1 := blk_frozen BK193.out 1; have hfz90_2 := blk_frozen BK193.out 2; have hfz90_3 := blk_frozen BK193.out 3))
                 have n0_ : Aside0 (((((w88.setCell ⟨gb193, 0, none⟩ (.int .i64 ((rd_T51 l0_3 x38_2).f0))).setCell ⟨gb193, 1, none⟩ (.string ((rd_T51 l0_3 x38_2).f1))).setCell ⟨gb193, 2, none⟩ (.int .i64 ((rd_T51 l0_3 x38_2).f2))).setCell ⟨gb193, 3, none⟩ (.int .i64 ((rd_T51 l0_3 x38_2).f3))).heap[gb189]? = some (.cells #[.int .i64 a0_0, .slice A0_1 l0_1.length c0_1, .slice A0_2 l0_2.length c0_2, .slice (some ad192) l0_3.length c0_3] 30 (0, 0))) := ⟨by (with_reducible repeat (first | refine kn ?_ _ | refine kd ?_ | refine ka ?_ _)); refine blk_far ?_ NB189_193.out _; (with_reducible repeat (first | refine kn ?_ _ | refine kd ?_ | refine ka ?_ _)); refine blk_far ?_ NB189_193.out _; (with_reducible repeat (first | refine kn ?_ _ | refine kd ?_ | refine ka ?_ _)); refine blk_far ?_ NB189_193.out _; (with_reducible repeat (first | refine kn ?_ _ | refine kd ?_ | refine ka ?_ _)); refine blk_far ?_ NB189_193.out _; (with_reducible repeat (first | refine kn ?_ _ | refine kd ?_ | refine ka ?_ _)); exact BK189.out⟩
                 have n1_ : Aside0 (((((w88.setCell ⟨gb193, 0, none⟩ (.int .i64 ((rd_T51 l0_3 x38_2).f0))).setCell ⟨gb193, 1, none⟩ (.string ((rd_T51 l0_3 x38_2).f1))).setCell ⟨gb193, 2, none⟩ (.int .i64 ((rd_T51 l0_3 x38_2).f2))).setCell ⟨gb193, 3, none⟩ (.int .i64 ((rd_T51 l0_3 x38_2).f3))).heap[gb193]? = some (.cells #[.int .i64 ((rd_T51 l0_3 x38_2).f0), .string ((rd_T51 l0_3 x38_2).f1), .int .i64 ((rd_T51 l0_3 x38_2).f2), .int .i64 ((rd_T51 l0_3 x38_2).f3)] 51 (0, 0))) := ⟨by (with_reducible repeat (first | refine kn ?_ _ | refine kd ?_ | refine ka ?_ _)); refine blk_put (cs := #[.int .i64 ((rd_T51 l0_3 x38_2).f0), .string ((rd_T51 l0_3 x38_2).f1), .int .i64 ((rd_T51 l0_3 x38_2).f2), .int .i64 0]) ?_ 3 _ rfl; (with_reducible repeat (first | refine kn ?_ _ | refine kd ?_ | refine ka ?_ _)); refine blk_put (cs := #[.int .i64 ((rd_T51 l0_3 x38_2).f0), .string ((rd_T51 l0_3 x38_2).f1), .int .i64 0, .int .i64 0]) ?_ 2 _ rfl; (with_reducible repeat (first | refine kn ?_ _ | refine kd ?_ | refine ka ?_ _)); refine blk_put (cs := #[.int .i64 ((rd_T51 l0_3 x38_2).f0), .string (⟨#[]⟩ : ByteArray), .int .i64 0, .int .i64 0]) ?_ 1 _ rfl; (with_reducible repeat (first | refine kn ?_ _ | refine kd ?_ | refine ka ?_ _)); refine blk_put (cs := #[.int .i64 0, .string (⟨#[]⟩ : ByteArray), .int .i64 0, .int .i64 0]) ?_ 0 _ rfl; (with_reducible repeat (first | refine kn ?_ _ | refine kd ?_ | refine ka ?_ _)); exact BK193.out⟩
                 have n2_ : Aside0 (Below w.heap.size w ((((w88.setCell ⟨gb193, 0, none⟩ (.int .i64 ((rd_T51 l0_3 x38_2).f0))).setCell ⟨gb193, 1, none⟩ (.string ((rd_T51 l0_3 x38_2).f1))).setCell ⟨gb193, 2, none⟩ (.int .i64 ((rd_T51 l0_3 x38_2).f2))).setCell ⟨gb193, 3, none⟩ (.int .i64 ((rd_T51 l0_3 x38_2).f3)))) := ⟨by exact bw HB.out⟩
                 (try clear BK189)
                 (try clear BK193)
                 (try clear HB)
                 generalize ((((w88.setCell ⟨gb193, 0, none⟩ (.int .i64 ((rd_T51 l0_3 x38_2).f0))).setCell ⟨gb193, 1, none⟩ (.string ((rd_T51 l0_3 x38_2).f1))).setCell ⟨gb193, 2, none⟩ (.int .i64 ((rd_T51 l0_3 x38_2).f2))).setCell ⟨gb193, 3, none⟩ (.int .i64 ((rd_T51 l0_3 x38_2).f3))) = w91 at n0_ n1_ n2_ ⊢
                 revert n0_ n1_ n2_; intro BK189 BK193 HB
                 have n0_ := am (blk_drew BK189.out)
                 have n1_ := am (blk_drew BK193.out)
                 have n2_ := am (below_drew1 HB.out)
                 clear BK189 BK193 HB
                 revert n0_ n1_ n2_; intro BK189 BK193 HB
                 refine start_ (n := 57) (S := fun w' => w'.cell? ⟨gb193, 0, none⟩ = some (.int .i64 ((rd_T51 l0_3 x38_2).f0)) ∧ w'.cell? ⟨gb193, 1, none⟩ = some (.string ((rd_T51 l0_3 x38_2).f1)) ∧ w'.cell? ⟨gb193, 2, none⟩ = some (.int .i64 ((rd_T51 l0_3 x38_2).f2)) ∧ w'.cell? ⟨gb193, 3, none⟩ = some (.int .i64 ((rd_T51 l0_3 x38_2).f3)) ∧ w'.cell? ⟨gb189, 0, none⟩ = some (.int .i64 a0_0) ∧ w'.cell? ⟨gb189, 1, none⟩ = some (.slice A0_1 l0_1.length c0_1) ∧ w'.cell? ⟨gb189, 2, none⟩ = some (.slice A0_2 l0_2.length c0_2) ∧ w'.cell? ⟨gb189, 3, none⟩ = some (.slice (some ad192) l0_3.length c0_3)) (ds := []) (mk 57 0) (by kernel_rfl) rfl rfl ⟨(blk_cell BK193.out 0).trans rfl, (blk_cell BK193.out 1).trans rfl, (blk_cell BK193.out 2).trans rfl, (blk_cell BK193.out 3).trans rfl, (blk_cell BK189.out 0).trans rfl, (blk_cell BK189.out 1).trans rfl, (blk_cell BK189.out 2).trans rfl, (blk_cell BK189.out 3).trans rfl⟩ (fun hHeld => ?_); refine with_tabW impl_AutomatonValid.tab6 impl_AutomatonValid.bits6 (fun HT_ HW_ => ?_)
                 generalize w91.drew = w92 at BK189 BK193 HB hHeld ⊢
                 refine pv 0 43 57 1 HT_ ?_
                 refine take_ (i := 1) (N := some 44) (v := ?_) (a' := ?_) (mk 57 3) rfl rfl (take_ofW HT_.out HW_.out (by kernel_rfl)) (fun _ _ _ h => h) (Or.inl ⟨by rfl, ?_⟩) hHeld ?_ ?_
                 rotate_left
                 ·rintro w' ⟨s0, s1, s2, s3, s4, s5, s6, s7⟩
                  go_simp
                  with_reducible rfl
                 rotate_left
                 ·simp only [Act.put, List.setIfInBounds_toArray, List.set_cons_zero, List.set_cons_succ, i64_w, i32_w]
                  rfl
                 refine pv 2 45 57 7 HT_ ?_
                 refine pv 3 46 57 15 HT_ ?_
                 refine pv 4 47 57 31 HT_ ?_
                 refine pv 6 49 57 95 HT_ ?_
                 refine take_ (i := 5) (N := some 48) (v := ?_) (a' := ?_) (mk 57 127) rfl rfl (take_ofW HT_.out HW_.out (by kernel_rfl)) (fun _ _ _ h => h) (Or.inl ⟨by rfl, ?_⟩) hHeld ?_ ?_
                 rotate_left
                 ·rintro w' ⟨s0, s1, s2, s3, s4, s5, s6, s7⟩
                  go_simp
                  with_reducible rfl
                 rotate_left
                 ·simp only [Act.put, List.setIfInBounds_toArray, List.set_cons_zero, List.set_cons_succ, i64_w, i32_w]
                  rfl
                 refine take_ (i := 7) (N := some 50) (v := ?_) (a' := ?_) (mk 57 255) rfl rfl (take_ofW HT_.out HW_.out (by kernel_rfl)) (fun _ _ _ h => h) (Or.inl ⟨by rfl, ?_⟩) hHeld ?_ ?_
                 rotate_left
                 ·rintro w' ⟨s0, s1, s2, s3, s4, s5, s6, s7⟩
                  go_simp
                  with_reducible rfl
                 rotate_left
                 ·simp only [Act.put, List.setIfInBounds_toArray, List.set_cons_zero, List.set_cons_succ, i64_w, i32_w]
                  rfl
                 refine pv 8 51 57 511 HT_ ?_
                 refine pv 9 52 57 1023 HT_ ?_
                 refine pv 10 53 57 2047 HT_ ?_
                 refine pv 11 54 57 4095 HT_ ?_
                 refine take_ (i := 12) (N := some 55) (v := ?_) (a' := ?_) (mk 57 8191) rfl rfl (take_ofW HT_.out HW_.out (by kernel_rfl)) (fun _ _ _ h => h) (Or.inl ⟨by rfl, ?_⟩) hHeld ?_ ?_
                 rotate_left
                 ·rintro w' ⟨s0, s1, s2, s3, s4, s5, s6, s7⟩
                  go_simp
                  with_reducible rfl
                 rotate_left
                 ·simp only [Act.put, List.setIfInBounds_toArray, List.set_cons_zero, List.set_cons_succ, i64_w, i32_w]
                  rfl
                 refine pv 13 56 57 16383 HT_ ?_
                 refine pv 14 57 57 32767 HT_ ?_
                 refine pv 15 58 57 65535 HT_ ?_
                 refine pv 16 59 57 131071 HT_ ?_
                 refine pv 18 61 57 393215 HT_ ?_
                 refine take_ (i := 17) (N := some 60) (v := ?_) (a' := ?_) (mk 57 524287) rfl rfl (take_ofW HT_.out HW_.out (by kernel_rfl)) (fun _ _ _ h => h) (Or.inl ⟨by rfl, ?_⟩) hHeld ?_ ?_
                 rotate_left
                 ·rintro w' ⟨s0, s1, s2, s3, s4, s5, s6, s7⟩
                  go_simp
                  with_reducible rfl
                 rotate_left
                 ·simp only [Act.put, List.setIfInBounds_toArray, List.set_cons_zero, List.set_cons_succ, i64_w, i32_w]
                  rfl
                 refine take_ (i := 19) (N := some 62) (v := ?_) (a' := ?_) (mk 57 1048575) rfl rfl (take_ofW HT_.out HW_.out (by kernel_rfl)) (fun _ _ _ h => h) (Or.inl ⟨by rfl, ?_⟩) hHeld ?_ ?_
                 rotate_left
                 ·rintro w' ⟨s0, s1, s2, s3, s4, s5, s6, s7⟩
                  go_simp
                  with_reducible rfl
                 rotate_left
                 ·simp only [Act.put, List.setIfInBounds_toArray, List.set_cons_zero, List.set_cons_succ, i64_w, i32_w]
                  rfl
                 refine pv 20 63 57 2097151 HT_ ?_
                 refine pv 21 64 57 4194303 HT_ ?_
                 refine pv 22 65 57 8388607 HT_ ?_
                 refine pv 23 66 57 16777215 HT_ ?_
                 refine take_ (i := 24) (N := some 67) (v := ?_) (a' := ?_) (mk 57 33554431) rfl rfl (take_ofW HT_.out HW_.out (by kernel_rfl)) (fun _ _ _ h => h) (Or.inl ⟨by rfl, ?_⟩) hHeld ?_ ?_
                 rotate_left
                 ·rintro w' ⟨s0, s1, s2, s3, s4, s5, s6, s7⟩
                  go_simp
                  with_reducible rfl
                 rotate_left
                 ·simp only [Act.put, List.setIfInBounds_toArray, List.set_cons_zero, List.set_cons_succ, i64_w, i32_w]
                  rfl
                 refine pv 25 68 57 67108863 HT_ ?_
                 refine pv 26 69 57 134217727 HT_ ?_
                 refine pv 27 70 57 268435455 HT_ ?_
                 refine take_ (i := 28) (N := some 71) (v := ?_) (a' := ?_) (mk 57 536870911) rfl rfl (take_ofW HT_.out HW_.out (by kernel_rfl)) (fun _ _ _ h => h) (Or.inl ⟨by rfl, ?_⟩) hHeld ?_ ?_
                 rotate_left
                 ·rintro w' ⟨s0, s1, s2, s3, s4, s5, s6, s7⟩
                  go_simp
                  with_reducible rfl
                 rotate_left
                 ·simp only [Act.put, List.setIfInBounds_toArray, List.set_cons_zero, List.set_cons_succ, i64_w, i32_w]
                  rfl
                 refine pv 29 72 57 1073741823 HT_ ?_
                 refine pv 30 73 57 2147483647 HT_ ?_
                 refine pv 31 74 57 4294967295 HT_ ?_
                 refine pv 32 75 57 8589934591 HT_ ?_
                 refine pv 33 76 57 17179869183 HT_ ?_
                 refine take_ (i := 34) (N := some 77) (v := ?_) (a' := ?_) (mk 57 34359738367) rfl rfl (take_ofW HT_.out HW_.out (by kernel_rfl)) (fun _ _ _ h => h) (Or.inl ⟨by rfl, ?_⟩) hHeld ?_ ?_
                 rotate_left
                 ·rintro w' ⟨s0, s1, s2, s3, s4, s5, s6, s7⟩
                  go_simp
                  with_reducible rfl
                 rotate_left
                 ·simp only [Act.put, List.setIfInBounds_toArray, List.set_cons_zero, List.set_cons_succ, i64_w, i32_w]
                  rfl
                 refine pv 35 78 57 68719476735 HT_ ?_
                 refine pv 36 79 57 137438953471 HT_ ?_
                 refine pv 37 80 57 274877906943 HT_ ?_
                 refine pv 38 81 57 549755813887 HT_ ?_
                 refine take_ (i := 39) (N := some 82) (v := ?_) (a' := ?_) (mk 57 1099511627775) rfl rfl (take_ofW HT_.out HW_.out (by kernel_rfl)) (fun _ _ _ h => h) (Or.inl ⟨by rfl, ?_⟩) hHeld ?_ ?_
                 rotate_left
                 ·rintro w' ⟨s0, s1, s2, s3, s4, s5, s6, s7⟩
                  go_simp
                  with_reducible rfl
                 rotate_left
                 ·simp only [Act.put, List.setIfInBounds_toArray, List.set_cons_zero, List.set_cons_succ, i64_w, i32_w]
                  rfl
                 refine pv 40 83 57 2199023255551 HT_ ?_
                 refine pv 41 84 57 4398046511103 HT_ ?_
                 refine pv 42 85 57 8796093022207 HT_ ?_
                 refine pu 43 86 57 17592186044415 HT_ ?_
                 refine pu 44 87 57 35184372088831 HT_ ?_
                 refine pu 45 88 57 70368744177663 HT_ ?_
                 refine pu 46 89 57 140737488355327 HT_ ?_
                 refine pu 47 90 57 281474976710655 HT_ ?_
                 refine pu 48 91 57 562949953421311 HT_ ?_
                 refine pu 49 92 57 1125899906842623 HT_ ?_
                 refine pu 50 93 57 2251799813685247 HT_ ?_
                 refine pu 51 94 57 4503599627370495 HT_ ?_
                 refine pu 52 95 57 9007199254740991 HT_ ?_
                 refine pu 53 96 57 18014398509481983 HT_ ?_
                 refine pu 54 97 57 36028797018963967 HT_ ?_
                 refine pu 55 98 57 72057594037927935 HT_ ?_
                 refine pv 56 99 57 144115188075855871 HT_ ?_
                 refine done_ (done_of HT_.out (by kernel_rfl)) ?_
                 try go_wp2
                 go_ret
                 exact ⟨by first | rfl | (simp [errW_none, errW_some] <;> rfl) | (simp [*, errW_none, errW_some] <;> rfl), by exact bw HB.out⟩
                ·rw [if_neg c87] at H
                 have c87b0 : decide (3 < ((rd_T51 l0_3 x38_2).f3)) = false := decide_eq_false c87
                 clear c87
                 by_cases c93 : x38_2 > 0
                 ·rw [if_pos c93] at H
                  have c93b0 : decide (0 < x38_2) = true := decide_eq_true c93
                  clear c93
                  obtain ⟨ji94, hji94⟩ : ∃ j_ : Int, (wrap64 (x38_2 - 1)) = j_ := ⟨_, rfl⟩
                  replace H : (if 0 ≤ (ji94) then (if (ji94) < (l0_3.length : Int) then ((impl_stepOrder.f k2 ((rd_T51 l0_3 (ji94)).f0) ((rd_T51 l0_3 (ji94)).f1) ((rd_T51 l0_3 (ji94)).f2) ((rd_T51 l0_3 (ji94)).f3) ((rd_T51 l0_3 x38_2).f0) ((rd_T51 l0_3 x38_2).f1) ((rd_T51 l0_3 x38_2).f2) ((rd_T51 l0_3 x38_2).f3)).bind fun t197 => (if t197 ≥ 0 then (some false) else (impl_AutomatonValid.l0 k2 l0_3 (l0_3.length : Int) (wrap64 (x38_2 + 1)) a0_0 l0_1 l0_2 l0_3))) else (none)) else (none)) = some r := by first | (rw [hji94] at H; exact H) | (simp only [hji94] at H ⊢; exact H)
                  have hji94w : (IntKind.i64.wrap (x38_2 - 1)) = ji94 := (i64_w _).trans hji94
                  by_cases c95 : 0 ≤ (ji94)
                  ·rw [if_pos c95] at H
                   have c95b0 : decide (0 ≤ (ji94)) = true := decide_eq_true c95
                   clear c95
                   by_cases c96 : (ji94) < (l0_3.length : Int)
                   ·rw [if_pos c96] at H
                    have c96b0 : decide ((ji94) < (l0_3.length : Int)) = true := decide_eq_true c96
                    clear c96
                    replace H := Option.bind_eq_some_iff.mp H
                    obtain ⟨t197, A970, H⟩ := H
                    (try dsimp only at H)
                    have A97 := am A970
                    clear A970
                    by_cases c98 : t197 ≥ 0
                    ·rw [if_pos c98] at H
                     have c98b0 : decide (0 ≤ t197) = true := decide_eq_true c98
                     clear c98
                     obtain rfl := Option.some.inj H
                     have p192 : 0 ≤ (x38_2 : Int) := of_decide_eq_true (by first | (with_reducible assumption) | assumption)
                     have q192 : x38_2 < (l0_3.length : Int) := of_decide_eq_true (by first | (with_reducible assumption) | assumption)
                     obtain ⟨ad192, e192, hx192_0, hx192_1, hx192_2, hx192_3⟩ := at_T51 HR0_3.out x38_2 p192 q192
                     cases e192
                     replace hx192_0 := (HB.out.cell (World.block_lt_of_cell? w _ hx192_0)).trans hx192_0
                     replace hx192_1 := (HB.out.cell (World.block_lt_of_cell? w _ hx192_1)).trans hx192_1
                     replace hx192_2 := (HB.out.cell (World.block_lt_of_cell? w _ hx192_2)).trans hx192_2
                     replace hx192_3 := (HB.out.cell (World.block_lt_of_cell? w _ hx192_3)).trans hx192_3
                     replace p192 := eq_true p192
                     replace q192 := eq_true q192
                     try go_wp2_with (first | ((with_reducible refine gate_dst (N := 4) rfl ?_); (try (refine gate_guard (by rfl) ?_; dsimp only)); refine box_event ?hg (N := 4) ?hd (cs := #[.int .i64 0, .string (⟨#[]⟩ : ByteArray), .int .i64 0, .int .i64 0]) (t := 51) ?hr ?_; (case hd => rfl); (case hg => rfl); (case hr => first | (go_simp; done) | (go_simp; rfl)); intro gb193 hg w99 hbox hb; have n0_ := bk BK189 hb; have n1_ := am (below_step (bw HB.out) hb); have n2_ := am (hbox); have n3_ := am ((by rw [hg]; exact (below_size (bw HB.out)) : w.heap.size ≤ gb193)); have n4_ := am ((by rw [hg]; exact (below_size (bw HB.out)) : w.heap.size ≤ gb193)); have n5_ := am ((by rw [hg]; exact Nat.ne_of_lt (blk_lt (kz BK189.out)) : gb189 ≠ gb193)); have n6_ := am ((by rw [hg]; exact Nat.ne_of_gt (blk_lt (kz BK189.out)) : gb193 ≠ gb189)); clear BK189 HB; revert n0_ n1_ n2_ n3_ n4_ n5_ n6_; intro BK189 HB BK193 GW193 GE193 NB189_193 NB193_189; clear hb hbox hg; have hnb100 := NB193_189.out; have hnc100 := NB189_193.out; have hcz101_0 := cz40 BK193.out; have hcz101_1 := cz41 BK193.out; have hcz101_2 := cz42 BK193.out; have hcz101_3 := cz43 BK193.out; have hfz101_0 := blk_frozen BK193.out 0; have hfz101_1 := blk_frozen BK193.out 1; have hfz101_2 := blk_frozen BK193.out 2; have hfz101_3 := blk_frozen BK193.out 3))
                     have n0_ : Aside0 (((((w99.setCell ⟨gb193, 0, none⟩ (.int .i64 ((rd_T51 l0_3 x38_2).f0))).setCell ⟨gb193, 1, none⟩ (.string ((rd_T51 l0_3 x38_2).f1))).setCell ⟨gb193, 2, none⟩ (.int .i64 ((rd_T51 l0_3 x38_2).f2))).setCell ⟨gb193, 3, none⟩ (.int .i64 ((rd_T51 l0_3 x38_2).f3))).heap[gb189]? = some (.cells #[.int .i64 a0_0, .slice A0_1 l0_1.length c0_1, .slice A0_2 l0_2.length c0_2, .slice (some ad192) l0_3.length c0_3] 30 (0, 0))) := ⟨by (with_reducible repeat (first | refine kn ?_ _ | refine kd ?_ | refine ka ?_ _)); refine blk_far ?_ NB189_193.out _; (with_reducible repeat (first | refine kn ?_ _ | refine kd ?_ | refine ka ?_ _)); refine blk_far ?_ NB189_193.out _; (with_reducible repeat (first | refine kn ?_ _ | refine kd ?_ | refine ka ?_ _)); refine blk_far ?_ NB189_193.out _; (with_reducible repeat (first | refine kn ?_ _ | refine kd ?_ | refine ka ?_ _)); refine blk_far ?_ NB189_193.out _; (with_reducible repeat (first | refine kn ?_ _ | refine kd ?_ | refine ka ?_ _)); exact BK189.out⟩
                     have n1_ : Aside0 (((((w99.setCell ⟨gb193, 0, none⟩ (.int .i64 ((rd_T51 l0_3 x38_2).f0))).setCell ⟨gb193, 1, none⟩ (.string ((rd_T51 l0_3 x38_2).f1))).setCell ⟨gb193, 2, none⟩ (.int .i64 ((rd_T51 l0_3 x38_2).f2))).setCell ⟨gb193, 3, none⟩ (.int .i64 ((rd_T51 l0_3 x38_2).f3))).heap[gb193]? = some (.cells #[.int .i64 ((rd_T51 l0_3 x38_2).f0), .string ((rd_T51 l0_3 x38_2).f1), .int .i64 ((rd_T51 l0_3 x38_2).f2), .int .i64 ((rd_T51 l0_3 x38_2).f3)] 51 (0, 0))) := ⟨by (with_reducible repeat (first | refine kn ?_ _ | refine kd ?_ | refine ka ?_ _)); refine blk_put (cs := #[.int .i64 ((rd_T51 l0_3 x38_2).f0), .string ((rd_T51 l0_3 x38_2).f1), .int .i64 ((rd_T51 l0_3 x38_2).f2), .int .i64 0]) ?_ 3 _ rfl; (with_reducible repeat (first | refine kn ?_ _ | refine kd ?_ | refine ka ?_ _)); refine blk_put (cs := #[.int .i64 ((rd_T51 l0_3 x38_2).f0), .string ((rd_T51 l0_3 x38_2).f1), .int .i64 0, .int .i64 0]) ?_ 2 _ rfl; (with_reducible repeat (first | refine kn ?_ _ | refine kd ?_ | refine ka ?_ _)); refine blk_put (cs := #[.int .i64 ((rd_T51 l0_3 x38_2).f0), .string (⟨#[]⟩ : ByteArray), .int .i64 0, .int .i64 0]) ?_ 1 _ rfl; (with_reducible repeat (first | refine kn ?_ _ | refine kd ?_ | refine ka ?_ _)); refine blk_put (cs := #[.int .i64 0, .string (⟨#[]⟩ : ByteArray), .int .i64 0, .int .i64 0]) ?_ 0 _ rfl; (with_reducible repeat (first | refine kn ?_ _ | refine kd ?_ | refine ka ?_ _)); exact BK193.out⟩
                     have n2_ : Aside0 (Below w.heap.size w ((((w99.setCell ⟨gb193, 0, none⟩ (.int .i64 ((rd_T51 l0_3 x38_2).f0))).setCell ⟨gb193, 1, none⟩ (.string ((rd_T51 l0_3 x38_2).f1))).setCell ⟨gb193, 2, none⟩ (.int .i64 ((rd_T51 l0_3 x38_2).f2))).setCell ⟨gb193, 3, none⟩ (.int .i64 ((rd_T51 l0_3 x38_2).f3)))) := ⟨by exact bw HB.out⟩
                     (try clear BK189)
                     (try clear BK193)
                     (try clear HB)
                     generalize ((((w99.setCell ⟨gb193, 0, none⟩ (.int .i64 ((rd_T51 l0_3 x38_2).f0))).setCell ⟨gb193, 1, none⟩ (.string ((rd_T51 l0_3 x38_2).f1))).setCell ⟨gb193, 2, none⟩ (.int .i64 ((rd_T51 l0_3 x38_2).f2))).setCell ⟨gb193, 3, none⟩ (.int .i64 ((rd_T51 l0_3 x38_2).f3))) = w102 at n0_ n1_ n2_ ⊢
                     revert n0_ n1_ n2_; intro BK189 BK193 HB
                     have n0_ := am (blk_drew BK189.out)
                     have n1_ := am (blk_drew BK193.out)
                     have n2_ := am (below_drew1 HB.out)
                     clear BK189 BK193 HB
                     revert n0_ n1_ n2_; intro BK189 BK193 HB
                     have p196 : 0 ≤ ((ji94) : Int) := of_decide_eq_true (by first | (with_reducible assumption) | assumption)
                     have q196 : (ji94) < (l0_3.length : Int) := of_decide_eq_true (by first | (with_reducible assumption) | assumption)
                     obtain ⟨ad196, e196, hx196_0, hx196_1, hx196_2, hx196_3⟩ := at_T51 HR0_3.out (ji94) p196 q196
                     have hw196_3 := hx196_3
                     have hw196_2 := hx196_2
                     have hw196_1 := hx196_1
                     have hw196_0 := hx196_0
                     obtain rfl : ad192 = ad196 := (by injection e196)
                     replace hx196_0 := (HB.out.cell (World.block_lt_of_cell? w _ hx196_0)).trans hx196_0
                     replace hx196_1 := (HB.out.cell (World.block_lt_of_cell? w _ hx196_1)).trans hx196_1
                     replace hx196_2 := (HB.out.cell (World.block_lt_of_cell? w _ hx196_2)).trans hx196_2
                     replace hx196_3 := (HB.out.cell (World.block_lt_of_cell? w _ hx196_3)).trans hx196_3
                     replace p196 := eq_true p196
                     replace q196 := eq_true q196
                     refine start_ (n := 57) (S := fun w' => w'.cell? ⟨gb193, 0, none⟩ = some (.int .i64 ((rd_T51 l0_3 x38_2).f0)) ∧ w'.cell? ⟨gb193, 1, none⟩ = some (.string ((rd_T51 l0_3 x38_2).f1)) ∧ w'.cell? ⟨gb193, 2, none⟩ = some (.int .i64 ((rd_T51 l0_3 x38_2).f2)) ∧ w'.cell? ⟨gb193, 3, none⟩ = some (.int .i64 ((rd_T51 l0_3 x38_2).f3)) ∧ w'.cell? ⟨gb189, 0, none⟩ = some (.int .i64 a0_0) ∧ w'.cell? ⟨gb189, 1, none⟩ = some (.slice A0_1 l0_1.length c0_1) ∧ w'.cell? ⟨gb189, 2, none⟩ = some (.slice A0_2 l0_2.length c0_2) ∧ w'.cell? ⟨gb189, 3, none⟩ = some (.slice (some ad192) l0_3.length c0_3) ∧ w'.cell? (ad192.add (((ji94)).toNat * 4)) = some (.int .i64 ((rd_T51 l0_3 (ji94)).f0)) ∧ w'.cell? ⟨(ad192.add (((ji94)).toNat * 4)).block, (ad192.add (((ji94)).toNat * 4)).off + 1, none⟩ = some (.string ((rd_T51 l0_3 (ji94)).f1)) ∧ w'.cell? ⟨(ad192.add (((ji94)).toNat * 4)).block, (ad192.add (((ji94)).toNat * 4)).off + 2, none⟩ = some (.int .i64 ((rd_T51 l0_3 (ji94)).f2)) ∧ w'.cell? ⟨(ad192.add (((ji94)).toNat * 4)).block, (ad192.add (((ji94)).toNat * 4)).off + 3, none⟩ = some (.int .i64 ((rd_T51 l0_3 (ji94)).f3))) (ds := []) (mk 57 0) (by kernel_rfl) rfl rfl ⟨(blk_cell BK193.out 0).trans rfl, (blk_cell BK193.out 1).trans rfl, (blk_cell BK193.out 2).trans rfl, (blk_cell BK193.out 3).trans rfl, (blk_cell BK189.out 0).trans rfl, (blk_cell BK189.out 1).trans rfl, (blk_cell BK189.out 2).trans rfl, (blk_cell BK189.out 3).trans rfl, ((HB.out.cell (World.block_lt_of_cell? w _ hw196_0)).trans hw196_0), ((HB.out.cell (World.block_lt_of_cell? w _ hw196_1)).trans hw196_1), ((HB.out.cell (World.block_lt_of_cell? w _ hw196_2)).trans hw196_2), ((HB.out.cell (World.block_lt_of_cell? w _ hw196_3)).trans hw196_3)⟩ (fun hHeld => ?_); refine with_tabW impl_AutomatonValid.tab6 impl_AutomatonValid.bits6 (fun HT_ HW_ => ?_)
                     generalize w102.drew = w103 at BK189 BK193 HB hx196_0 hx196_1 hx196_2 hx196_3 hHeld ⊢
                     refine pv 0 43 57 1 HT_ ?_
                     refine take_ (i := 1) (N := some 44) (v := ?_) (a' := ?_) (mk 57 3) rfl rfl (take_ofW HT_.out HW_.out (by kernel_rfl)) (fun _ _ _ h => h) (Or.inl ⟨by rfl, ?_⟩) hHeld ?_ ?_
                     rotate_left
                     ·rintro w' ⟨s0, s1, s2, s3, s4, s5, s6, s7, s8, s9, s10, s11⟩
                      go_simp
                      with_reducible rfl
                     rotate_left
                     ·simp only [Act.put, List.setIfInBounds_toArray, List.set_cons_zero, List.set_cons_succ, i64_w, i32_w]
                      rfl
                     refine pv 2 45 57 7 HT_ ?_
                     refine pv 3 46 57 15 HT_ ?_
                     refine pv 4 47 57 31 HT_ ?_
                     refine pv 6 49 57 95 HT_ ?_
                     refine take_ (i := 5) (N := some 48) (v := ?_) (a' := ?_) (mk 57 127) rfl rfl (take_ofW HT_.out HW_.out (by kernel_rfl)) (fun _ _ _ h => h) (Or.inl ⟨by rfl, ?_⟩) hHeld ?_ ?_
                     rotate_left
                     ·rintro w' ⟨s0, s1, s2, s3, s4, s5, s6, s7, s8, s9, s10, s11⟩
                      go_simp
                      with_reducible rfl
                     rotate_left
                     ·simp only [Act.put, List.setIfInBounds_toArray, List.set_cons_zero, List.set_cons_succ, i64_w, i32_w]
                      rfl
                     refine take_ (i := 7) (N := some 50) (v := ?_) (a' := ?_) (mk 57 255) rfl rfl (take_ofW HT_.out HW_.out (by kernel_rfl)) (fun _ _ _ h => h) (Or.inl ⟨by rfl, ?_⟩) hHeld ?_ ?_
                     rotate_left
                     ·rintro w' ⟨s0, s1, s2, s3, s4, s5, s6, s7, s8, s9, s10, s11⟩
                      go_simp
                      with_reducible rfl
                     rotate_left
                     ·simp only [Act.put, List.setIfInBounds_toArray, List.set_cons_zero, List.set_cons_succ, i64_w, i32_w]
                      rfl
                     refine pv 8 51 57 511 HT_ ?_
                     refine pv 9 52 57 1023 HT_ ?_
                     refine pv 10 53 57 2047 HT_ ?_
                     refine pv 11 54 57 4095 HT_ ?_
                     refine take_ (i := 12) (N := some 55) (v := ?_) (a' := ?_) (mk 57 8191) rfl rfl (take_ofW HT_.out HW_.out (by kernel_rfl)) (fun _ _ _ h => h) (Or.inl ⟨by rfl, ?_⟩) hHeld ?_ ?_
                     rotate_left
                     ·rintro w' ⟨s0, s1, s2, s3, s4, s5, s6, s7, s8, s9, s10, s11⟩
                      go_simp
                      with_reducible rfl
                     rotate_left
                     ·simp only [Act.put, List.setIfInBounds_toArray, List.set_cons_zero, List.set_cons_succ, i64_w, i32_w]
                      rfl
                     refine pv 13 56 57 16383 HT_ ?_
                     refine pv 14 57 57 32767 HT_ ?_
                     refine pv 15 58 57 65535 HT_ ?_
                     refine pv 16 59 57 131071 HT_ ?_
                     refine pv 18 61 57 393215 HT_ ?_
                     refine take_ (i := 17) (N := some 60) (v := ?_) (a' := ?_) (mk 57 524287) rfl rfl (take_ofW HT_.out HW_.out (by kernel_rfl)) (fun _ _ _ h => h) (Or.inl ⟨by rfl, ?_⟩) hHeld ?_ ?_
                     rotate_left
                     ·rintro w' ⟨s0, s1, s2, s3, s4, s5, s6, s7, s8, s9, s10, s11⟩
                      go_simp
                      with_reducible rfl
                     rotate_left
                     ·simp only [Act.put, List.setIfInBounds_toArray, List.set_cons_zero, List.set_cons_succ, i64_w, i32_w]
                      rfl
                     refine take_ (i := 19) (N := some 62) (v := ?_) (a' := ?_) (mk 57 1048575) rfl rfl (take_ofW HT_.out HW_.out (by kernel_rfl)) (fun _ _ _ h => h) (Or.inl ⟨by rfl, ?_⟩) hHeld ?_ ?_
                     rotate_left
                     ·rintro w' ⟨s0, s1, s2, s3, s4, s5, s6, s7, s8, s9, s10, s11⟩
                      go_simp
                      with_reducible rfl
                     rotate_left
                     ·simp only [Act.put, List.setIfInBounds_toArray, List.set_cons_zero, List.set_cons_succ, i64_w, i32_w]
                      rfl
                     refine pv 20 63 57 2097151 HT_ ?_
                     refine pv 21 64 57 4194303 HT_ ?_
                     refine pv 22 65 57 8388607 HT_ ?_
                     refine pv 23 66 57 16777215 HT_ ?_
                     refine take_ (i := 24) (N := some 67) (v := ?_) (a' := ?_) (mk 57 33554431) rfl rfl (take_ofW HT_.out HW_.out (by kernel_rfl)) (fun _ _ _ h => h) (Or.inl ⟨by rfl, ?_⟩) hHeld ?_ ?_
                     rotate_left
                     ·rintro w' ⟨s0, s1, s2, s3, s4, s5, s6, s7, s8, s9, s10, s11⟩
                      go_simp
                      with_reducible rfl
                     rotate_left
                     ·simp only [Act.put, List.setIfInBounds_toArray, List.set_cons_zero, List.set_cons_succ, i64_w, i32_w]
                      rfl
                     refine pv 25 68 57 67108863 HT_ ?_
                     refine pv 26 69 57 134217727 HT_ ?_
                     refine pv 27 70 57 268435455 HT_ ?_
                     refine take_ (i := 28) (N := some 71) (v := ?_) (a' := ?_) (mk 57 536870911) rfl rfl (take_ofW HT_.out HW_.out (by kernel_rfl)) (fun _ _ _ h => h) (Or.inl ⟨by rfl, ?_⟩) hHeld ?_ ?_
                     rotate_left
                     ·rintro w' ⟨s0, s1, s2, s3, s4, s5, s6, s7, s8, s9, s10, s11⟩
                      go_simp
                      with_reducible rfl
                     rotate_left
                     ·simp only [Act.put, List.setIfInBounds_toArray, List.set_cons_zero, List.set_cons_succ, i64_w, i32_w]
                      rfl
                     refine pv 29 72 57 1073741823 HT_ ?_
                     refine pv 30 73 57 2147483647 HT_ ?_
                     refine pv 31 74 57 4294967295 HT_ ?_
                     refine pv 32 75 57 8589934591 HT_ ?_
                     refine pv 33 76 57 17179869183 HT_ ?_
                     refine take_ (i := 34) (N := some 77) (v := ?_) (a' := ?_) (mk 57 34359738367) rfl rfl (take_ofW HT_.out HW_.out (by kernel_rfl)) (fun _ _ _ h => h) (Or.inl ⟨by rfl, ?_⟩) hHeld ?_ ?_
                     rotate_left
                     ·rintro w' ⟨s0, s1, s2, s3, s4, s5, s6, s7, s8, s9, s10, s11⟩
                      go_simp
                      with_reducible rfl
                     rotate_left
                     ·simp only [Act.put, List.setIfInBounds_toArray, List.set_cons_zero, List.set_cons_succ, i64_w, i32_w]
                      rfl
                     refine pv 35 78 57 68719476735 HT_ ?_
                     refine pv 36 79 57 137438953471 HT_ ?_
                     refine pv 37 80 57 274877906943 HT_ ?_
                     refine pv 38 81 57 549755813887 HT_ ?_
                     refine take_ (i := 39) (N := some 82) (v := ?_) (a' := ?_) (mk 57 1099511627775) rfl rfl (take_ofW HT_.out HW_.out (by kernel_rfl)) (fun _ _ _ h => h) (Or.inl ⟨by rfl, ?_⟩) hHeld ?_ ?_
                     rotate_left
                     ·rintro w' ⟨s0, s1, s2, s3, s4, s5, s6, s7, s8, s9, s10, s11⟩
                      go_simp
                      with_reducible rfl
                     rotate_left
                     ·simp only [Act.put, List.setIfInBounds_toArray, List.set_cons_zero, List.set_cons_succ, i64_w, i32_w]
                      rfl
                     refine pv 40 83 57 2199023255551 HT_ ?_
                     refine pv 41 84 57 4398046511103 HT_ ?_
                     refine pv 42 85 57 8796093022207 HT_ ?_
                     refine pv 43 86 57 17592186044415 HT_ ?_
                     refine pv 44 87 57 35184372088831 HT_ ?_
                     refine pv 45 88 57 70368744177663 HT_ ?_
                     refine pv 46 89 57 140737488355327 HT_ ?_
                     refine pv 48 91 57 422212465065983 HT_ ?_
                     refine pv 49 92 57 985162418487295 HT_ ?_
                     refine take_ (i := 47) (N := some 90) (v := ?_) (a' := ?_) (mk 57 1125899906842623) rfl rfl (take_ofW HT_.out HW_.out (by kernel_rfl)) (fun _ _ _ h => h) (Or.inl ⟨by rfl, ?_⟩) hHeld ?_ ?_
                     rotate_left
                     ·rintro w' ⟨s0, s1, s2, s3, s4, s5, s6, s7, s8, s9, s10, s11⟩
                      go_simp
                      with_reducible rfl
                     rotate_left
                     ·simp only [Act.put, List.setIfInBounds_toArray, List.set_cons_zero, List.set_cons_succ, i64_w, i32_w]
                      rfl
                     refine pv 50 93 57 2251799813685247 HT_ ?_
                     refine take_ (i := 51) (N := some 94) (v := ?_) (a' := ?_) (mk 57 4503599627370495) rfl rfl (take_ofW HT_.out HW_.out (by kernel_rfl)) (fun _ _ _ h => h) (Or.inl ⟨by rfl, ?_⟩) hHeld ?_ ?_
                     rotate_left
                     ·rintro w' ⟨s0, s1, s2, s3, s4, s5, s6, s7, s8, s9, s10, s11⟩
                      go_simp
                      with_reducible rfl
                     rotate_left
                     ·simp only [Act.put, List.setIfInBounds_toArray, List.set_cons_zero, List.set_cons_succ, i64_w, i32_w]
                      rfl
                     refine take_ (i := 52) (N := some 95) (v := ?_) (a' := ?_) (mk 57 9007199254740991) rfl rfl (take_ofW HT_.out HW_.out (by kernel_rfl)) (fun _ _ _ h => h) (Or.inl ⟨by rfl, ?_⟩) hHeld ?_ ?_
                     rotate_left
                     ·rintro w' ⟨s0, s1, s2, s3, s4, s5, s6, s7, s8, s9, s10, s11⟩
                      go_simp
                      with_reducible rfl
                     rotate_left
                     ·simp only [Act.put, List.setIfInBounds_toArray, List.set_cons_zero, List.set_cons_succ, i64_w, i32_w]
                      rfl
                     refine one_ (i := 53) (N := some 96) (mk 57 18014398509481983) rfl rfl (one_of HT_.out (by kernel_rfl)) (by decide) (fun K hK => ?_)
                     refine goes_ Try.func45 (by kernel_rfl) rfl #[.agg #[.int .i64 ((rd_T51 l0_3 (ji94)).f0), .string ((rd_T51 l0_3 (ji94)).f1), .int .i64 ((rd_T51 l0_3 (ji94)).f2), .int .i64 ((rd_T51 l0_3 (ji94)).f3)], .agg #[.int .i64 ((rd_T51 l0_3 x38_2).f0), .string ((rd_T51 l0_3 x38_2).f1), .int .i64 ((rd_T51 l0_3 x38_2).f2), .int .i64 ((rd_T51 l0_3 x38_2).f3)]] (by rfl) rfl rfl (by (try simp only [List.map_toArray, List.map_cons, List.map_nil]); first | done | (simp only [hji94]; rfl) | rfl | (simp only [List.length_drop, List.length_take]; rfl)) ?_
                     with_reducible refine (impl_stepOrder.calls k2 ((rd_T51 l0_3 (ji94)).f0) ((rd_T51 l0_3 (ji94)).f1) ((rd_T51 l0_3 (ji94)).f2) ((rd_T51 l0_3 (ji94)).f3) ((rd_T51 l0_3 x38_2).f0) ((rd_T51 l0_3 x38_2).f1) ((rd_T51 l0_3 x38_2).f2) ((rd_T51 l0_3 x38_2).f3) t197 _ A97.out).mono ?_
                     rintro e w104 ⟨rfl, hb⟩
                     refine ⟨_, rfl, ?_⟩
                     have n0_ := bk BK189 hb
                     have n1_ := bk BK193 hb
                     have n2_ := am (below_step (bw HB.out) hb)
                     clear BK189 BK193 HB
                     revert n0_ n1_ n2_; intro BK189 BK193 HB
                     (try clear hb)
                     (try clear hb2)
                     (try clear hk)
                     (try clear hi)
                     refine hK.out _ _ ⟨(blk_cell BK193.out 0).trans rfl, (blk_cell BK193.out 1).trans rfl, (blk_cell BK193.out 2).trans rfl, (blk_cell BK193.out 3).trans rfl, (blk_cell BK189.out 0).trans rfl, (blk_cell BK189.out 1).trans rfl, (blk_cell BK189.out 2).trans rfl, (blk_cell BK189.out 3).trans rfl, ((HB.out.cell (World.block_lt_of_cell? w _ hw196_0)).trans hw196_0), ((HB.out.cell (World.block_lt_of_cell? w _ hw196_1)).trans hw196_1), ((HB.out.cell (World.block_lt_of_cell? w _ hw196_2)).trans hw196_2), ((HB.out.cell (World.block_lt_of_cell? w _ hw196_3)).trans hw196_3)⟩ (fun hHeld => ?_)
                     clear hK K
                     refine norm_ (a' := ?_) ?_ ?_
                     rotate_left
                     ·show Act.put _ (some 96) _ = _
                      simp only [Act.put, List.setIfInBounds_toArray, List.set_cons_zero, List.set_cons_succ, i64_w, i32_w]
                      rfl
                     refine pv 54 97 57 36028797018963967 HT_ ?_
                     refine pv 55 98 57 72057594037927935 HT_ ?_
                     refine pv 56 99 57 144115188075855871 HT_ ?_
                     refine done_ (done_of HT_.out (by kernel_rfl)) ?_
                     try go_wp2
                     go_ret
                     exact ⟨by first | rfl | (simp [errW_none, errW_some] <;> rfl) | (simp only [← hji94]; first | rfl | (simp [errW_none, errW_some] <;> rfl)) | (simp [*, errW_none, errW_some] <;> rfl), by exact bw HB.out⟩
                    ·rw [if_neg c98] at H
                     have c98b0 : decide (0 ≤ t197) = false := decide_eq_false c98
                     clear c98
                     have H' := am H
                     clear H
                     have p192 : 0 ≤ (x38_2 : Int) := of_decide_eq_true (by first | (with_reducible assumption) | assumption)
                     have q192 : x38_2 < (l0_3.length : Int) := of_decide_eq_true (by first | (with_reducible assumption) | assumption)
                     obtain ⟨ad192, e192, hx192_0, hx192_1, hx192_2, hx192_3⟩ := at_T51 HR0_3.out x38_2 p192 q192
                     cases e192
                     replace hx192_0 := (HB.out.cell (World.block_lt_of_cell? w _ hx192_0)).trans hx192_0
                     replace hx192_1 := (HB.out.cell (World.block_lt_of_cell? w _ hx192_1)).trans hx192_1
                     replace hx192_2 := (HB.out.cell (World.block_lt_of_cell? w _ hx192_2)).trans hx192_2
                     replace hx192_3 := (HB.out.cell (World.block_lt_of_cell? w _ hx192_3)).trans hx192_3
                     replace p192 := eq_true p192
                     replace q192 := eq_true q192
                     try go_wp2_with (first | ((with_reducible refine gate_dst (N := 4) rfl ?_); (try (refine gate_guard (by rfl) ?_; dsimp only)); refine box_event ?hg (N := 4) ?hd (cs := #[.int .i64 0, .string (⟨#[]⟩ : ByteArray), .int .i64 0, .int .i64 0]) (t := 51) ?hr ?_; (case hd => rfl); (case hg => rfl); (case hr => first | (go_simp; done) | (go_simp; rfl)); intro gb193 hg w105 hbox hb; have n0_ := bk BK189 hb; have n1_ := am (below_step (bw HB.out) hb); have n2_ := am (hbox); have n3_ := am ((by rw [hg]; exact (below_size (bw HB.out)) : w.heap.size ≤ gb193)); have n4_ := am ((by rw [hg]; exact (below_size (bw HB.out)) : w.heap.size ≤ gb193)); have n5_ := am ((by rw [hg]; exact Nat.ne_of_lt (blk_lt (kz BK189.out)) : gb189 ≠ gb193)); have n6_ := am ((by rw [hg]; exact Nat.ne_of_gt (blk_lt (kz BK189.out)) : gb193 ≠ gb189)); clear BK189 HB; revert n0_ n1_ n2_ n3_ n4_ n5_ n6_; intro BK189 HB BK193 GW193 GE193 NB189_193 NB193_189; clear hb hbox hg; have hnb106 := NB193_189.out; have hnc106 := NB189_193.out; have hcz107_0 := cz40 BK193.out; have hcz107_1 := cz41 BK193.out; have hcz107_2 := cz42 BK193.out; have hcz107_3 := cz43 BK193.out; have hfz107_0 := blk_frozen BK193.out 0; have hfz107_1 := blk_frozen BK193.out 1; have hfz107_2 := blk_frozen BK193.out 2; have hfz107_3 := blk_frozen BK193.out 3))
                     have n0_ : Aside0 (((((w105.setCell ⟨gb193, 0, none⟩ (.int .i64 ((rd_T51 l0_3 x38_2).f0))).setCell ⟨gb193, 1, none⟩ (.string ((rd_T51 l0_3 x38_2).f1))).setCell ⟨gb193, 2, none⟩ (.int .i64 ((rd_T51 l0_3 x38_2).f2))).setCell ⟨gb193, 3, none⟩ (.int .i64 ((rd_T51 l0_3 x38_2).f3))).heap[gb189]? = some (.cells #[.int .i64 a0_0, .slice A0_1 l0_1.length c0_1, .slice A0_2 l0_2.length c0_2, .slice (some ad192) l0_3.length c0_3] 30 (0, 0))) := ⟨by (with_reducible repeat (first | refine kn ?_ _ | refine kd ?_ | refine ka ?_ _)); refine blk_far ?_ NB189_193.out _; (with_reducible repeat (first | refine kn ?_ _ | refine kd ?_ | refine ka ?_ _)); refine blk_far ?_ NB189_193.out _; (with_reducible repeat (first | refine kn ?_ _ | refine kd ?_ | refine ka ?_ _)); refine blk_far ?_ NB189_193.out _; (with_reducible repeat (first | refine kn ?_ _ | refine kd ?_ | refine ka ?_ _)); refine blk_far ?_ NB189_193.out _; (with_reducible repeat (first | refine kn ?_ _ | refine kd ?_ | refine ka ?_ _)); exact BK189.out⟩
                     have n1_ : Aside0 (((((w105.setCell ⟨gb193, 0, none⟩ (.int .i64 ((rd_T51 l0_3 x38_2).f0))).setCell ⟨gb193, 1, none⟩ (.string ((rd_T51 l0_3 x38_2).f1))).setCell ⟨gb193, 2, none⟩ (.int .i64 ((rd_T51 l0_3 x38_2).f2))).setCell ⟨gb193, 3, none⟩ (.int .i64 ((rd_T51 l0_3 x38_2).f3))).heap[gb193]? = some (.cells #[.int .i64 ((rd_T51 l0_3 x38_2).f0), .string ((rd_T51 l0_3 x38_2).f1), .int .i64 ((rd_T51 l0_3 x38_2).f2), .int .i64 ((rd_T51 l0_3 x38_2).f3)] 51 (0, 0))) := ⟨by (with_reducible repeat (first | refine kn ?_ _ | refine kd ?_ | refine ka ?_ _)); refine blk_put (cs := #[.int .i64 ((rd_T51 l0_3 x38_2).f0), .string ((rd_T51 l0_3 x38_2).f1), .int .i64 ((rd_T51 l0_3 x38_2).f2), .int .i64 0]) ?_ 3 _ rfl; (with_reducible repeat (first | refine kn ?_ _ | refine kd ?_ | refine ka ?_ _)); refine blk_put (cs := #[.int .i64 ((rd_T51 l0_3 x38_2).f0), .string ((rd_T51 l0_3 x38_2).f1), .int .i64 0, .int .i64 0]) ?_ 2 _ rfl; (with_reducible repeat (first | refine kn ?_ _ | refine kd ?_ | refine ka ?_ _)); refine blk_put (cs := #[.int .i64 ((rd_T51 l0_3 x38_2).f0), .string (⟨#[]⟩ : ByteArray), .int .i64 0, .int .i64 0]) ?_ 1 _ rfl; (with_reducible repeat (first | refine kn ?_ _ | refine kd ?_ | refine ka ?_ _)); refine blk_put (cs := #[.int .i64 0, .string (⟨#[]⟩ : ByteArray), .int .i64 0, .int .i64 0]) ?_ 0 _ rfl; (with_reducible repeat (first | refine kn ?_ _ | refine kd ?_ | refine ka ?_ _)); exact BK193.out⟩
                     have n2_ : Aside0 (Below w.heap.size w ((((w105.setCell ⟨gb193, 0, none⟩ (.int .i64 ((rd_T51 l0_3 x38_2).f0))).setCell ⟨gb193, 1, none⟩ (.string ((rd_T51 l0_3 x38_2).f1))).setCell ⟨gb193, 2, none⟩ (.int .i64 ((rd_T51 l0_3 x38_2).f2))).setCell ⟨gb193, 3, none⟩ (.int .i64 ((rd_T51 l0_3 x38_2).f3)))) := ⟨by exact bw HB.out⟩
                     (try clear BK189)
                     (try clear BK193)
                     (try clear HB)
                     generalize ((((w105.setCell ⟨gb193, 0, none⟩ (.int .i64 ((rd_T51 l0_3 x38_2).f0))).setCell ⟨gb193, 1, none⟩ (.string ((rd_T51 l0_3 x38_2).f1))).setCell ⟨gb193, 2, none⟩ (.int .i64 ((rd_T51 l0_3 x38_2).f2))).setCell ⟨gb193, 3, none⟩ (.int .i64 ((rd_T51 l0_3 x38_2).f3))) = w108 at n0_ n1_ n2_ ⊢
                     revert n0_ n1_ n2_; intro BK189 BK193 HB
                     have n0_ := am (blk_drew BK189.out)
                     have n1_ := am (blk_drew BK193.out)
                     have n2_ := am (below_drew1 HB.out)
                     clear BK189 BK193 HB
                     revert n0_ n1_ n2_; intro BK189 BK193 HB
                     have p196 : 0 ≤ ((ji94) : Int) := of_decide_eq_true (by first | (with_reducible assumption) | assumption)
                     have q196 : (ji94) < (l0_3.length : Int) := of_decide_eq_true (by first | (with_reducible assumption) | assumption)
                     obtain ⟨ad196, e196, hx196_0, hx196_1, hx196_2, hx196_3⟩ := at_T51 HR0_3.out (ji94) p196 q196
                     have hw196_3 := hx196_3
                     have hw196_2 := hx196_2
                     have hw196_1 := hx196_1
                     have hw196_0 := hx196_0
                     obtain rfl : ad192 = ad196 := (by injection e196)
                     replace hx196_0 := (HB.out.cell (World.block_lt_of_cell? w _ hx196_0)).trans hx196_0
                     replace hx196_1 := (HB.out.cell (World.block_lt_of_cell? w _ hx196_1)).trans hx196_1
                     replace hx196_2 := (HB.out.cell (World.block_lt_of_cell? w _ hx196_2)).trans hx196_2
                     replace hx196_3 := (HB.out.cell (World.block_lt_of_cell? w _ hx196_3)).trans hx196_3
                     replace p196 := eq_true p196
                     replace q196 := eq_true q196
                     refine start_ (n := 57) (S := fun w' => w'.cell? ⟨gb193, 0, none⟩ = some (.int .i64 ((rd_T51 l0_3 x38_2).f0)) ∧ w'.cell? ⟨gb193, 1, none⟩ = some (.string ((rd_T51 l0_3 x38_2).f1)) ∧ w'.cell? ⟨gb193, 2, none⟩ = some (.int .i64 ((rd_T51 l0_3 x38_2).f2)) ∧ w'.cell? ⟨gb193, 3, none⟩ = some (.int .i64 ((rd_T51 l0_3 x38_2).f3)) ∧ w'.cell? ⟨gb189, 0, none⟩ = some (.int .i64 a0_0) ∧ w'.cell? ⟨gb189, 1, none⟩ = some (.slice A0_1 l0_1.length c0_1) ∧ w'.cell? ⟨gb189, 2, none⟩ = some (.slice A0_2 l0_2.length c0_2) ∧ w'.cell? ⟨gb189, 3, none⟩ = some (.slice (some ad192) l0_3.length c0_3) ∧ w'.cell? (ad192.add (((ji94)).toNat * 4)) = some (.int .i64 ((rd_T51 l0_3 (ji94)).f0)) ∧ w'.cell? ⟨(ad192.add (((ji94)).toNat * 4)).block, (ad192.add (((ji94)).toNat * 4)).off + 1, none⟩ = some (.string ((rd_T51 l0_3 (ji94)).f1)) ∧ w'.cell? ⟨(ad192.add (((ji94)).toNat * 4)).block, (ad192.add (((ji94)).toNat * 4)).off + 2, none⟩ = some (.int .i64 ((rd_T51 l0_3 (ji94)).f2)) ∧ w'.cell? ⟨(ad192.add (((ji94)).toNat * 4)).block, (ad192.add (((ji94)).toNat * 4)).off + 3, none⟩ = some (.int .i64 ((rd_T51 l0_3 (ji94)).f3))) (ds := []) (mk 57 0) (by kernel_rfl) rfl rfl ⟨(blk_cell BK193.out 0).trans rfl, (blk_cell BK193.out 1).trans rfl, (blk_cell BK193.out 2).trans rfl, (blk_cell BK193.out 3).trans rfl, (blk_cell BK189.out 0).trans rfl, (blk_cell BK189.out 1).trans rfl, (blk_cell BK189.out 2).trans rfl, (blk_cell BK189.out 3).trans rfl, ((HB.out.cell (World.block_lt_of_cell? w _ hw196_0)).trans hw196_0), ((HB.out.cell (World.block_lt_of_cell? w _ hw196_1)).trans hw196_1), ((HB.out.cell (World.block_lt_of_cell? w _ hw196_2)).trans hw196_2), ((HB.out.cell (World.block_lt_of_cell? w _ hw196_3)).trans hw196_3)⟩ (fun hHeld => ?_); refine with_tabW impl_AutomatonValid.tab6 impl_AutomatonValid.bits6 (fun HT_ HW_ => ?_)
                     generalize w108.drew = w109 at BK189 BK193 HB hx196_0 hx196_1 hx196_2 hx196_3 hHeld ⊢
                     refine pv 0 43 57 1 HT_ ?_
                     refine take_ (i := 1) (N := some 44) (v := ?_) (a' := ?_) (mk 57 3) rfl rfl (take_ofW HT_.out HW_.out (by kernel_rfl)) (fun _ _ _ h => h) (Or.inl ⟨by rfl, ?_⟩) hHeld ?_ ?_
                     rotate_left
                     ·rintro w' ⟨s0, s1, s2, s3, s4, s5, s6, s7, s8, s9, s10, s11⟩
                      go_simp
                      with_reducible rfl
                     rotate_left
                     ·simp only [Act.put, List.setIfInBounds_toArray, List.set_cons_zero, List.set_cons_succ, i64_w, i32_w]
                      rfl
                     refine pv 2 45 57 7 HT_ ?_
                     refine pv 3 46 57 15 HT_ ?_
                     refine pv 4 47 57 31 HT_ ?_
                     refine pv 6 49 57 95 HT_ ?_
                     refine take_ (i := 5) (N := some 48) (v := ?_) (a' := ?_) (mk 57 127) rfl rfl (take_ofW HT_.out HW_.out (by kernel_rfl)) (fun _ _ _ h => h) (Or.inl ⟨by rfl, ?_⟩) hHeld ?_ ?_
                     rotate_left
                     ·rintro w' ⟨s0, s1, s2, s3, s4, s5, s6, s7, s8, s9, s10, s11⟩
                      go_simp
                      with_reducible rfl
                     rotate_left
                     ·simp only [Act.put, List.setIfInBounds_toArray, List.set_cons_zero, List.set_cons_succ, i64_w, i32_w]
                      rfl
                     refine take_ (i := 7) (N := some 50) (v := ?_) (a' := ?_) (mk 57 255) rfl rfl (take_ofW HT_.out HW_.out (by kernel_rfl)) (fun _ _ _ h => h) (Or.inl ⟨by rfl, ?_⟩) hHeld ?_ ?_
                     rotate_left
                     ·rintro w' ⟨s0, s1, s2, s3, s4, s5, s6, s7, s8, s9, s10, s11⟩
                      go_simp
                      with_reducible rfl
                     rotate_left
                     ·simp only [Act.put, List.setIfInBounds_toArray, List.set_cons_zero, List.set_cons_succ, i64_w, i32_w]
                      rfl
                     refine pv 8 51 57 511 HT_ ?_
                     refine pv 9 52 57 1023 HT_ ?_
                     refine pv 10 53 57 2047 HT_ ?_
                     refine pv 11 54 57 4095 HT_ ?_
                     refine take_ (i := 12) (N := some 55) (v := ?_) (a' := ?_) (mk 57 8191) rfl rfl (take_ofW HT_.out HW_.out (by kernel_rfl)) (fun _ _ _ h => h) (Or.inl ⟨by rfl, ?_⟩) hHeld ?_ ?_
                     rotate_left
                     ·rintro w' ⟨s0, s1, s2, s3, s4, s5, s6, s7, s8, s9, s10, s11⟩
                      go_simp
                      with_reducible rfl
                     rotate_left
                     ·simp only [Act.put, List.setIfInBounds_toArray, List.set_cons_zero, List.set_cons_succ, i64_w, i32_w]
                      rfl
                     refine pv 13 56 57 16383 HT_ ?_
                     refine pv 14 57 57 32767 HT_ ?_
                     refine pv 15 58 57 65535 HT_ ?_
                     refine pv 16 59 57 131071 HT_ ?_
                     refine pv 18 61 57 393215 HT_ ?_
                     refine take_ (i := 17) (N := some 60) (v := ?_) (a' := ?_) (mk 57 524287) rfl rfl (take_ofW HT_.out HW_.out (by kernel_rfl)) (fun _ _ _ h => h) (Or.inl ⟨by rfl, ?_⟩) hHeld ?_ ?_
                     rotate_left
                     ·rintro w' ⟨s0, s1, s2, s3, s4, s5, s6, s7, s8, s9, s10, s11⟩
                      go_simp
                      with_reducible rfl
                     rotate_left
                     ·simp only [Act.put, List.setIfInBounds_toArray, List.set_cons_zero, List.set_cons_succ, i64_w, i32_w]
                      rfl
                     refine take_ (i := 19) (N := some 62) (v := ?_) (a' := ?_) (mk 57 1048575) rfl rfl (take_ofW HT_.out HW_.out (by kernel_rfl)) (fun _ _ _ h => h) (Or.inl ⟨by rfl, ?_⟩) hHeld ?_ ?_
                     rotate_left
                     ·rintro w' ⟨s0, s1, s2, s3, s4, s5, s6, s7, s8, s9, s10, s11⟩
                      go_simp
                      with_reducible rfl
                     rotate_left
                     ·simp only [Act.put, List.setIfInBounds_toArray, List.set_cons_zero, List.set_cons_succ, i64_w, i32_w]
                      rfl
                     refine pv 20 63 57 2097151 HT_ ?_
                     refine pv 21 64 57 4194303 HT_ ?_
                     refine pv 22 65 57 8388607 HT_ ?_
                     refine pv 23 66 57 16777215 HT_ ?_
                     refine take_ (i := 24) (N := some 67) (v := ?_) (a' := ?_) (mk 57 33554431) rfl rfl (take_ofW HT_.out HW_.out (by kernel_rfl)) (fun _ _ _ h => h) (Or.inl ⟨by rfl, ?_⟩) hHeld ?_ ?_
                     rotate_left
                     ·rintro w' ⟨s0, s1, s2, s3, s4, s5, s6, s7, s8, s9, s10, s11⟩
                      go_simp
                      with_reducible rfl
                     rotate_left
                     ·simp only [Act.put, List.setIfInBounds_toArray, List.set_cons_zero, List.set_cons_succ, i64_w, i32_w]
                      rfl
                     refine pv 25 68 57 67108863 HT_ ?_
                     refine pv 26 69 57 134217727 HT_ ?_
                     refine pv 27 70 57 268435455 HT_ ?_
                     refine take_ (i := 28) (N := some 71) (v := ?_) (a' := ?_) (mk 57 536870911) rfl rfl (take_ofW HT_.out HW_.out (by kernel_rfl)) (fun _ _ _ h => h) (Or.inl ⟨by rfl, ?_⟩) hHeld ?_ ?_
                     rotate_left
                     ·rintro w' ⟨s0, s1, s2, s3, s4, s5, s6, s7, s8, s9, s10, s11⟩
                      go_simp
                      with_reducible rfl
                     rotate_left
                     ·simp only [Act.put, List.setIfInBounds_toArray, List.set_cons_zero, List.set_cons_succ, i64_w, i32_w]
                      rfl
                     refine pv 29 72 57 1073741823 HT_ ?_
                     refine pv 30 73 57 2147483647 HT_ ?_
                     refine pv 31 74 57 4294967295 HT_ ?_
                     refine pv 32 75 57 8589934591 HT_ ?_
                     refine pv 33 76 57 17179869183 HT_ ?_
                     refine take_ (i := 34) (N := some 77) (v := ?_) (a' := ?_) (mk 57 34359738367) rfl rfl (take_ofW HT_.out HW_.out (by kernel_rfl)) (fun _ _ _ h => h) (Or.inl ⟨by rfl, ?_⟩) hHeld ?_ ?_
                     rotate_left
                     ·rintro w' ⟨s0, s1, s2, s3, s4, s5, s6, s7, s8, s9, s10, s11⟩
                      go_simp
                      with_reducible rfl
                     rotate_left
                     ·simp only [Act.put, List.setIfInBounds_toArray, List.set_cons_zero, List.set_cons_succ, i64_w, i32_w]
                      rfl
                     refine pv 35 78 57 68719476735 HT_ ?_
                     refine pv 36 79 57 137438953471 HT_ ?_
                     refine pv 37 80 57 274877906943 HT_ ?_
                     refine pv 38 81 57 549755813887 HT_ ?_
                     refine take_ (i := 39) (N := some 82) (v := ?_) (a' := ?_) (mk 57 1099511627775) rfl rfl (take_ofW HT_.out HW_.out (by kernel_rfl)) (fun _ _ _ h => h) (Or.inl ⟨by rfl, ?_⟩) hHeld ?_ ?_
                     rotate_left
                     ·rintro w' ⟨s0, s1, s2, s3, s4, s5, s6, s7, s8, s9, s10, s11⟩
                      go_simp
                      with_reducible rfl
                     rotate_left
                     ·simp only [Act.put, List.setIfInBounds_toArray, List.set_cons_zero, List.set_cons_succ, i64_w, i32_w]
                      rfl
                     refine pv 40 83 57 2199023255551 HT_ ?_
                     refine pv 41 84 57 4398046511103 HT_ ?_
                     refine pv 42 85 57 8796093022207 HT_ ?_
                     refine pv 43 86 57 17592186044415 HT_ ?_
                     refine pv 44 87 57 35184372088831 HT_ ?_
                     refine pv 45 88 57 70368744177663 HT_ ?_
                     refine pv 46 89 57 140737488355327 HT_ ?_
                     refine pv 48 91 57 422212465065983 HT_ ?_
                     refine pv 49 92 57 985162418487295 HT_ ?_
                     refine take_ (i := 47) (N := some 90) (v := ?_) (a' := ?_) (mk 57 1125899906842623) rfl rfl (take_ofW HT_.out HW_.out (by kernel_rfl)) (fun _ _ _ h => h) (Or.inl ⟨by rfl, ?_⟩) hHeld ?_ ?_
                     rotate_left
                     ·rintro w' ⟨s0, s1, s2, s3, s4, s5, s6, s7, s8, s9, s10, s11⟩
                      go_simp
                      with_reducible rfl
                     rotate_left
                     ·simp only [Act.put, List.setIfInBounds_toArray, List.set_cons_zero, List.set_cons_succ, i64_w, i32_w]
                      rfl
                     refine pv 50 93 57 2251799813685247 HT_ ?_
                     refine take_ (i := 51) (N := some 94) (v := ?_) (a' := ?_) (mk 57 4503599627370495) rfl rfl (take_ofW HT_.out HW_.out (by kernel_rfl)) (fun _ _ _ h => h) (Or.inl ⟨by rfl, ?_⟩) hHeld ?_ ?_
                     rotate_left
                     ·rintro w' ⟨s0, s1, s2, s3, s4, s5, s6, s7, s8, s9, s10, s11⟩
                      go_simp
                      with_reducible rfl
                     rotate_left
                     ·simp only [Act.put, List.setIfInBounds_toArray, List.set_cons_zero, List.set_cons_succ, i64_w, i32_w]
                      rfl
                     refine take_ (i := 52) (N := some 95) (v := ?_) (a' := ?_) (mk 57 9007199254740991) rfl rfl (take_ofW HT_.out HW_.out (by kernel_rfl)) (fun _ _ _ h => h) (Or.inl ⟨by rfl, ?_⟩) hHeld ?_ ?_
                     rotate_left
                     ·rintro w' ⟨s0, s1, s2, s3, s4, s5, s6, s7, s8, s9, s10, s11⟩
                      go_simp
                      with_reducible rfl
                     rotate_left
                     ·simp only [Act.put, List.setIfInBounds_toArray, List.set_cons_zero, List.set_cons_succ, i64_w, i32_w]
                      rfl
                     refine one_ (i := 53) (N := some 96) (mk 57 18014398509481983) rfl rfl (one_of HT_.out (by kernel_rfl)) (by decide) (fun K hK => ?_)
                     refine goes_ Try.func45 (by kernel_rfl) rfl #[.agg #[.int .i64 ((rd_T51 l0_3 (ji94)).f0), .string ((rd_T51 l0_3 (ji94)).f1), .int .i64 ((rd_T51 l0_3 (ji94)).f2), .int .i64 ((rd_T51 l0_3 (ji94)).f3)], .agg #[.int .i64 ((rd_T51 l0_3 x38_2).f0), .string ((rd_T51 l0_3 x38_2).f1), .int .i64 ((rd_T51 l0_3 x38_2).f2), .int .i64 ((rd_T51 l0_3 x38_2).f3)]] (by rfl) rfl rfl (by (try simp only [List.map_toArray, List.map_cons, List.map_nil]); first | done | (simp only [hji94]; rfl) | rfl | (simp only [List.length_drop, List.length_take]; rfl)) ?_
                     with_reducible refine (impl_stepOrder.calls k2 ((rd_T51 l0_3 (ji94)).f0) ((rd_T51 l0_3 (ji94)).f1) ((rd_T51 l0_3 (ji94)).f2) ((rd_T51 l0_3 (ji94)).f3) ((rd_T51 l0_3 x38_2).f0) ((rd_T51 l0_3 x38_2).f1) ((rd_T51 l0_3 x38_2).f2) ((rd_T51 l0_3 x38_2).f3) t197 _ A97.out).mono ?_
                     rintro e w110 ⟨rfl, hb⟩
                     refine ⟨_, rfl, ?_⟩
                     have n0_ := bk BK189 hb
                     have n1_ := bk BK193 hb
                     have n2_ := am (below_step (bw HB.out) hb)
                     clear BK189 BK193 HB
                     revert n0_ n1_ n2_; intro BK189 BK193 HB
                     (try clear hb)
                     (try clear hb2)
                     (try clear hk)
                     (try clear hi)
                     refine hK.out _ _ ⟨(blk_cell BK193.out 0).trans rfl, (blk_cell BK193.out 1).trans rfl, (blk_cell BK193.out 2).trans rfl, (blk_cell BK193.out 3).trans rfl, (blk_cell BK189.out 0).trans rfl, (blk_cell BK189.out 1).trans rfl, (blk_cell BK189.out 2).trans rfl, (blk_cell BK189.out 3).trans rfl, ((HB.out.cell (World.block_lt_of_cell? w _ hw196_0)).trans hw196_0), ((HB.out.cell (World.block_lt_of_cell? w _ hw196_1)).trans hw196_1), ((HB.out.cell (World.block_lt_of_cell? w _ hw196_2)).trans hw196_2), ((HB.out.cell (World.block_lt_of_cell? w _ hw196_3)).trans hw196_3)⟩ (fun hHeld => ?_)
                     clear hK K
                     refine norm_ (a' := ?_) ?_ ?_
                     rotate_left
                     ·show Act.put _ (some 96) _ = _
                      simp only [Act.put, List.setIfInBounds_toArray, List.set_cons_zero, List.set_cons_succ, i64_w, i32_w]
                      rfl
                     refine pv 54 97 57 36028797018963967 HT_ ?_
                     refine pv 55 98 57 72057594037927935 HT_ ?_
                     refine pv 56 99 57 144115188075855871 HT_ ?_
                     refine done_ (done_of HT_.out (by kernel_rfl)) ?_
                     try go_wp2
                     go_roundg k2
                     case measure => have := HJ1.out; have := HK2.out; omega
                     case rel => exact ⟨(wrap64 (x38_2 + 1)), (by first | rfl | (simp; done) | (simp [*]; done)), H', ⟨by have := HJ1.out; have := HK2.out; omega⟩, ⟨kz BK189.out⟩, ⟨by exact bw HB.out⟩⟩
                   ·rw [if_neg c96] at H
                    exact absurd H (by simp)
                  ·rw [if_neg c95] at H
                   exact absurd H (by simp)
                 ·rw [if_neg c93] at H
                  have c93b0 : decide (0 < x38_2) = false := decide_eq_false c93
                  clear c93
                  have H' := am H
                  clear H
                  have p192 : 0 ≤ (x38_2 : Int) := of_decide_eq_true (by first | (with_reducible assumption) | assumption)
                  have q192 : x38_2 < (l0_3.length : Int) := of_decide_eq_true (by first | (with_reducible assumption) | assumption)
                  obtain ⟨ad192, e192, hx192_0, hx192_1, hx192_2, hx192_3⟩ := at_T51 HR0_3.out x38_2 p192 q192
                  cases e192
                  replace hx192_0 := (HB.out.cell (World.block_lt_of_cell? w _ hx192_0)).trans hx192_0
                  replace hx192_1 := (HB.out.cell (World.block_lt_of_cell? w _ hx192_1)).trans hx192_1
                  replace hx192_2 := (HB.out.cell (World.block_lt_of_cell? w _ hx192_2)).trans hx192_2
                  replace hx192_3 := (HB.out.cell (World.block_lt_of_cell? w _ hx192_3)).trans hx192_3
                  replace p192 := eq_true p192
                  replace q192 := eq_true q192
                  try go_wp2_with (first | ((with_reducible refine gate_dst (N := 4) rfl ?_); (try (refine gate_guard (by rfl) ?_; dsimp only)); refine box_event ?hg (N := 4) ?hd (cs := #[.int .i64 0, .string (⟨#[]⟩ : ByteArray), .int .i64 0, .int .i64 0]) (t := 51) ?hr ?_; (case hd => rfl); (case hg => rfl); (case hr => first | (go_simp; done) | (go_simp; rfl)); intro gb193 hg w111 hbox hb; have n0_ := bk BK189 hb; have n1_ := am (below_step (bw HB.out) hb); have n2_ := am (hbox); have n3_ := am ((by rw [hg]; exact (below_size (bw HB.out)) : w.heap.size ≤ gb193)); have n4_ := am ((by rw [hg]; exact (below_size (bw HB.out)) : w.heap.size ≤ gb193)); have n5_ := am ((by rw [hg]; exact Nat.ne_of_lt (blk_lt (kz BK189.out)) : gb189 ≠ gb193)); have n6_ := am ((by rw [hg]; exact Nat.ne_of_gt (blk_lt (kz BK189.out)) : gb193 ≠ gb189)); clear BK189 HB; revert n0_ n1_ n2_ n3_ n4_ n5_ n6_; intro BK189 HB BK193 GW193 GE193 NB189_193 NB193_189; clear hb hbox hg; have hnb112 := NB193_189.out; have hnc112 := NB189_193.out; have hcz113_0 := cz40 BK193.out; have hcz113_1 := cz41 BK193.out; have hcz113_2 := cz42 BK193.out; have hcz113_3 := cz43 BK193.out; have hfz113_0 := blk_frozen BK193.out 0; have hfz113_1 := blk_frozen BK193.out 1; have hfz113_2 := blk_frozen BK193.out 2; have hfz113_3 := blk_frozen BK193.out 3))
                  have n0_ : Aside0 (((((w111.setCell ⟨gb193, 0, none⟩ (.int .i64 ((rd_T51 l0_3 x38_2).f0))).setCell ⟨gb193, 1, none⟩ (.string ((rd_T51 l0_3 x38_2).f1))).setCell ⟨gb193, 2, none⟩ (.int .i64 ((rd_T51 l0_3 x38_2).f2))).setCell ⟨gb193, 3, none⟩ (.int .i64 ((rd_T51 l0_3 x38_2).f3))).heap[gb189]? = some (.cells #[.int .i64 a0_0, .slice A0_1 l0_1.length c0_1, .slice A0_2 l0_2.length c0_2, .slice (some ad192) l0_3.length c0_3] 30 (0, 0))) := ⟨by (with_reducible repeat (first | refine kn ?_ _ | refine kd ?_ | refine ka ?_ _)); refine blk_far ?_ NB189_193.out _; (with_reducible repeat (first | refine kn ?_ _ | refine kd ?_ | refine ka ?_ _)); refine blk_far ?_ NB189_193.out _; (with_reducible repeat (first | refine kn ?_ _ | refine kd ?_ | refine ka ?_ _)); refine blk_far ?_ NB189_193.out _; (with_reducible repeat (first | refine kn ?_ _ | refine kd ?_ | refine ka ?_ _)); refine blk_far ?_ NB189_193.out _; (with_reducible repeat (first | refine kn ?_ _ | refine kd ?_ | refine ka ?_ _)); exact BK189.out⟩
                  have n1_ : Aside0 (((((w111.setCell ⟨gb193, 0, none⟩ (.int .i64 ((rd_T51 l0_3 x38_2).f0))).setCell ⟨gb193, 1, none⟩ (.string ((rd_T51 l0_3 x38_2).f1))).setCell ⟨gb193, 2, none⟩ (.int .i64 ((rd_T51 l0_3 x38_2).f2))).setCell ⟨gb193, 3, none⟩ (.int .i64 ((rd_T51 l0_3 x38_2).f3))).heap[gb193]? = some (.cells #[.int .i64 ((rd_T51 l0_3 x38_2).f0), .string ((rd_T51 l0_3 x38_2).f1), .int .i64 ((rd_T51 l0_3 x38_2).f2), .int .i64 ((rd_T51 l0_3 x38_2).f3)] 51 (0, 0))) := ⟨by (with_reducible repeat (first | refine kn ?_ _ | refine kd ?_ | refine ka ?_ _)); refine blk_put (cs := #[.int .i64 ((rd_T51 l0_3 x38_2).f0), .string ((rd_T51 l0_3 x38_2).f1), .int .i64 ((rd_T51 l0_3 x38_2).f2), .int .i64 0]) ?_ 3 _ rfl; (with_reducible repeat (first | refine kn ?_ _ | refine kd ?_ | refine ka ?_ _)); refine blk_put (cs := #[.int .i64 ((rd_T51 l0_3 x38_2).f0), .string ((rd_T51 l0_3 x38_2).f1), .int .i64 0, .int .i64 0]) ?_ 2 _ rfl; (with_reducible repeat (first | refine kn ?_ _ | refine kd ?_ | refine ka ?_ _)); refine blk_put (cs := #[.int .i64 ((rd_T51 l0_3 x38_2).f0), .string (⟨#[]⟩ : ByteArray), .int .i64 0, .int .i64 0]) ?_ 1 _ rfl; (with_reducible repeat (first | refine kn ?_ _ | refine kd ?_ | refine ka ?_ _)); refine blk_put (cs := #[.int .i64 0, .string (⟨#[]⟩ : ByteArray), .int .i64 0, .int .i64 0]) ?_ 0 _ rfl; (with_reducible repeat (first | refine kn ?_ _ | refine kd ?_ | refine ka ?_ _)); exact BK193.out⟩
                  have n2_ : Aside0 (Below w.heap.size w ((((w111.setCell ⟨gb193, 0, none⟩ (.int .i64 ((rd_T51 l0_3 x38_2).f0))).setCell ⟨gb193, 1, none⟩ (.string ((rd_T51 l0_3 x38_2).f1))).setCell ⟨gb193, 2, none⟩ (.int .i64 ((rd_T51 l0_3 x38_2).f2))).setCell ⟨gb193, 3, none⟩ (.int .i64 ((rd_T51 l0_3 x38_2).f3)))) := ⟨by exact bw HB.out⟩
                  (try clear BK189)
                  (try clear BK193)
                  (try clear HB)
                  generalize ((((w111.setCell ⟨gb193, 0, none⟩ (.int .i64 ((rd_T51 l0_3 x38_2).f0))).setCell ⟨gb193, 1, none⟩ (.string ((rd_T51 l0_3 x38_2).f1))).setCell ⟨gb193, 2, none⟩ (.int .i64 ((rd_T51 l0_3 x38_2).f2))).setCell ⟨gb193, 3, none⟩ (.int .i64 ((rd_T51 l0_3 x38_2).f3))) = w114 at n0_ n1_ n2_ ⊢
                  revert n0_ n1_ n2_; intro BK189 BK193 HB
                  have n0_ := am (blk_drew BK189.out)
                  have n1_ := am (blk_drew BK193.out)
                  have n2_ := am (below_drew1 HB.out)
                  clear BK189 BK193 HB
                  revert n0_ n1_ n2_; intro BK189 BK193 HB
                  refine start_ (n := 57) (S := fun w' => w'.cell? ⟨gb193, 0, none⟩ = some (.int .i64 ((rd_T51 l0_3 x38_2).f0)) ∧ w'.cell? ⟨gb193, 1, none⟩ = some (.string ((rd_T51 l0_3 x38_2).f1)) ∧ w'.cell? ⟨gb193, 2, none⟩ = some (.int .i64 ((rd_T51 l0_3 x38_2).f2)) ∧ w'.cell? ⟨gb193, 3, none⟩ = some (.int .i64 ((rd_T51 l0_3 x38_2).f3)) ∧ w'.cell? ⟨gb189, 0, none⟩ = some (.int .i64 a0_0) ∧ w'.cell? ⟨gb189, 1, none⟩ = some (.slice A0_1 l0_1.length c0_1) ∧ w'.cell? ⟨gb189, 2, none⟩ = some (.slice A0_2 l0_2.length c0_2) ∧ w'.cell? ⟨gb189, 3, none⟩ = some (.slice (some ad192) l0_3.length c0_3)) (ds := []) (mk 57 0) (by kernel_rfl) rfl rfl ⟨(blk_cell BK193.out 0).trans rfl, (blk_cell BK193.out 1).trans rfl, (blk_cell BK193.out 2).trans rfl, (blk_cell BK193.out 3).trans rfl, (blk_cell BK189.out 0).trans rfl, (blk_cell BK189.out 1).trans rfl, (blk_cell BK189.out 2).trans rfl, (blk_cell BK189.out 3).trans rfl⟩ (fun hHeld => ?_); refine with_tabW impl_AutomatonValid.tab6 impl_AutomatonValid.bits6 (fun HT_ HW_ => ?_)
                  generalize w114.drew = w115 at BK189 BK193 HB hHeld ⊢
                  refine pv 0 43 57 1 HT_ ?_
                  refine take_ (i := 1) (N := some 44) (v := ?_) (a' := ?_) (mk 57 3) rfl rfl (take_ofW HT_.out HW_.out (by kernel_rfl)) (fun _ _ _ h => h) (Or.inl ⟨by rfl, ?_⟩) hHeld ?_ ?_
                  rotate_left
                  ·rintro w' ⟨s0, s1, s2, s3, s4, s5, s6, s7⟩
                   go_simp
                   with_reducible rfl
                  rotate_left
                  ·simp only [Act.put, List.setIfInBounds_toArray, List.set_cons_zero, List.set_cons_succ, i64_w, i32_w]
                   rfl
                  refine pv 2 45 57 7 HT_ ?_
                  refine pv 3 46 57 15 HT_ ?_
                  refine pv 4 47 57 31 HT_ ?_
                  refine pv 6 49 57 95 HT_ ?_
                  refine take_ (i := 5) (N := some 48) (v := ?_) (a' := ?_) (mk 57 127) rfl rfl (take_ofW HT_.out HW_.out (by kernel_rfl)) (fun _ _ _ h => h) (Or.inl ⟨by rfl, ?_⟩) hHeld ?_ ?_
                  rotate_left
                  ·rintro w' ⟨s0, s1, s2, s3, s4, s5, s6, s7⟩
                   go_simp
                   with_reducible rfl
                  rotate_left
                  ·simp only [Act.put, List.setIfInBounds_toArray, List.set_cons_zero, List.set_cons_succ, i64_w, i32_w]
                   rfl
                  refine take_ (i := 7) (N := some 50) (v := ?_) (a' := ?_) (mk 57 255) rfl rfl (take_ofW HT_.out HW_.out (by kernel_rfl)) (fun _ _ _ h => h) (Or.inl ⟨by rfl, ?_⟩) hHeld ?_ ?_
                  rotate_left
                  ·rintro w' ⟨s0, s1, s2, s3, s4, s5, s6, s7⟩
                   go_simp
                   with_reducible rfl
                  rotate_left
                  ·simp only [Act.put, List.setIfInBounds_toArray, List.set_cons_zero, List.set_cons_succ, i64_w, i32_w]
                   rfl
                  refine pv 8 51 57 511 HT_ ?_
                  refine pv 9 52 57 1023 HT_ ?_
                  refine pv 10 53 57 2047 HT_ ?_
                  refine pv 11 54 57 4095 HT_ ?_
                  refine take_ (i := 12) (N := some 55) (v := ?_) (a' := ?_) (mk 57 8191) rfl rfl (take_ofW HT_.out HW_.out (by kernel_rfl)) (fun _ _ _ h => h) (Or.inl ⟨by rfl, ?_⟩) hHeld ?_ ?_
                  rotate_left
                  ·rintro w' ⟨s0, s1, s2, s3, s4, s5, s6, s7⟩
                   go_simp
                   with_reducible rfl
                  rotate_left
                  ·simp only [Act.put, List.setIfInBounds_toArray, List.set_cons_zero, List.set_cons_succ, i64_w, i32_w]
                   rfl
                  refine pv 13 56 57 16383 HT_ ?_
                  refine pv 14 57 57 32767 HT_ ?_
                  refine pv 15 58 57 65535 HT_ ?_
                  refine pv 16 59 57 131071 HT_ ?_
                  refine pv 18 61 57 393215 HT_ ?_
                  refine take_ (i := 17) (N := some 60) (v := ?_) (a' := ?_) (mk 57 524287) rfl rfl (take_ofW HT_.out HW_.out (by kernel_rfl)) (fun _ _ _ h => h) (Or.inl ⟨by rfl, ?_⟩) hHeld ?_ ?_
                  rotate_left
                  ·rintro w' ⟨s0, s1, s2, s3, s4, s5, s6, s7⟩
                   go_simp
                   with_reducible rfl
                  rotate_left
                  ·simp only [Act.put, List.setIfInBounds_toArray, List.set_cons_zero, List.set_cons_succ, i64_w, i32_w]
                   rfl
                  refine take_ (i := 19) (N := some 62) (v := ?_) (a' := ?_) (mk 57 1048575) rfl rfl (take_ofW HT_.out HW_.out (by kernel_rfl)) (fun _ _ _ h => h) (Or.inl ⟨by rfl, ?_⟩) hHeld ?_ ?_
                  rotate_left
                  ·rintro w' ⟨s0, s1, s2, s3, s4, s5, s6, s7⟩
                   go_simp
                   with_reducible rfl
                  rotate_left
                  ·simp only [Act.put, List.setIfInBounds_toArray, List.set_cons_zero, List.set_cons_succ, i64_w, i32_w]
                   rfl
                  refine pv 20 63 57 2097151 HT_ ?_
                  refine pv 21 64 57 4194303 HT_ ?_
                  refine pv 22 65 57 8388607 HT_ ?_
                  refine pv 23 66 57 16777215 HT_ ?_
                  refine take_ (i := 24) (N := some 67) (v := ?_) (a' := ?_) (mk 57 33554431) rfl rfl (take_ofW HT_.out HW_.out (by kernel_rfl)) (fun _ _ _ h => h) (Or.inl ⟨by rfl, ?_⟩) hHeld ?_ ?_
                  rotate_left
                  ·rintro w' ⟨s0, s1, s2, s3, s4, s5, s6, s7⟩
                   go_simp
                   with_reducible rfl
                  rotate_left
                  ·simp only [Act.put, List.setIfInBounds_toArray, List.set_cons_zero, List.set_cons_succ, i64_w, i32_w]
                   rfl
                  refine pv 25 68 57 67108863 HT_ ?_
                  refine pv 26 69 57 134217727 HT_ ?_
                  refine pv 27 70 57 268435455 HT_ ?_
                  refine take_ (i := 28) (N := some 71) (v := ?_) (a' := ?_) (mk 57 536870911) rfl rfl (take_ofW HT_.out HW_.out (by kernel_rfl)) (fun _ _ _ h => h) (Or.inl ⟨by rfl, ?_⟩) hHeld ?_ ?_
                  rotate_left
                  ·rintro w' ⟨s0, s1, s2, s3, s4, s5, s6, s7⟩
                   go_simp
                   with_reducible rfl
                  rotate_left
                  ·simp only [Act.put, List.setIfInBounds_toArray, List.set_cons_zero, List.set_cons_succ, i64_w, i32_w]
                   rfl
                  refine pv 29 72 57 1073741823 HT_ ?_
                  refine pv 30 73 57 2147483647 HT_ ?_
                  refine pv 31 74 57 4294967295 HT_ ?_
                  refine pv 32 75 57 8589934591 HT_ ?_
                  refine pv 33 76 57 17179869183 HT_ ?_
                  refine take_ (i := 34) (N := some 77) (v := ?_) (a' := ?_) (mk 57 34359738367) rfl rfl (take_ofW HT_.out HW_.out (by kernel_rfl)) (fun _ _ _ h => h) (Or.inl ⟨by rfl, ?_⟩) hHeld ?_ ?_
                  rotate_left
                  ·rintro w' ⟨s0, s1, s2, s3, s4, s5, s6, s7⟩
                   go_simp
                   with_reducible rfl
                  rotate_left
                  ·simp only [Act.put, List.setIfInBounds_toArray, List.set_cons_zero, List.set_cons_succ, i64_w, i32_w]
                   rfl
                  refine pv 35 78 57 68719476735 HT_ ?_
                  refine pv 36 79 57 137438953471 HT_ ?_
                  refine pv 37 80 57 274877906943 HT_ ?_
                  refine pv 38 81 57 549755813887 HT_ ?_
                  refine take_ (i := 39) (N := some 82) (v := ?_) (a' := ?_) (mk 57 1099511627775) rfl rfl (take_ofW HT_.out HW_.out (by kernel_rfl)) (fun _ _ _ h => h) (Or.inl ⟨by rfl, ?_⟩) hHeld ?_ ?_
                  rotate_left
                  ·rintro w' ⟨s0, s1, s2, s3, s4, s5, s6, s7⟩
                   go_simp
                   with_reducible rfl
                  rotate_left
                  ·simp only [Act.put, List.setIfInBounds_toArray, List.set_cons_zero, List.set_cons_succ, i64_w, i32_w]
                   rfl
                  refine pv 40 83 57 2199023255551 HT_ ?_
                  refine pv 41 84 57 4398046511103 HT_ ?_
                  refine pv 42 85 57 8796093022207 HT_ ?_
                  refine pv 43 86 57 17592186044415 HT_ ?_
                  refine pv 44 87 57 35184372088831 HT_ ?_
                  refine pv 45 88 57 70368744177663 HT_ ?_
                  refine pu 46 89 57 140737488355327 HT_ ?_
                  refine pu 47 90 57 281474976710655 HT_ ?_
                  refine pu 48 91 57 562949953421311 HT_ ?_
                  refine pu 49 92 57 1125899906842623 HT_ ?_
                  refine pu 50 93 57 2251799813685247 HT_ ?_
                  refine pu 51 94 57 4503599627370495 HT_ ?_
                  refine pu 52 95 57 9007199254740991 HT_ ?_
                  refine pu 53 96 57 18014398509481983 HT_ ?_
                  refine pu 54 97 57 36028797018963967 HT_ ?_
                  refine pv 55 98 57 72057594037927935 HT_ ?_
                  refine pv 56 99 57 144115188075855871 HT_ ?_
                  refine done_ (done_of HT_.out (by kernel_rfl)) ?_
                  try go_wp2
                  go_roundg k2
                  case measure => have := HJ1.out; have := HK2.out; omega
                  case rel => exact ⟨(wrap64 (x38_2 + 1)), (by first | rfl | (simp; done) | (simp [*]; done)), H', ⟨by have := HJ1.out; have := HK2.out; omega⟩, ⟨kz BK189.out⟩, ⟨by exact bw HB.out⟩⟩
              ·rw [if_neg c80] at H
               have c80b0 : (((rd_T51 l0_3 x38_2).f1).toList == ([98] : List UInt8)) = false := beq_eq_false_iff_ne.mpr c80
               have c80b1 : (((rd_T51 l0_3 x38_2).f1).toList != ([98] : List UInt8)) = true := bne_iff_ne.mpr c80
               obtain rfl := Option.some.inj H
               have p192 : 0 ≤ (x38_2 : Int) := of_decide_eq_true (by first | (with_reducible assumption) | assumption)
               have q192 : x38_2 < (l0_3.length : Int) := of_decide_eq_true (by first | (with_reducible assumption) | assumption)
               obtain ⟨ad192, e192, hx192_0, hx192_1, hx192_2, hx192_3⟩ := at_T51 HR0_3.out x38_2 p192 q192
               cases e192
               replace hx192_0 := (HB.out.cell (World.block_lt_of_cell? w _ hx192_0)).trans hx192_0
               replace hx192_1 := (HB.out.cell (World.block_lt_of_cell? w _ hx192_1)).trans hx192_1
               replace hx192_2 := (HB.out.cell (World.block_lt_of_cell? w _ hx192_2)).trans hx192_2
               replace hx192_3 := (HB.out.cell (World.block_lt_of_cell? w _ hx192_3)).trans hx192_3
               replace p192 := eq_true p192
               replace q192 := eq_true q192
               try go_wp2_with (first | ((with_reducible refine gate_dst (N := 4) rfl ?_); (try (refine gate_guard (by rfl) ?_; dsimp only)); refine box_event ?hg (N := 4) ?hd (cs := #[.int .i64 0, .string (⟨#[]⟩ : ByteArray), .int .i64 0, .int .i64 0]) (t := 51) ?hr ?_; (case hd => rfl); (case hg => rfl); (case hr => first | (go_simp; done) | (go_simp; rfl)); intro gb193 hg w116 hbox hb; have n0_ := bk BK189 hb; have n1_ := am (below_step (bw HB.out) hb); have n2_ := am (hbox); have n3_ := am ((by rw [hg]; exact (below_size (bw HB.out)) : w.heap.size ≤ gb193)); have n4_ := am ((by rw [hg]; exact (below_size (bw HB.out)) : w.heap.size ≤ gb193)); have n5_ := am ((by rw [hg]; exact Nat.ne_of_lt (blk_lt (kz BK189.out)) : gb189 ≠ gb193)); have n6_ := am ((by rw [hg]; exact Nat.ne_of_gt (blk_lt (kz BK189.out)) : gb193 ≠ gb189)); clear BK189 HB; revert n0_ n1_ n2_ n3_ n4_ n5_ n6_; intro BK189 HB BK193 GW193 GE193 NB189_193 NB193_189; clear hb hbox hg; have hnb117 := NB193_189.out; have hnc117 := NB189_193.out; have hcz118_0 := cz40 BK193.out; have hcz118_1 := cz41 BK193.out; have hcz118_2 := cz42 BK193.out; have hcz118_3 := cz43 BK193.out; have hfz118_0 := blk_frozen BK193.out 0; have hfz118_1 := blk_frozen BK193.out 1; have hfz118_2 := blk_frozen BK193.out 2; have hfz118_3 := blk_frozen BK193.out 3))
               have n0_ : Aside0 (((((w116.setCell ⟨gb193, 0, none⟩ (.int .i64 ((rd_T51 l0_3 x38_2).f0))).setCell ⟨gb193, 1, none⟩ (.string ((rd_T51 l0_3 x38_2).f1))).setCell ⟨gb193, 2, none⟩ (.int .i64 ((rd_T51 l0_3 x38_2).f2))).setCell ⟨gb193, 3, none⟩ (.int .i64 ((rd_T51 l0_3 x38_2).f3))).heap[gb189]? = some (.cells #[.int .i64 a0_0, .slice A0_1 l0_1.length c0_1, .slice A0_2 l0_2.length c0_2, .slice (some ad192) l0_3.length c0_3] 30 (0, 0))) := ⟨by (with_reducible repeat (first | refine kn ?_ _ | refine kd ?_ | refine ka ?_ _)); refine blk_far ?_ NB189_193.out _; (with_reducible repeat (first | refine kn ?_ _ | refine kd ?_ | refine ka ?_ _)); refine blk_far ?_ NB189_193.out _; (with_reducible repeat (first | refine kn ?_ _ | refine kd ?_ | refine ka ?_ _)); refine blk_far ?_ NB189_193.out _; (with_reducible repeat (first | refine kn ?_ _ | refine kd ?_ | refine ka ?_ _)); refine blk_far ?_ NB189_193.out _; (with_reducible repeat (first | refine kn ?_ _ | refine kd ?_ | refine ka ?_ _)); exact BK189.out⟩
               have n1_ : Aside0 (((((w116.setCell ⟨gb193, 0, none⟩ (.int .i64 ((rd_T51 l0_3 x38_2).f0))).setCell ⟨gb193, 1, none⟩ (.string ((rd_T51 l0_3 x38_2).f1))).setCell ⟨gb193, 2, none⟩ (.int .i64 ((rd_T51 l0_3 x38_2).f2))).setCell ⟨gb193, 3, none⟩ (.int .i64 ((rd_T51 l0_3 x38_2).f3))).heap[gb193]? = some (.cells #[.int .i64 ((rd_T51 l0_3 x38_2).f0), .string ((rd_T51 l0_3 x38_2).f1), .int .i64 ((rd_T51 l0_3 x38_2).f2), .int .i64 ((rd_T51 l0_3 x38_2).f3)] 51 (0, 0))) := ⟨by (with_reducible repeat (first | refine kn ?_ _ | refine kd ?_ | refine ka ?_ _)); refine blk_put (cs := #[.int .i64 ((rd_T51 l0_3 x38_2).f0), .string ((rd_T51 l0_3 x38_2).f1), .int .i64 ((rd_T51 l0_3 x38_2).f2), .int .i64 0]) ?_ 3 _ rfl; (with_reducible repeat (first | refine kn ?_ _ | refine kd ?_ | refine ka ?_ _)); refine blk_put (cs := #[.int .i64 ((rd_T51 l0_3 x38_2).f0), .string ((rd_T51 l0_3 x38_2).f1), .int .i64 0, .int .i64 0]) ?_ 2 _ rfl; (with_reducible repeat (first | refine kn ?_ _ | refine kd ?_ | refine ka ?_ _)); refine blk_put (cs := #[.int .i64 ((rd_T51 l0_3 x38_2).f0), .string (⟨#[]⟩ : ByteArray), .int .i64 0, .int .i64 0]) ?_ 1 _ rfl; (with_reducible repeat (first | refine kn ?_ _ | refine kd ?_ | refine ka ?_ _)); refine blk_put (cs := #[.int .i64 0, .string (⟨#[]⟩ : ByteArray), .int .i64 0, .int .i64 0]) ?_ 0 _ rfl; (with_reducible repeat (first | refine kn ?_ _ | refine kd ?_ | refine ka ?_ _)); exact BK193.out⟩
               have n2_ : Aside0 (Below w.heap.size w ((((w116.setCell ⟨gb193, 0, none⟩ (.int .i64 ((rd_T51 l0_3 x38_2).f0))).setCell ⟨gb193, 1, none⟩ (.string ((rd_T51 l0_3 x38_2).f1))).setCell ⟨gb193, 2, none⟩ (.int .i64 ((rd_T51 l0_3 x38_2).f2))).setCell ⟨gb193, 3, none⟩ (.int .i64 ((rd_T51 l0_3 x38_2).f3)))) := ⟨by exact bw HB.out⟩
               (try clear BK189)
               (try clear BK193)
               (try clear HB)
               generalize ((((w116.setCell ⟨gb193, 0, none⟩ (.int .i64 ((rd_T51 l0_3 x38_2).f0))).setCell ⟨gb193, 1, none⟩ (.string ((rd_T51 l0_3 x38_2).f1))).setCell ⟨gb193, 2, none⟩ (.int .i64 ((rd_T51 l0_3 x38_2).f2))).setCell ⟨gb193, 3, none⟩ (.int .i64 ((rd_T51 l0_3 x38_2).f3))) = w119 at n0_ n1_ n2_ ⊢
               revert n0_ n1_ n2_; intro BK189 BK193 HB
               have n0_ := am (blk_drew BK189.out)
               have n1_ := am (blk_drew BK193.out)
               have n2_ := am (below_drew1 HB.out)
               clear BK189 BK193 HB
               revert n0_ n1_ n2_; intro BK189 BK193 HB
               refine start_ (n := 57) (S := fun w' => w'.cell? ⟨gb193, 0, none⟩ = some (.int .i64 ((rd_T51 l0_3 x38_2).f0)) ∧ w'.cell? ⟨gb193, 1, none⟩ = some (.string ((rd_T51 l0_3 x38_2).f1)) ∧ w'.cell? ⟨gb193, 2, none⟩ = some (.int .i64 ((rd_T51 l0_3 x38_2).f2)) ∧ w'.cell? ⟨gb193, 3, none⟩ = some (.int .i64 ((rd_T51 l0_3 x38_2).f3)) ∧ w'.cell? ⟨gb189, 0, none⟩ = some (.int .i64 a0_0) ∧ w'.cell? ⟨gb189, 1, none⟩ = some (.slice A0_1 l0_1.length c0_1) ∧ w'.cell? ⟨gb189, 2, none⟩ = some (.slice A0_2 l0_2.length c0_2) ∧ w'.cell? ⟨gb189, 3, none⟩ = some (.slice (some ad192) l0_3.length c0_3)) (ds := []) (mk 57 0) (by kernel_rfl) rfl rfl ⟨(blk_cell BK193.out 0).trans rfl, (blk_cell BK193.out 1).trans rfl, (blk_cell BK193.out 2).trans rfl, (blk_cell BK193.out 3).trans rfl, (blk_cell BK189.out 0).trans rfl, (blk_cell BK189.out 1).trans rfl, (blk_cell BK189.out 2).trans rfl, (blk_cell BK189.out 3).trans rfl⟩ (fun hHeld => ?_); refine with_tabW impl_AutomatonValid.tab6 impl_AutomatonValid.bits6 (fun HT_ HW_ => ?_)
               generalize w119.drew = w120 at BK189 BK193 HB hHeld ⊢
               refine pv 0 43 57 1 HT_ ?_
               refine take_ (i := 1) (N := some 44) (v := ?_) (a' := ?_) (mk 57 3) rfl rfl (take_ofW HT_.out HW_.out (by kernel_rfl)) (fun _ _ _ h => h) (Or.inl ⟨by rfl, ?_⟩) hHeld ?_ ?_
               rotate_left
               ·rintro w' ⟨s0, s1, s2, s3, s4, s5, s6, s7⟩
                go_simp
                with_reducible rfl
               rotate_left
               ·simp only [Act.put, List.setIfInBounds_toArray, List.set_cons_zero, List.set_cons_succ, i64_w, i32_w]
                rfl
               refine pv 2 45 57 7 HT_ ?_
               refine pv 3 46 57 15 HT_ ?_
               refine pv 4 47 57 31 HT_ ?_
               refine pv 6 49 57 95 HT_ ?_
               refine take_ (i := 5) (N := some 48) (v := ?_) (a' := ?_) (mk 57 127) rfl rfl (take_ofW HT_.out HW_.out (by kernel_rfl)) (fun _ _ _ h => h) (Or.inl ⟨by rfl, ?_⟩) hHeld ?_ ?_
               rotate_left
               ·rintro w' ⟨s0, s1, s2, s3, s4, s5, s6, s7⟩
                go_simp
                with_reducible rfl
               rotate_left
               ·simp only [Act.put, List.setIfInBounds_toArray, List.set_cons_zero, List.set_cons_succ, i64_w, i32_w]
                rfl
               refine take_ (i := 7) (N := some 50) (v := ?_) (a' := ?_) (mk 57 255) rfl rfl (take_ofW HT_.out HW_.out (by kernel_rfl)) (fun _ _ _ h => h) (Or.inl ⟨by rfl, ?_⟩) hHeld ?_ ?_
               rotate_left
               ·rintro w' ⟨s0, s1, s2, s3, s4, s5, s6, s7⟩
                go_simp
                with_reducible rfl
               rotate_left
               ·simp only [Act.put, List.setIfInBounds_toArray, List.set_cons_zero, List.set_cons_succ, i64_w, i32_w]
                rfl
               refine pv 8 51 57 511 HT_ ?_
               refine pv 9 52 57 1023 HT_ ?_
               refine pv 10 53 57 2047 HT_ ?_
               refine pv 11 54 57 4095 HT_ ?_
               refine take_ (i := 12) (N := some 55) (v := ?_) (a' := ?_) (mk 57 8191) rfl rfl (take_ofW HT_.out HW_.out (by kernel_rfl)) (fun _ _ _ h => h) (Or.inl ⟨by rfl, ?_⟩) hHeld ?_ ?_
               rotate_left
               ·rintro w' ⟨s0, s1, s2, s3, s4, s5, s6, s7⟩
                go_simp
                with_reducible rfl
               rotate_left
               ·simp only [Act.put, List.setIfInBounds_toArray, List.set_cons_zero, List.set_cons_succ, i64_w, i32_w]
                rfl
               refine pv 13 56 57 16383 HT_ ?_
               refine pv 14 57 57 32767 HT_ ?_
               refine pv 15 58 57 65535 HT_ ?_
               refine pv 16 59 57 131071 HT_ ?_
               refine pv 18 61 57 393215 HT_ ?_
               refine take_ (i := 17) (N := some 60) (v := ?_) (a' := ?_) (mk 57 524287) rfl rfl (take_ofW HT_.out HW_.out (by kernel_rfl)) (fun _ _ _ h => h) (Or.inl ⟨by rfl, ?_⟩) hHeld ?_ ?_
               rotate_left
               ·rintro w' ⟨s0, s1, s2, s3, s4, s5, s6, s7⟩
                go_simp
                with_reducible rfl
               rotate_left
               ·simp only [Act.put, List.setIfInBounds_toArray, List.set_cons_zero, List.set_cons_succ, i64_w, i32_w]
                rfl
               refine take_ (i := 19) (N := some 62) (v := ?_) (a' := ?_) (mk 57 1048575) rfl rfl (take_ofW HT_.out HW_.out (by kernel_rfl)) (fun _ _ _ h => h) (Or.inl ⟨by rfl, ?_⟩) hHeld ?_ ?_
               rotate_left
               ·rintro w' ⟨s0, s1, s2, s3, s4, s5, s6, s7⟩
                go_simp
                with_reducible rfl
               rotate_left
               ·simp only [Act.put, List.setIfInBounds_toArray, List.set_cons_zero, List.set_cons_succ, i64_w, i32_w]
                rfl
               refine pv 20 63 57 2097151 HT_ ?_
               refine pv 21 64 57 4194303 HT_ ?_
               refine pv 22 65 57 8388607 HT_ ?_
               refine pv 23 66 57 16777215 HT_ ?_
               refine take_ (i := 24) (N := some 67) (v := ?_) (a' := ?_) (mk 57 33554431) rfl rfl (take_ofW HT_.out HW_.out (by kernel_rfl)) (fun _ _ _ h => h) (Or.inl ⟨by rfl, ?_⟩) hHeld ?_ ?_
               rotate_left
               ·rintro w' ⟨s0, s1, s2, s3, s4, s5, s6, s7⟩
                go_simp
                with_reducible rfl
               rotate_left
               ·simp only [Act.put, List.setIfInBounds_toArray, List.set_cons_zero, List.set_cons_succ, i64_w, i32_w]
                rfl
               refine pv 25 68 57 67108863 HT_ ?_
               refine pv 26 69 57 134217727 HT_ ?_
               refine pv 27 70 57 268435455 HT_ ?_
               refine take_ (i := 28) (N := some 71) (v := ?_) (a' := ?_) (mk 57 536870911) rfl rfl (take_ofW HT_.out HW_.out (by kernel_rfl)) (fun _ _ _ h => h) (Or.inl ⟨by rfl, ?_⟩) hHeld ?_ ?_
               rotate_left
               ·rintro w' ⟨s0, s1, s2, s3, s4, s5, s6, s7⟩
                go_simp
                with_reducible rfl
               rotate_left
               ·simp only [Act.put, List.setIfInBounds_toArray, List.set_cons_zero, List.set_cons_succ, i64_w, i32_w]
                rfl
               refine pv 29 72 57 1073741823 HT_ ?_
               refine pv 30 73 57 2147483647 HT_ ?_
               refine pv 31 74 57 4294967295 HT_ ?_
               refine pv 32 75 57 8589934591 HT_ ?_
               refine pu 33 76 57 17179869183 HT_ ?_
               refine pu 34 77 57 34359738367 HT_ ?_
               refine pu 35 78 57 68719476735 HT_ ?_
               refine pv 36 79 57 137438953471 HT_ ?_
               refine pv 37 80 57 274877906943 HT_ ?_
               refine pu 38 81 57 549755813887 HT_ ?_
               refine pu 39 82 57 1099511627775 HT_ ?_
               refine pu 40 83 57 2199023255551 HT_ ?_
               refine pv 41 84 57 4398046511103 HT_ ?_
               refine pv 42 85 57 8796093022207 HT_ ?_
               refine pu 43 86 57 17592186044415 HT_ ?_
               refine pu 44 87 57 35184372088831 HT_ ?_
               refine pu 45 88 57 70368744177663 HT_ ?_
               refine pu 46 89 57 140737488355327 HT_ ?_
               refine pu 47 90 57 281474976710655 HT_ ?_
               refine pu 48 91 57 562949953421311 HT_ ?_
               refine pu 49 92 57 1125899906842623 HT_ ?_
               refine pu 50 93 57 2251799813685247 HT_ ?_
               refine pu 51 94 57 4503599627370495 HT_ ?_
               refine pu 52 95 57 9007199254740991 HT_ ?_
               refine pu 53 96 57 18014398509481983 HT_ ?_
               refine pu 54 97 57 36028797018963967 HT_ ?_
               refine pu 55 98 57 72057594037927935 HT_ ?_
               refine pv 56 99 57 144115188075855871 HT_ ?_
               refine done_ (done_of HT_.out (by kernel_rfl)) ?_
               try go_wp2
               go_ret
               exact ⟨by first | rfl | (simp [errW_none, errW_some] <;> rfl) | (simp [*, errW_none, errW_some] <;> rfl), by exact bw HB.out⟩
        ·rw [if_neg c19] at H
         exact absurd H (by simp)
       ·rw [if_neg c18] at H
        exact absurd H (by simp)
      ·rw [if_neg c17] at H
       have c17b0 : decide (x38_2 < (l0_3.length : Int)) = false := decide_eq_false c17
       clear c17
       obtain rfl := Option.some.inj H
       go_wp2
       go_ret
       exact ⟨by first | rfl | (simp [errW_none, errW_some] <;> rfl) | (simp [*, errW_none, errW_some] <;> rfl), by exact bw HB.out⟩

end Go.Proofs.Ytejnpldoakgadaa.PG1
