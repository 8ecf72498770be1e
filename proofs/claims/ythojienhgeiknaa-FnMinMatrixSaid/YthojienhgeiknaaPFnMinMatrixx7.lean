-- Written by a program (wip/myprint.py): the machine side of one law: each function that it reaches, as a plain function, and the proof that a call comes to just that.
import Derived.Test.YthojienhgeiknaaPFnMinMatrixx0
import Derived.Test.YthojienhgeiknaaPFnMinMatrixx1
import Derived.Test.YthojienhgeiknaaPFnMinMatrixx2
import Derived.Test.YthojienhgeiknaaPFnMinMatrixx3
import Derived.Test.YthojienhgeiknaaPFnMinMatrixx5
import Derived.Test.YthojienhgeiknaaPFnMinMatrixx6
namespace Go.Proofs.Ythojienhgeiknaa.PFnMinMatrix
open Go.RowKit Go.Proofs.YthojienhgeiknaaW.PrintWords Go.Proofs.YthojienhgeiknaaW.PrintLast Go.Proofs.YthojienhgeiknaaW.PrintMore
attribute [local go_sem] max2_int min2_int max_two min_two max_three min_three max_four min_four   -- for this text's walks alone
set_option linter.unusedVariables false
set_option linter.unusedSimpArgs false

/-! ### laws_FnMinMatrix: function 8 -/
mutual
def laws_FnMinMatrix.j0 : Nat → List Int → List Int → Bool → Option (Bool)
 | 0, _, _, _ => none
 | k + 1, x0, x1, x32 => if x32 = true then (some true) else ((spec_DrawMinMatrix.f k x0).bind fun bt298 => ((impl_MinMatrix.f k bt298.1 bt298.2.1 bt298.2.2.1 bt298.2.2.2).bind fun bt308 => ((spec_MinMatrix.f k bt298.1 bt298.2.1 bt298.2.2.1 bt298.2.2.2).bind fun bt314 => ((laws_daMatrix.f k bt308.1 bt308.2.1 bt314.1 bt314.2.1).bind fun t320 => (if t320 = true then (if (bt308.2.2 != bt314.2.2) = true then (laws_FnMinMatrix.j1 k x1 bt308.2.2 bt314.2.2 true bt298.1 bt298.2.1 bt298.2.2.1 bt298.2.2.2 bt308.1 bt308.2.1 bt314.1 bt314.2.1) else (laws_FnMinMatrix.j1 k x1 bt308.2.2 bt314.2.2 (!bt308.2.2) bt298.1 bt298.2.1 bt298.2.2.1 bt298.2.2.2 bt308.1 bt308.2.1 bt314.1 bt314.2.1)) else (laws_FnMinMatrix.j1 k x1 bt308.2.2 bt314.2.2 true bt298.1 bt298.2.1 bt298.2.2.1 bt298.2.2.2 bt308.1 bt308.2.1 bt314.1 bt314.2.1))))))
def laws_FnMinMatrix.j1 : Nat → List Int → Bool → Bool → Bool → Int → List Int → Int → List Int → Int → List Int → Int → List Int → Option (Bool)
 | 0, _, _, _, _, _, _, _, _, _, _, _, _ => none
 | k + 1, x1, x8, x10, x62, x307000, x307001, x308000, x308001, x314000, x314001, x320000, x320001 => if x62 = true then ((laws_daMatrix.f k x314000 x314001 x320000 x320001).bind fun t321 => (if t321 = true then (some (x8 == x10)) else (none))) else ((spec_DrawMulMatrix.f k x1).bind fun bt322 => ((impl_MatrixValid.f k bt322.1 bt322.2.1).bind fun t332 => (if t332 = true then (laws_FnMinMatrix.j2 k (bt322.1 != x307000) x307000 x307001 x308000 x308001 x314000 x314001 bt322.1 bt322.2.1) else (laws_FnMinMatrix.j2 k true x307000 x307001 x308000 x308001 x314000 x314001 bt322.1 bt322.2.1))))
def laws_FnMinMatrix.j2 : Nat → Bool → Int → List Int → Int → List Int → Int → List Int → Int → List Int → Option (Bool)
 | 0, _, _, _, _, _, _, _, _, _ => none
 | k + 1, x85, x307000, x307001, x308000, x308001, x314000, x314001, x331000, x331001 => if x85 = true then (laws_FnMinMatrix.j3 k x307000 x307001 x308000 x308001 x314000 x314001 x307000 x307001) else (laws_FnMinMatrix.j3 k x307000 x307001 x308000 x308001 x314000 x314001 x331000 x331001)
def laws_FnMinMatrix.j3 : Nat → Int → List Int → Int → List Int → Int → List Int → Int → List Int → Option (Bool)
 | 0, _, _, _, _, _, _, _, _ => none
 | k + 1, x307000, x307001, x308000, x308001, x314000, x314001, x331000, x331001 => (impl_MulMatrix.f k x314000 x314001 x331000 x331001).bind fun bt333 => ((impl_MulMatrix.f k x307000 x307001 x331000 x331001).bind fun bt339 => ((impl_MulMatrix.f k x308000 x308001 x331000 x331001).bind fun bt345 => ((impl_MinMatrix.f k bt339.1 bt339.2.1 bt345.1 bt345.2.1).bind fun bt351 => ((impl_MinMatrix.f k x308000 x308001 x307000 x307001).bind fun bt357 => ((impl_MinMatrix.f k x314000 x314001 x307000 x307001).bind fun bt363 => ((laws_daMatrix.f k bt333.1 bt333.2.1 bt351.1 bt351.2.1).bind fun t369 => (if t369 = true then ((laws_daMatrix.f k bt357.1 bt357.2.1 x314000 x314001).bind fun t370 => (if t370 = true then ((laws_daMatrix.f k bt363.1 bt363.2.1 x314000 x314001).bind fun t371 => (if t371 = true then ((impl_MatrixValid.f k x314000 x314001).bind fun t372 => (some t372)) else (none))) else (none))) else (none))))))))
end
def laws_FnMinMatrix.f (k : Nat) (l0 : List Int) (l1 : List Int) : Option (Bool) := if (l0.length : Int) > 1048576 then (laws_FnMinMatrix.j0 k l0 l1 true) else (laws_FnMinMatrix.j0 k l0 l1 (decide ((l1.length : Int) > 1048576)))
theorem laws_FnMinMatrix.mono_l : ∀ k, (∀ y0 y1 y2, LeO (laws_FnMinMatrix.j0 k y0 y1 y2) (laws_FnMinMatrix.j0 (k + 1) y0 y1 y2)) ∧ (∀ y0 y1 y2 y3 y4 y5 y6 y7 y8 y9 y10 y11, LeO (laws_FnMinMatrix.j1 k y0 y1 y2 y3 y4 y5 y6 y7 y8 y9 y10 y11) (laws_FnMinMatrix.j1 (k + 1) y0 y1 y2 y3 y4 y5 y6 y7 y8 y9 y10 y11)) ∧ (∀ y0 y1 y2 y3 y4 y5 y6 y7 y8, LeO (laws_FnMinMatrix.j2 k y0 y1 y2 y3 y4 y5 y6 y7 y8) (laws_FnMinMatrix.j2 (k + 1) y0 y1 y2 y3 y4 y5 y6 y7 y8)) ∧ (∀ y0 y1 y2 y3 y4 y5 y6 y7, LeO (laws_FnMinMatrix.j3 k y0 y1 y2 y3 y4 y5 y6 y7) (laws_FnMinMatrix.j3 (k + 1) y0 y1 y2 y3 y4 y5 y6 y7))
 | 0 => ⟨fun _ _ _ r h => by simp [laws_FnMinMatrix.j0] at h, fun _ _ _ _ _ _ _ _ _ _ _ _ r h => by simp [laws_FnMinMatrix.j1] at h, fun _ _ _ _ _ _ _ _ _ r h => by simp [laws_FnMinMatrix.j2] at h, fun _ _ _ _ _ _ _ _ r h => by simp [laws_FnMinMatrix.j3] at h⟩
 | k + 1 => by
  obtain ⟨ih0, ih1, ih2, ih3⟩ := laws_FnMinMatrix.mono_l k
  refine ⟨?_, ?_, ?_, ?_⟩
  ·intro y0 y1 y2
   unfold laws_FnMinMatrix.j0
   repeat' first
   | (with_reducible exact ih0 _ _ _)
   | (with_reducible exact ih1 _ _ _ _ _ _ _ _ _ _ _ _)
   | (with_reducible exact ih2 _ _ _ _ _ _ _ _ _)
   | (with_reducible exact ih3 _ _ _ _ _ _ _ _)
   | (with_reducible exact impl_MatrixValid.mono _ _ _)
   | (with_reducible exact impl_MinMatrix.mono _ _ _ _ _)
   | (with_reducible exact impl_MulMatrix.mono _ _ _ _ _)
   | (with_reducible exact laws_daMatrix.mono _ _ _ _ _)
   | (with_reducible exact spec_DrawMinMatrix.mono _ _)
   | (with_reducible exact spec_DrawMulMatrix.mono _ _)
   | (with_reducible exact spec_MinMatrix.mono _ _ _ _ _)
   | (with_reducible exact LeO.refl _)
   | (with_reducible exact LeO.none _)
   | (with_reducible refine LeO.ite ?_ ?_)
   | (with_reducible refine LeO.bind ?_ (fun _ => ?_))
   | exact ih0 _ _ _
   | exact ih1 _ _ _ _ _ _ _ _ _ _ _ _
   | exact ih2 _ _ _ _ _ _ _ _ _
   | exact ih3 _ _ _ _ _ _ _ _
   | exact impl_MatrixValid.mono _ _ _
   | exact impl_MinMatrix.mono _ _ _ _ _
   | exact impl_MulMatrix.mono _ _ _ _ _
   | exact laws_daMatrix.mono _ _ _ _ _
   | exact spec_DrawMinMatrix.mono _ _
   | exact spec_DrawMulMatrix.mono _ _
   | exact spec_MinMatrix.mono _ _ _ _ _
   | exact LeO.none _
   | refine LeO.ite ?_ ?_
   | refine LeO.bind ?_ (fun _ => ?_)
  ·intro y0 y1 y2 y3 y4 y5 y6 y7 y8 y9 y10 y11
   unfold laws_FnMinMatrix.j1
   repeat' first
   | (with_reducible exact ih0 _ _ _)
   | (with_reducible exact ih1 _ _ _ _ _ _ _ _ _ _ _ _)
   | (with_reducible exact ih2 _ _ _ _ _ _ _ _ _)
   | (with_reducible exact ih3 _ _ _ _ _ _ _ _)
   | (with_reducible exact impl_MatrixValid.mono _ _ _)
   | (with_reducible exact impl_MinMatrix.mono _ _ _ _ _)
   | (with_reducible exact impl_MulMatrix.mono _ _ _ _ _)
   | (with_reducible exact laws_daMatrix.mono _ _ _ _ _)
   | (with_reducible exact spec_DrawMinMatrix.mono _ _)
   | (with_reducible exact spec_DrawMulMatrix.mono _ _)
   | (with_reducible exact spec_MinMatrix.mono _ _ _ _ _)
   | (with_reducible exact LeO.refl _)
   | (with_reducible exact LeO.none _)
   | (with_reducible refine LeO.ite ?_ ?_)
   | (with_reducible refine LeO.bind ?_ (fun _ => ?_))
   | exact ih0 _ _ _
   | exact ih1 _ _ _ _ _ _ _ _ _ _ _ _
   | exact ih2 _ _ _ _ _ _ _ _ _
   | exact ih3 _ _ _ _ _ _ _ _
   | exact impl_MatrixValid.mono _ _ _
   | exact impl_MinMatrix.mono _ _ _ _ _
   | exact impl_MulMatrix.mono _ _ _ _ _
   | exact laws_daMatrix.mono _ _ _ _ _
   | exact spec_DrawMinMatrix.mono _ _
   | exact spec_DrawMulMatrix.mono _ _
   | exact spec_MinMatrix.mono _ _ _ _ _
   | exact LeO.none _
   | refine LeO.ite ?_ ?_
   | refine LeO.bind ?_ (fun _ => ?_)
  ·intro y0 y1 y2 y3 y4 y5 y6 y7 y8
   unfold laws_FnMinMatrix.j2
   repeat' first
   | (with_reducible exact ih0 _ _ _)
   | (with_reducible exact ih1 _ _ _ _ _ _ _ _ _ _ _ _)
   | (with_reducible exact ih2 _ _ _ _ _ _ _ _ _)
   | (with_reducible exact ih3 _ _ _ _ _ _ _ _)
   | (with_reducible exact impl_MatrixValid.mono _ _ _)
   | (with_reducible exact impl_MinMatrix.mono _ _ _ _ _)
   | (with_reducible exact impl_MulMatrix.mono _ _ _ _ _)
   | (with_reducible exact laws_daMatrix.mono _ _ _ _ _)
   | (with_reducible exact spec_DrawMinMatrix.mono _ _)
   | (with_reducible exact spec_DrawMulMatrix.mono _ _)
   | (with_reducible exact spec_MinMatrix.mono _ _ _ _ _)
   | (with_reducible exact LeO.refl _)
   | (with_reducible exact LeO.none _)
   | (with_reducible refine LeO.ite ?_ ?_)
   | (with_reducible refine LeO.bind ?_ (fun _ => ?_))
   | exact ih0 _ _ _
   | exact ih1 _ _ _ _ _ _ _ _ _ _ _ _
   | exact ih2 _ _ _ _ _ _ _ _ _
   | exact ih3 _ _ _ _ _ _ _ _
   | exact impl_MatrixValid.mono _ _ _
   | exact impl_MinMatrix.mono _ _ _ _ _
   | exact impl_MulMatrix.mono _ _ _ _ _
   | exact laws_daMatrix.mono _ _ _ _ _
   | exact spec_DrawMinMatrix.mono _ _
   | exact spec_DrawMulMatrix.mono _ _
   | exact spec_MinMatrix.mono _ _ _ _ _
   | exact LeO.none _
   | refine LeO.ite ?_ ?_
   | refine LeO.bind ?_ (fun _ => ?_)
  ·intro y0 y1 y2 y3 y4 y5 y6 y7
   unfold laws_FnMinMatrix.j3
   repeat' first
   | (with_reducible exact ih0 _ _ _)
   | (with_reducible exact ih1 _ _ _ _ _ _ _ _ _ _ _ _)
   | (with_reducible exact ih2 _ _ _ _ _ _ _ _ _)
   | (with_reducible exact ih3 _ _ _ _ _ _ _ _)
   | (with_reducible exact impl_MatrixValid.mono _ _ _)
   | (with_reducible exact impl_MinMatrix.mono _ _ _ _ _)
   | (with_reducible exact impl_MulMatrix.mono _ _ _ _ _)
   | (with_reducible exact laws_daMatrix.mono _ _ _ _ _)
   | (with_reducible exact spec_DrawMinMatrix.mono _ _)
   | (with_reducible exact spec_DrawMulMatrix.mono _ _)
   | (with_reducible exact spec_MinMatrix.mono _ _ _ _ _)
   | (with_reducible exact LeO.refl _)
   | (with_reducible exact LeO.none _)
   | (with_reducible refine LeO.ite ?_ ?_)
   | (with_reducible refine LeO.bind ?_ (fun _ => ?_))
   | exact ih0 _ _ _
   | exact ih1 _ _ _ _ _ _ _ _ _ _ _ _
   | exact ih2 _ _ _ _ _ _ _ _ _
   | exact ih3 _ _ _ _ _ _ _ _
   | exact impl_MatrixValid.mono _ _ _
   | exact impl_MinMatrix.mono _ _ _ _ _
   | exact impl_MulMatrix.mono _ _ _ _ _
   | exact laws_daMatrix.mono _ _ _ _ _
   | exact spec_DrawMinMatrix.mono _ _
   | exact spec_DrawMulMatrix.mono _ _
   | exact spec_MinMatrix.mono _ _ _ _ _
   | exact LeO.none _
   | refine LeO.ite ?_ ?_
   | refine LeO.bind ?_ (fun _ => ?_)
theorem laws_FnMinMatrix.mono : ∀ a0 a1 k, LeO (laws_FnMinMatrix.f k a0 a1) (laws_FnMinMatrix.f (k + 1) a0 a1) := by
 intro a0 a1 k
 obtain ⟨ih0, ih1, ih2, ih3⟩ := laws_FnMinMatrix.mono_l k
 unfold laws_FnMinMatrix.f
 repeat' first
   | (with_reducible exact ih0 _ _ _)
   | (with_reducible exact ih1 _ _ _ _ _ _ _ _ _ _ _ _)
   | (with_reducible exact ih2 _ _ _ _ _ _ _ _ _)
   | (with_reducible exact ih3 _ _ _ _ _ _ _ _)
   | (with_reducible exact impl_MatrixValid.mono _ _ _)
   | (with_reducible exact impl_MinMatrix.mono _ _ _ _ _)
   | (with_reducible exact impl_MulMatrix.mono _ _ _ _ _)
   | (with_reducible exact laws_daMatrix.mono _ _ _ _ _)
   | (with_reducible exact spec_DrawMinMatrix.mono _ _)
   | (with_reducible exact spec_DrawMulMatrix.mono _ _)
   | (with_reducible exact spec_MinMatrix.mono _ _ _ _ _)
   | (with_reducible exact LeO.refl _)
   | (with_reducible exact LeO.none _)
   | (with_reducible refine LeO.ite ?_ ?_)
   | (with_reducible refine LeO.bind ?_ (fun _ => ?_))
   | exact ih0 _ _ _
   | exact ih1 _ _ _ _ _ _ _ _ _ _ _ _
   | exact ih2 _ _ _ _ _ _ _ _ _
   | exact ih3 _ _ _ _ _ _ _ _
   | exact impl_MatrixValid.mono _ _ _
   | exact impl_MinMatrix.mono _ _ _ _ _
   | exact impl_MulMatrix.mono _ _ _ _ _
   | exact laws_daMatrix.mono _ _ _ _ _
   | exact spec_DrawMinMatrix.mono _ _
   | exact spec_DrawMulMatrix.mono _ _
   | exact spec_MinMatrix.mono _ _ _ _ _
   | exact LeO.none _
   | refine LeO.ite ?_ ?_
   | refine LeO.bind ?_ (fun _ => ?_)
set_option maxHeartbeats 8000000 in
set_option maxRecDepth 100000 in
theorem laws_FnMinMatrix.calls (k : Nat) (A0 : Option Addr) (c0 : Nat) (l0 : List Int) (A1 : Option Addr) (c1 : Nat) (l1 : List Int) (r : Bool) (w : World) (hr0 : Kd.C (Kd.int .u8) w A0 l0.length l0) (hc0 : l0.length ≤ c0) (hr1 : Kd.C (Kd.int .u8) w A1 l1.length l1) (hc1 : l1.length ≤ c1) (h : laws_FnMinMatrix.f k l0 l1 = some r) :
  Calls Try.prog 8 #[.slice A0 l0.length c0, .slice A1 l1.length c1] w fun e w' => e = .returned (.bool r) ∧ Below w.heap.size w w' := by
 have hu27 := Try.underlying27
 have HR0 := am hr0
 have HC0 := am hc0
 clear hr0 hc0
 have HR1 := am hr1
 have HC1 := am hc1
 clear hr1 hc1
 have HB := am (Below.refl w.heap.size w)
 have H : (if (l0.length : Int) > 1048576 then (laws_FnMinMatrix.j0 k l0 l1 true) else (laws_FnMinMatrix.j0 k l0 l1 (decide ((l1.length : Int) > 1048576)))) = some r := h
 clear h
 have HC3 := am H
 clear H
 go_enter Try.func8, Try.ntmps8
 go_upto_region 1 with (fail)
 go_cut [32] (fun v32 wc => ∃ (kq : Nat) (x32_2 : Bool), v32 = .bool x32_2 ∧ Aside0 (laws_FnMinMatrix.j0 kq l0 l1 x32_2 = some r) ∧ Aside0 (kq ≤ k) ∧ Aside0 (Below w.heap.size w wc))
 case first =>
  have H := HC3.out
  clear HC3
  by_cases c4 : (l0.length : Int) > 1048576
  ·rw [if_pos c4] at H
   have c4b0 : decide (1048576 < (l0.length : Int)) = true := decide_eq_true c4
   have c4b1 : decide (1048576 < l0.length) = true := decide_eq_true (by omega)
   clear c4
   (first | rw [c4b0] | (simp only [i64_w, i32_w]; rw [c4b0]) | skip)
   have H' := am H
   clear H
   go_wp2
   go_meet
   case rel => exact ⟨_, (true), (by first | rfl | (simp; done) | (simp [*]; done)), H', ⟨by first | omega | exact Nat.le_refl _⟩, ⟨by exact bz HB.out⟩⟩
  ·rw [if_neg c4] at H
   have c4b0 : decide (1048576 < (l0.length : Int)) = false := decide_eq_false c4
   have c4b1 : decide (1048576 < l0.length) = false := decide_eq_false (by omega)
   clear c4
   (first | rw [c4b0] | (simp only [i64_w, i32_w]; rw [c4b0]) | skip)
   have H' := am H
   clear H
   go_wp2
   go_meet
   case rel => exact ⟨_, (decide ((l1.length : Int) > 1048576)), (by first | rfl | (simp; done) | (simp [*]; done)), H', ⟨by first | omega | exact Nat.le_refl _⟩, ⟨by exact bz HB.out⟩⟩
 case rest =>
  clear HC3
  try clear c1
  try clear p2
  try clear c4
  try clear c4b0
  try clear c4b1
  obtain ⟨kq, x32_2, rfl, HA, HJ2, HB⟩ := hcut
  cases kq with
  | zero => exact absurd HA.out (by simp [laws_FnMinMatrix.j0])
  | succ kj2 =>
   have H := HA.out
   clear HA
   simp only [laws_FnMinMatrix.j0] at H
   by_cases c5 : x32_2 = true
   ·subst c5
    have H1 : (some true) = some r := by rw [if_pos rfl] at H; exact H
    clear H
    have H := H1
    clear H1
    obtain rfl := Option.some.inj H
    go_wp2
    go_ret
    exact ⟨by first | rfl | (simp [errW_none, errW_some] <;> rfl) | (simp [*, errW_none, errW_some] <;> rfl), by exact bz HB.out⟩
   ·replace c5 := Bool.eq_false_iff.mpr c5
    subst c5
    have H1 : ((spec_DrawMinMatrix.f kj2 l0).bind fun bt298 => ((impl_MinMatrix.f kj2 bt298.1 bt298.2.1 bt298.2.2.1 bt298.2.2.2).bind fun bt308 => ((spec_MinMatrix.f kj2 bt298.1 bt298.2.1 bt298.2.2.1 bt298.2.2.2).bind fun bt314 => ((laws_daMatrix.f kj2 bt308.1 bt308.2.1 bt314.1 bt314.2.1).bind fun t320 => (if t320 = true then (if (bt308.2.2 != bt314.2.2) = true then (laws_FnMinMatrix.j1 kj2 l1 bt308.2.2 bt314.2.2 true bt298.1 bt298.2.1 bt298.2.2.1 bt298.2.2.2 bt308.1 bt308.2.1 bt314.1 bt314.2.1) else (laws_FnMinMatrix.j1 kj2 l1 bt308.2.2 bt314.2.2 (!bt308.2.2) bt298.1 bt298.2.1 bt298.2.2.1 bt298.2.2.2 bt308.1 bt308.2.1 bt314.1 bt314.2.1)) else (laws_FnMinMatrix.j1 kj2 l1 bt308.2.2 bt314.2.2 true bt298.1 bt298.2.1 bt298.2.2.1 bt298.2.2.2 bt308.1 bt308.2.1 bt314.1 bt314.2.1)))))) = some r := by rw [if_neg (show ¬ (false = true) by decide)] at H; exact H
    clear H
    have H := H1
    clear H1
    replace H := Option.bind_eq_some_iff.mp H
    obtain ⟨⟨t298, t299, t302, t303⟩, A60, H⟩ := H
    (try dsimp only at H)
    have A6 := am A60
    clear A60
    replace H := Option.bind_eq_some_iff.mp H
    obtain ⟨⟨t308, t309, t312⟩, A70, H⟩ := H
    (try dsimp only at H)
    have A7 := am A70
    clear A70
    replace H := Option.bind_eq_some_iff.mp H
    obtain ⟨⟨t314, t315, t318⟩, A80, H⟩ := H
    (try dsimp only at H)
    have A8 := am A80
    clear A80
    have HC9 := am H
    clear H
    go_upto_region 6 with (first | ((with_reducible refine gate_callee (f := 29) rfl ?_); refine goesL_ (some 35) rfl rfl Try.func29 (by kernel_rfl) rfl #[.slice A0 l0.length c0] rfl (by (try simp only [List.map_toArray, List.map_cons, List.map_nil]); first | done | rfl | (simp only [List.length_drop, List.length_take]; rfl)) ?_; (with_reducible refine (spec_DrawMinMatrix.calls kj2 _ _ l0 t298 t299 t302 t303 _ ?side1 ?side2 A6.out).mono ?_); (case side1 => repeat (first | exact (Kd.C_below HR0.out HB.out) | (with_reducible refine Kd.C_alloc ?_ _) | (with_reducible refine Kd.C_drewN ?_ _) | (with_reducible refine Kd.C_drew ?_))); (case side2 => exact HC0.out); rintro e w10 ⟨v300, v304, rfl, ho0, ho1, hb⟩; refine ⟨_, rfl, ?_⟩; have n0_ := am (Kd.V_lower (Kd.V_mono (ok' := fun k_ => some k_ ≠ (v304 : Value).ownBlock) ho0 (fun k_ hk_ => hk_.2)) (below_size (bz HB.out))); have n1_ := am (Kd.R_lower (Kd.R_mono (ok' := fun k_ => True) ho1 (fun _ hk_ => trivial)) (below_size (bz HB.out))); have n2_ := am (below_step (bz HB.out) hb); clear HB; revert n0_ n1_ n2_; intro HO301 HO305 HB; (try clear hb); (try clear hb2); (try clear hk); (try clear hi); (try clear ho0); (try clear ho1)) | ((with_reducible refine gate_dst (N := 5) rfl ?_); (try (refine gate_guard (by rfl) ?_; dsimp only)); refine box_event ?hg (N := 5) ?hd (cs := #[.int .i64 0, .slice none 0 0]) (t := 27) ?hr ?_; (case hd => rfl); (case hg => rfl); (case hr => first | (go_simp; done) | (go_simp; rfl)); intro gb306 hg w11 hbox hb; have n0_ := am (Kd.V_below (Kd.V_elderB (by (with_reducible repeat (first | apply Kd.V_alloc | apply Kd.V_drewN | apply Kd.V_drew)); exact HO301.out) gb306 (Nat.le_of_eq hg.symm)) hb); have n1_ := am (Kd.R_below (rz HO305.out) hb); have n2_ := am (below_step (bz HB.out) hb); have n3_ := am (hbox); have n4_ := am ((by rw [hg]; exact (below_size (bz HB.out)) : w.heap.size ≤ gb306)); have n5_ := am ((by rw [hg]; exact (below_size (bz HB.out)) : w.heap.size ≤ gb306)); clear HO301 HO305 HB; revert n0_ n1_ n2_ n3_ n4_ n5_; intro HO301 HO305 HB BK306 GW306 GE306; clear hb hbox hg) | ((with_reducible refine gate_dst (N := 6) rfl ?_); (try (refine gate_guard (by rfl) ?_; dsimp only)); refine box_event ?hg (N := 6) ?hd (cs := #[.int .i64 0, .slice none 0 0]) (t := 27) ?hr ?_; (case hd => rfl); (case hg => rfl); (case hr => first | (go_simp; done) | (go_simp; rfl)); intro gb307 hg w12 hbox hb; have n0_ := am (Kd.V_below (Kd.V_elderB (by (with_reducible repeat (first | apply Kd.V_alloc | apply Kd.V_drewN | apply Kd.V_drew)); exact HO301.out) gb307 (Nat.le_of_eq hg.symm)) hb); have n1_ := am (Kd.R_below (rz HO305.out) hb); have n2_ := bk BK306 hb; have n3_ := am (below_step (bw HB.out) hb); have n4_ := am (hbox); have n5_ := am ((by rw [hg]; exact (below_size (bw HB.out)) : w.heap.size ≤ gb307)); have n6_ := am ((by rw [hg]; exact (below_size (bw HB.out)) : w.heap.size ≤ gb307)); have n7_ := am ((by rw [hg]; exact Nat.ne_of_lt (blk_lt (kz BK306.out)) : gb306 ≠ gb307)); have n8_ := am ((by rw [hg]; exact Nat.ne_of_gt (blk_lt (kz BK306.out)) : gb307 ≠ gb306)); clear HO301 HO305 BK306 HB; revert n0_ n1_ n2_ n3_ n4_ n5_ n6_ n7_ n8_; intro HO301 HO305 BK306 HB BK307 GW307 GE307 NB306_307 NB307_306; clear hb hbox hg; have hnb13 := NB306_307.out; have hnc13 := NB307_306.out; have hcz14_0 := cz20 BK306.out; have hcz14_1 := cz21 BK306.out; have hfz14_0 := blk_frozen BK306.out 0; have hfz14_1 := blk_frozen BK306.out 1; obtain ⟨Ao15, co15, eo15⟩ := Kd.V_slice HO301.out; subst eo15; have hcz16_0 := cz20 BK307.out; have hcz16_1 := cz21 BK307.out; have hfz16_0 := blk_frozen BK307.out 0; have hfz16_1 := blk_frozen BK307.out 1; obtain ⟨Ao17, co17, eo17⟩ := Kd.R_slice HO305.out; subst eo17) | ((with_reducible refine gate_callee (f := 26) rfl ?_); refine goesL_ (some 41) rfl rfl Try.func26 (by kernel_rfl) rfl #[.agg #[.int .i64 t298, .slice Ao15 t299.length co15], .agg #[.int .i64 t302, .slice Ao17 t303.length co17]] rfl (by (try simp only [List.map_toArray, List.map_cons, List.map_nil]); first | done | rfl | (simp only [List.length_drop, List.length_take]; rfl)) ?_; (with_reducible refine (impl_MinMatrix.calls kj2 t298 _ _ t299 t302 _ _ t303 t308 t309 t312 _ ?side1 ?side2 ?side3 ?side4 A7.out).mono ?_); (case side1 => refine (Kd.V_reads' (e := 3) (base := w.heap.size) (ok := fun k_ => ((NS Ao17 t303 co17 k_ ∧ k_ ≠ gb306) ∧ k_ ≠ gb307)) (n := t299.length) (c := co15) ?_).2.2; exact (by (with_reducible repeat (first | apply Kd.V_alloc | apply Kd.V_drewN | apply Kd.V_drew)); exact (Kd.V_mono (Kd.V_mono (Kd.V_far (p := ⟨gb307, 1, none⟩) (Kd.V_far (p := ⟨gb307, 0, none⟩) (Kd.V_far (p := ⟨gb306, 1, none⟩) (Kd.V_far (p := ⟨gb306, 0, none⟩) (Kd.V_mono (Kd.V_mono HO301.out (fun k_ hk => (⟨hk, hk.1.2⟩ : _ ∧ k_ ≠ gb306))) (fun k_ hk => (⟨hk, hk.1.2⟩ : _ ∧ k_ ≠ gb307))) (fun _ hk => hk.1.2) (.int .i64 t298)) (fun _ hk => hk.1.2) (.slice Ao15 t299.length co15)) (fun _ hk => hk.2) (.int .i64 t302)) (fun _ hk => hk.2) (.slice Ao17 t303.length co17)) (fun _ h_ => h_.1)) (fun _ h_ => h_.1)))); (case side2 => exact (Kd.V_reads' HO301.out).2.1); (case side3 => refine (Kd.R_reads' (e := 3) (base := w.heap.size) (ok := fun k_ => True) (n := t303.length) (c := co17) ?_).2.2; exact (by (with_reducible repeat (first | apply ra | apply rn | apply rw_)); exact (Kd.R_mono (Kd.R_mono (Kd.R_far (p := ⟨gb307, 1, none⟩) (Kd.R_far (p := ⟨gb307, 0, none⟩) (Kd.R_far (p := ⟨gb306, 1, none⟩) (Kd.R_far (p := ⟨gb306, 0, none⟩) (Kd.R_types (Kd.R_types HO305.out BK306.out (by decide)) BK307.out (by decide)) (fun _ hk => hk.1.2) (.int .i64 t298)) (fun _ hk => hk.1.2) (.slice Ao15 t299.length co15)) (fun _ hk => hk.2) (.int .i64 t302)) (fun _ hk => hk.2) (.slice Ao17 t303.length co17)) (fun _ h_ => h_.1)) (fun _ h_ => h_.1)))); (case side4 => exact (Kd.R_reads' HO305.out).2.1); rintro e w18 ⟨v310, rfl, ho0, hb⟩; refine ⟨_, rfl, ?_⟩; have n0_ := am (Kd.V_elder' (by (with_reducible repeat (first | apply Kd.V_alloc | apply Kd.V_drewN | apply Kd.V_drew)); exact (Kd.V_mono (Kd.V_mono (Kd.V_far (p := ⟨gb307, 1, none⟩) (Kd.V_far (p := ⟨gb307, 0, none⟩) (Kd.V_far (p := ⟨gb306, 1, none⟩) (Kd.V_far (p := ⟨gb306, 0, none⟩) (Kd.V_mono (Kd.V_mono HO301.out (fun k_ hk => (⟨hk, hk.1.2⟩ : _ ∧ k_ ≠ gb306))) (fun k_ hk => (⟨hk, hk.1.2⟩ : _ ∧ k_ ≠ gb307))) (fun _ hk => hk.1.2) (.int .i64 t298)) (fun _ hk => hk.1.2) (.slice Ao15 t299.length co15)) (fun _ hk => hk.2) (.int .i64 t302)) (fun _ hk => hk.2) (.slice Ao17 t303.length co17)) (fun _ h_ => h_.1)) (fun _ h_ => h_.1))) (Kd.R_base ho0) hb); have n1_ := am (Kd.R_elder' (by (with_reducible repeat (first | apply ra | apply rn | apply rw_)); exact (Kd.R_mono (Kd.R_mono (Kd.R_far (p := ⟨gb307, 1, none⟩) (Kd.R_far (p := ⟨gb307, 0, none⟩) (Kd.R_far (p := ⟨gb306, 1, none⟩) (Kd.R_far (p := ⟨gb306, 0, none⟩) (Kd.R_types (Kd.R_types HO305.out BK306.out (by decide)) BK307.out (by decide)) (fun _ hk => hk.1.2) (.int .i64 t298)) (fun _ hk => hk.1.2) (.slice Ao15 t299.length co15)) (fun _ hk => hk.2) (.int .i64 t302)) (fun _ hk => hk.2) (.slice Ao17 t303.length co17)) (fun _ h_ => h_.1)) (fun _ h_ => h_.1))) (Kd.R_base ho0) hb); have n2_ := am (Kd.R_lower (Kd.R_new' ho0 (Kd.R_lt (by (with_reducible repeat (first | apply ra | apply rn | apply rw_)); exact (Kd.R_mono (Kd.R_mono (Kd.R_far (p := ⟨gb307, 1, none⟩) (Kd.R_far (p := ⟨gb307, 0, none⟩) (Kd.R_far (p := ⟨gb306, 1, none⟩) (Kd.R_far (p := ⟨gb306, 0, none⟩) (Kd.R_types (Kd.R_types HO305.out BK306.out (by decide)) BK307.out (by decide)) (fun _ hk => hk.1.2) (.int .i64 t298)) (fun _ hk => hk.1.2) (.slice Ao15 t299.length co15)) (fun _ hk => hk.2) (.int .i64 t302)) (fun _ hk => hk.2) (.slice Ao17 t303.length co17)) (fun _ h_ => h_.1)) (fun _ h_ => h_.1))))) (below_size (bw HB.out))); have n3_ := am (blk_below (g := gb306) (o := .cells #[.int .i64 t298, .slice Ao15 t299.length co15] 27 (0, 0)) (by (with_reducible repeat (first | refine kn ?_ _ | refine kd ?_ | refine ka ?_ _)); refine blk_far ?_ NB306_307.out _; (with_reducible repeat (first | refine kn ?_ _ | refine kd ?_ | refine ka ?_ _)); refine blk_far ?_ NB306_307.out _; (with_reducible repeat (first | refine kn ?_ _ | refine kd ?_ | refine ka ?_ _)); refine blk_put (cs := #[.int .i64 t298, .slice none 0 0]) ?_ 1 _ rfl; (with_reducible repeat (first | refine kn ?_ _ | refine kd ?_ | refine ka ?_ _)); refine blk_put (cs := #[.int .i64 0, .slice none 0 0]) ?_ 0 _ rfl; (with_reducible repeat (first | refine kn ?_ _ | refine kd ?_ | refine ka ?_ _)); exact BK306.out) hb); have n4_ := am (blk_below (g := gb307) (o := .cells #[.int .i64 t302, .slice Ao17 t303.length co17] 27 (0, 0)) (by (with_reducible repeat (first | refine kn ?_ _ | refine kd ?_ | refine ka ?_ _)); refine blk_put (cs := #[.int .i64 t302, .slice none 0 0]) ?_ 1 _ rfl; (with_reducible repeat (first | refine kn ?_ _ | refine kd ?_ | refine ka ?_ _)); refine blk_put (cs := #[.int .i64 0, .slice none 0 0]) ?_ 0 _ rfl; (with_reducible repeat (first | refine kn ?_ _ | refine kd ?_ | refine ka ?_ _)); refine blk_far ?_ NB307_306.out _; (with_reducible repeat (first | refine kn ?_ _ | refine kd ?_ | refine ka ?_ _)); refine blk_far ?_ NB307_306.out _; (with_reducible repeat (first | refine kn ?_ _ | refine kd ?_ | refine ka ?_ _)); exact BK307.out) hb); have n5_ := am (below_step (bw HB.out) hb); clear HO301 HO305 BK306 BK307 HB; revert n0_ n1_ n2_ n3_ n4_ n5_; intro HO301 HO305 HO311 BK306 BK307 HB; (try clear hb); (try clear hb2); (try clear hk); (try clear hi); (try clear ho0)) | ((with_reducible refine gate_dst (N := 7) rfl ?_); (try (refine gate_guard (by rfl) ?_; dsimp only)); refine box_event ?hg (N := 7) ?hd (cs := #[.int .i64 0, .slice none 0 0]) (t := 27) ?hr ?_; (case hd => rfl); (case hg => rfl); (case hr => first | (go_simp; done) | (go_simp; rfl)); intro gb313 hg w19 hbox hb; have n0_ := am (Kd.V_below (Kd.V_elderB (by (with_reducible repeat (first | apply Kd.V_alloc | apply Kd.V_drewN | apply Kd.V_drew)); exact HO301.out) gb313 (Nat.le_of_eq hg.symm)) hb); have n1_ := am (Kd.R_below (rz HO305.out) hb); have n2_ := am (Kd.R_below (rz HO311.out) hb); have n3_ := bk BK306 hb; have n4_ := bk BK307 hb; have n5_ := am (below_step (bw HB.out) hb); have n6_ := am (hbox); have n7_ := am ((by rw [hg]; exact (below_size (bw HB.out)) : w.heap.size ≤ gb313)); have n8_ := am ((by rw [hg]; exact (below_size (bw HB.out)) : w.heap.size ≤ gb313)); have n9_ := am ((by rw [hg]; exact Nat.ne_of_lt (blk_lt (kz BK306.out)) : gb306 ≠ gb313)); have n10_ := am ((by rw [hg]; exact Nat.ne_of_gt (blk_lt (kz BK306.out)) : gb313 ≠ gb306)); have n11_ := am ((by rw [hg]; exact Nat.ne_of_lt (blk_lt (kz BK307.out)) : gb307 ≠ gb313)); have n12_ := am ((by rw [hg]; exact Nat.ne_of_gt (blk_lt (kz BK307.out)) : gb313 ≠ gb307)); clear HO301 HO305 HO311 BK306 BK307 HB; revert n0_ n1_ n2_ n3_ n4_ n5_ n6_ n7_ n8_ n9_ n10_ n11_ n12_; intro HO301 HO305 HO311 BK306 BK307 HB BK313 GW313 GE313 NB306_313 NB313_306 NB307_313 NB313_307; clear hb hbox hg; have hnb20 := NB313_306.out; have hnc20 := NB306_313.out; have hnb21 := NB313_307.out; have hnc21 := NB307_313.out; have hcz22_0 := cz20 BK313.out; have hcz22_1 := cz21 BK313.out; have hfz22_0 := blk_frozen BK313.out 0; have hfz22_1 := blk_frozen BK313.out 1; obtain ⟨Ao23, co23, eo23⟩ := Kd.R_slice HO311.out; subst eo23; have hcz24_0 := cz20 BK306.out; have hcz24_1 := cz21 BK306.out; have hfz24_0 := blk_frozen BK306.out 0; have hfz24_1 := blk_frozen BK306.out 1; have hcz25_0 := cz20 BK307.out; have hcz25_1 := cz21 BK307.out; have hfz25_0 := blk_frozen BK307.out 0; have hfz25_1 := blk_frozen BK307.out 1) | ((with_reducible refine gate_callee (f := 25) rfl ?_); refine goesL_ (some 47) rfl rfl Try.func25 (by kernel_rfl) rfl #[.agg #[.int .i64 t298, .slice Ao15 t299.length co15], .agg #[.int .i64 t302, .slice Ao17 t303.length co17]] rfl (by (try simp only [List.map_toArray, List.map_cons, List.map_nil]); first | done | rfl | (simp only [List.length_drop, List.length_take]; rfl)) ?_; (with_reducible refine (spec_MinMatrix.calls kj2 t298 _ _ t299 t302 _ _ t303 t314 t315 t318 _ ?side1 ?side2 ?side3 ?side4 A8.out).mono ?_); (case side1 => refine (Kd.V_reads' (e := 3) (base := w.heap.size) (ok := fun k_ => ((((NS Ao17 t303 co17 k_ ∧ k_ ≠ gb306) ∧ k_ ≠ gb307) ∧ NS Ao23 t309 co23 k_) ∧ k_ ≠ gb313)) (n := t299.length) (c := co15) ?_).2.2; exact (by (with_reducible repeat (first | apply Kd.V_alloc | apply Kd.V_drewN | apply Kd.V_drew)); exact (Kd.V_mono (Kd.V_far (p := ⟨gb313, 1, none⟩) (Kd.V_far (p := ⟨gb313, 0, none⟩) (Kd.V_mono HO301.out (fun k_ hk => (⟨hk, hk.2⟩ : _ ∧ k_ ≠ gb313))) (fun _ hk => hk.2) (.int .i64 t308)) (fun _ hk => hk.2) (.slice Ao23 t309.length co23)) (fun _ h_ => h_.1)))); (case side2 => exact (Kd.V_reads' HO301.out).2.1); (case side3 => refine (Kd.R_reads' (e := 3) (base := w.heap.size) (ok := fun k_ => (True ∧ NS Ao23 t309 co23 k_)) (n := t303.length) (c := co17) ?_).2.2; exact (r2z HO305 BK313 (by decide))); (case side4 => exact (Kd.R_reads' HO305.out).2.1); rintro e w26 ⟨v316, rfl, ho0, hb⟩; refine ⟨_, rfl, ?_⟩; have n0_ := am (Kd.V_elder' (by (with_reducible repeat (first | apply Kd.V_alloc | apply Kd.V_drewN | apply Kd.V_drew)); exact (Kd.V_mono (Kd.V_far (p := ⟨gb313, 1, none⟩) (Kd.V_far (p := ⟨gb313, 0, none⟩) (Kd.V_mono HO301.out (fun k_ hk => (⟨hk, hk.2⟩ : _ ∧ k_ ≠ gb313))) (fun _ hk => hk.2) (.int .i64 t308)) (fun _ hk => hk.2) (.slice Ao23 t309.length co23)) (fun _ h_ => h_.1))) (Kd.R_base ho0) hb); have n1_ := am (Kd.R_elder' (r2z HO305 BK313 (by decide)) (Kd.R_base ho0) hb); have n2_ := am (Kd.R_elder' (r2z HO311 BK313 (by decide)) (Kd.R_base ho0) hb); have n3_ := am (Kd.R_lower (Kd.R_new' (Kd.R_new' ho0 (Kd.R_lt (r2z HO305 BK313 (by decide)))) (Kd.R_lt (r2z HO311 BK313 (by decide)))) (below_size (bw HB.out))); have n4_ := am (blk_below (kf BK306.out) hb); have n5_ := am (blk_below (kf BK307.out) hb); have n6_ := am (blk_below (g := gb313) (o := .cells #[.int .i64 t308, .slice Ao23 t309.length co23] 27 (0, 0)) (by (with_reducible repeat (first | refine kn ?_ _ | refine kd ?_ | refine ka ?_ _)); refine blk_put (cs := #[.int .i64 t308, .slice none 0 0]) ?_ 1 _ rfl; (with_reducible repeat (first | refine kn ?_ _ | refine kd ?_ | refine ka ?_ _)); refine blk_put (cs := #[.int .i64 0, .slice none 0 0]) ?_ 0 _ rfl; (with_reducible repeat (first | refine kn ?_ _ | refine kd ?_ | refine ka ?_ _)); exact BK313.out) hb); have n7_ := am (below_step (bw HB.out) hb); clear HO301 HO305 HO311 BK306 BK307 BK313 HB; revert n0_ n1_ n2_ n3_ n4_ n5_ n6_ n7_; intro HO301 HO305 HO311 HO317 BK306 BK307 BK313 HB; (try clear hb); (try clear hb2); (try clear hk); (try clear hi); (try clear ho0)) | ((with_reducible refine gate_dst (N := 9) rfl ?_); (try (refine gate_guard (by rfl) ?_; dsimp only)); refine box_event ?hg (N := 9) ?hd (cs := #[.int .i64 0, .slice none 0 0]) (t := 27) ?hr ?_; (case hd => rfl); (case hg => rfl); (case hr => first | (go_simp; done) | (go_simp; rfl)); intro gb319 hg w27 hbox hb; have n0_ := am (Kd.V_below (Kd.V_elderB (by (with_reducible repeat (first | apply Kd.V_alloc | apply Kd.V_drewN | apply Kd.V_drew)); exact HO301.out) gb319 (Nat.le_of_eq hg.symm)) hb); have n1_ := am (Kd.R_below (rz HO305.out) hb); have n2_ := am (Kd.R_below (rz HO311.out) hb); have n3_ := am (Kd.R_below (rz HO317.out) hb); have n4_ := bk BK306 hb; have n5_ := bk BK307 hb; have n6_ := bk BK313 hb; have n7_ := am (below_step (bw HB.out) hb); have n8_ := am (hbox); have n9_ := am ((by rw [hg]; exact (below_size (bw HB.out)) : w.heap.size ≤ gb319)); have n10_ := am ((by rw [hg]; exact (below_size (bw HB.out)) : w.heap.size ≤ gb319)); have n11_ := am ((by rw [hg]; exact Nat.ne_of_lt (blk_lt (kz BK306.out)) : gb306 ≠ gb319)); have n12_ := am ((by rw [hg]; exact Nat.ne_of_gt (blk_lt (kz BK306.out)) : gb319 ≠ gb306)); have n13_ := am ((by rw [hg]; exact Nat.ne_of_lt (blk_lt (kz BK307.out)) : gb307 ≠ gb319)); have n14_ := am ((by rw [hg]; exact Nat.ne_of_gt (blk_lt (kz BK307.out)) : gb319 ≠ gb307)); have n15_ := am ((by rw [hg]; exact Nat.ne_of_lt (blk_lt (kz BK313.out)) : gb313 ≠ gb319)); have n16_ := am ((by rw [hg]; exact Nat.ne_of_gt (blk_lt (kz BK313.out)) : gb319 ≠ gb313)); clear HO301 HO305 HO311 HO317 BK306 BK307 BK313 HB; revert n0_ n1_ n2_ n3_ n4_ n5_ n6_ n7_ n8_ n9_ n10_ n11_ n12_ n13_ n14_ n15_ n16_; intro HO301 HO305 HO311 HO317 BK306 BK307 BK313 HB BK319 GW319 GE319 NB306_319 NB319_306 NB307_319 NB319_307 NB313_319 NB319_313; clear hb hbox hg; have hnb28 := NB319_306.out; have hnc28 := NB306_319.out; have hnb29 := NB319_307.out; have hnc29 := NB307_319.out; have hnb30 := NB319_313.out; have hnc30 := NB313_319.out; have hcz31_0 := cz20 BK319.out; have hcz31_1 := cz21 BK319.out; have hfz31_0 := blk_frozen BK319.out 0; have hfz31_1 := blk_frozen BK319.out 1; obtain ⟨Ao32, co32, eo32⟩ := Kd.R_slice HO317.out; subst eo32))
    (try simp only [Act.put, List.setIfInBounds_toArray, List.set_cons_zero, List.set_cons_succ])
    go_cut [62] (fun v62 wc => ∃ (kq : Nat) (x62_8 : Bool), v62 = .bool x62_8 ∧ Aside0 (laws_FnMinMatrix.j1 kq l1 t312 t318 x62_8 t298 t299 t302 t303 t308 t309 t314 t315 = some r) ∧ Aside0 (kq ≤ kj2) ∧ Aside0 (Kd.V (Kd.int .i64) 3 wc w.heap.size (fun k_ => some k_ ≠ ((.slice Ao17 t303.length co17) : Value).ownBlock ∧ some k_ ≠ ((.slice Ao23 t309.length co23) : Value).ownBlock ∧ some k_ ≠ ((.slice Ao32 t315.length co32) : Value).ownBlock ∧ k_ ≠ gb306 ∧ k_ ≠ gb307 ∧ k_ ≠ gb313 ∧ k_ ≠ gb319) (.slice Ao15 t299.length co15) t299) ∧ Aside0 (Kd.R (Kd.int .i64) 3 wc w.heap.size (fun k_ => some k_ ≠ ((.slice Ao23 t309.length co23) : Value).ownBlock ∧ some k_ ≠ ((.slice Ao32 t315.length co32) : Value).ownBlock) (.slice Ao17 t303.length co17) t303) ∧ Aside0 (Kd.R (Kd.int .i64) 3 wc w.heap.size (fun k_ => some k_ ≠ ((.slice Ao17 t303.length co17) : Value).ownBlock ∧ some k_ ≠ ((.slice Ao32 t315.length co32) : Value).ownBlock) (.slice Ao23 t309.length co23) t309) ∧ Aside0 (Kd.R (Kd.int .i64) 3 wc w.heap.size (fun k_ => some k_ ≠ ((.slice Ao17 t303.length co17) : Value).ownBlock ∧ some k_ ≠ ((.slice Ao23 t309.length co23) : Value).ownBlock) (.slice Ao32 t315.length co32) t315) ∧ Aside0 (wc.heap[gb306]? = some (.cells #[.int .i64 t298, (.slice Ao15 t299.length co15)] 27 (0, 0))) ∧ Aside0 (wc.heap[gb307]? = some (.cells #[.int .i64 t302, (.slice Ao17 t303.length co17)] 27 (0, 0))) ∧ Aside0 (wc.heap[gb313]? = some (.cells #[.int .i64 t308, (.slice Ao23 t309.length co23)] 27 (0, 0))) ∧ Aside0 (wc.heap[gb319]? = some (.cells #[.int .i64 t314, (.slice Ao32 t315.length co32)] 27 (0, 0))) ∧ Aside0 (Below w.heap.size w wc))
    case first =>
     have H := HC9.out
     clear HC9
     replace H := Option.bind_eq_some_iff.mp H
     obtain ⟨t320, A330, H⟩ := H
     (try dsimp only at H)
     have A33 := am A330
     clear A330
     by_cases c34 : t320 = true
     ·subst c34
      have H1 : (if (t312 != t318) = true then (laws_FnMinMatrix.j1 kj2 l1 t312 t318 true t298 t299 t302 t303 t308 t309 t314 t315) else (laws_FnMinMatrix.j1 kj2 l1 t312 t318 (!t312) t298 t299 t302 t303 t308 t309 t314 t315)) = some r := by rw [if_pos rfl] at H; exact H
      clear H
      have H := H1
      clear H1
      by_cases c35 : (t312 != t318) = true
      ·rw [if_pos c35] at H
       have c35b0 : (t312 != t318) = true := c35
       (try (have c35b1 : decide (t312 = t318) = false := by simpa using c35))
       (try (have c35b2 : (t312 == t318) = false := by simpa using c35))
       (try (have c35b3 : ¬ (t312 = t318) := by simpa using c35))
       clear c35
       (first | rw [c35b0] | (simp only [i64_w, i32_w]; rw [c35b0]) | skip)
       have H' := am H
       clear H
       have hnb36 := NB313_306.out
       have hnc36 := NB306_313.out
       have hnb37 := NB313_307.out
       have hnc37 := NB307_313.out
       have hnb38 := NB313_319.out
       have hnc38 := NB319_313.out
       have hcz39_0 := cz20 BK313.out
       have hcz39_1 := cz21 BK313.out
       have hfz39_0 := blk_frozen BK313.out 0
       have hfz39_1 := blk_frozen BK313.out 1
       have hnb40 := NB319_306.out
       have hnc40 := NB306_319.out
       have hnb41 := NB319_307.out
       have hnc41 := NB307_319.out
       have hcz42_0 := cz20 BK319.out
       have hcz42_1 := cz21 BK319.out
       have hfz42_0 := blk_frozen BK319.out 0
       have hfz42_1 := blk_frozen BK319.out 1
       go_wp2_with (first | ((with_reducible refine gate_callee (f := 30) rfl ?_); refine goesL_ (some 52) rfl rfl Try.func30 (by kernel_rfl) rfl #[.agg #[.int .i64 t308, .slice Ao23 t309.length co23], .agg #[.int .i64 t314, .slice Ao32 t315.length co32]] rfl (by (try simp only [List.map_toArray, List.map_cons, List.map_nil]); first | done | rfl | (simp only [List.length_drop, List.length_take]; rfl)) ?_; (with_reducible refine (laws_daMatrix.calls kj2 t308 _ _ t309 t314 _ _ t315 true _ ?side1 ?side2 ?side3 ?side4 A33.out).mono ?_); (case side1 => refine (Kd.R_reads' (e := 3) (base := w.heap.size) (ok := fun k_ => ((True ∧ NS Ao17 t303 co17 k_) ∧ NS Ao32 t315 co32 k_)) (n := t309.length) (c := co23) ?_).2.2; exact (r2z HO311 BK319 (by decide))); (case side2 => exact (Kd.R_reads' HO311.out).2.1); (case side3 => refine (Kd.R_reads' (e := 3) (base := w.heap.size) (ok := fun k_ => ((True ∧ NS Ao17 t303 co17 k_) ∧ NS Ao23 t309 co23 k_)) (n := t315.length) (c := co32) ?_).2.2; exact (r2z HO317 BK319 (by decide))); (case side4 => exact (Kd.R_reads' HO317.out).2.1); rintro e w43 ⟨rfl, hb⟩; refine ⟨_, rfl, ?_⟩; have n0_ := am (Kd.V_below (by (with_reducible repeat (first | apply Kd.V_alloc | apply Kd.V_drewN | apply Kd.V_drew)); exact (Kd.V_mono (Kd.V_far (p := ⟨gb319, 1, none⟩) (Kd.V_far (p := ⟨gb319, 0, none⟩) (Kd.V_mono HO301.out (fun k_ hk => (⟨hk, hk.2⟩ : _ ∧ k_ ≠ gb319))) (fun _ hk => hk.2) (.int .i64 t314)) (fun _ hk => hk.2) (.slice Ao32 t315.length co32)) (fun _ h_ => h_.1))) hb); have n1_ := am (Kd.R_below (r2z HO305 BK319 (by decide)) hb); have n2_ := am (Kd.R_below (r2z HO311 BK319 (by decide)) hb); have n3_ := am (Kd.R_below (r2z HO317 BK319 (by decide)) hb); have n4_ := am (blk_below (kf BK306.out) hb); have n5_ := am (blk_below (kf BK307.out) hb); have n6_ := am (blk_below (kf BK313.out) hb); have n7_ := am (blk_below (g := gb319) (o := .cells #[.int .i64 t314, .slice Ao32 t315.length co32] 27 (0, 0)) (by (with_reducible repeat (first | refine kn ?_ _ | refine kd ?_ | refine ka ?_ _)); refine blk_put (cs := #[.int .i64 t314, .slice none 0 0]) ?_ 1 _ rfl; (with_reducible repeat (first | refine kn ?_ _ | refine kd ?_ | refine ka ?_ _)); refine blk_put (cs := #[.int .i64 0, .slice none 0 0]) ?_ 0 _ rfl; (with_reducible repeat (first | refine kn ?_ _ | refine kd ?_ | refine ka ?_ _)); exact BK319.out) hb); have n8_ := am (below_step (bw HB.out) hb); clear HO301 HO305 HO311 HO317 BK306 BK307 BK313 BK319 HB; revert n0_ n1_ n2_ n3_ n4_ n5_ n6_ n7_ n8_; intro HO301 HO305 HO311 HO317 BK306 BK307 BK313 BK319 HB; (try clear hb); (try clear hb2); (try clear hk); (try clear hi)))
       go_meet
       case rel => exact ⟨_, (true), (by first | rfl | (simp; done) | (simp [*]; done)), H', ⟨by have := HJ2.out; first | omega | exact Nat.le_refl _⟩, ⟨by (with_reducible repeat (first | apply Kd.V_alloc | apply Kd.V_drewN | apply Kd.V_drew)); exact Kd.V_mono HO301.out (fun _ hk => ⟨hk.1.1.1.1.1.1, ⟨hk.1.1.1.2, ⟨hk.1.2, ⟨hk.1.1.1.1.1.2, ⟨hk.1.1.1.1.2, ⟨hk.1.1.2, hk.2⟩⟩⟩⟩⟩⟩)⟩, ⟨by (with_reducible repeat (first | apply ra | apply rn | apply rw_)); exact Kd.R_mono HO305.out (fun _ hk => ⟨hk.1.2, hk.2⟩)⟩, ⟨by (with_reducible repeat (first | apply ra | apply rn | apply rw_)); exact Kd.R_mono HO311.out (fun _ hk => ⟨hk.1.2, hk.2⟩)⟩, ⟨by (with_reducible repeat (first | apply ra | apply rn | apply rw_)); exact Kd.R_mono HO317.out (fun _ hk => ⟨hk.1.2, hk.2⟩)⟩, ⟨kz BK306.out⟩, ⟨kz BK307.out⟩, ⟨kz BK313.out⟩, ⟨kz BK319.out⟩, ⟨by exact bw HB.out⟩⟩
      ·rw [if_neg c35] at H
       have c35b0 : (t312 != t318) = false := by simpa using c35
       (try (have c35b1 : decide (t312 = t318) = true := by simpa using c35))
       (try (have c35b2 : (t312 == t318) = true := by simpa using c35))
       clear c35
       (first | rw [c35b0] | (simp only [i64_w, i32_w]; rw [c35b0]) | skip)
       have H' := am H
       clear H
       have hnb44 := NB313_306.out
       have hnc44 := NB306_313.out
       have hnb45 := NB313_307.out
       have hnc45 := NB307_313.out
       have hnb46 := NB313_319.out
       have hnc46 := NB319_313.out
       have hcz47_0 := cz20 BK313.out
       have hcz47_1 := cz21 BK313.out
       have hfz47_0 := blk_frozen BK313.out 0
       have hfz47_1 := blk_frozen BK313.out 1
       have hnb48 := NB319_306.out
       have hnc48 := NB306_319.out
       have hnb49 := NB319_307.out
       have hnc49 := NB307_319.out
       have hcz50_0 := cz20 BK319.out
       have hcz50_1 := cz21 BK319.out
       have hfz50_0 := blk_frozen BK319.out 0
       have hfz50_1 := blk_frozen BK319.out 1
       go_wp2_with (first | ((with_reducible refine gate_callee (f := 30) rfl ?_); refine goesL_ (some 52) rfl rfl Try.func30 (by kernel_rfl) rfl #[.agg #[.int .i64 t308, .slice Ao23 t309.length co23], .agg #[.int .i64 t314, .slice Ao32 t315.length co32]] rfl (by (try simp only [List.map_toArray, List.map_cons, List.map_nil]); first | done | rfl | (simp only [List.length_drop, List.length_take]; rfl)) ?_; (with_reducible refine (laws_daMatrix.calls kj2 t308 _ _ t309 t314 _ _ t315 true _ ?side1 ?side2 ?side3 ?side4 A33.out).mono ?_); (case side1 => refine (Kd.R_reads' (e := 3) (base := w.heap.size) (ok := fun k_ => ((True ∧ NS Ao17 t303 co17 k_) ∧ NS Ao32 t315 co32 k_)) (n := t309.length) (c := co23) ?_).2.2; exact (r2z HO311 BK319 (by decide))); (case side2 => exact (Kd.R_reads' HO311.out).2.1); (case side3 => refine (Kd.R_reads' (e := 3) (base := w.heap.size) (ok := fun k_ => ((True ∧ NS Ao17 t303 co17 k_) ∧ NS Ao23 t309 co23 k_)) (n := t315.length) (c := co32) ?_).2.2; exact (r2z HO317 BK319 (by decide))); (case side4 => exact (Kd.R_reads' HO317.out).2.1); rintro e w51 ⟨rfl, hb⟩; refine ⟨_, rfl, ?_⟩; have n0_ := am (Kd.V_below (by (with_reducible repeat (first | apply Kd.V_alloc | apply Kd.V_drewN | apply Kd.V_drew)); exact (Kd.V_mono (Kd.V_far (p := ⟨gb319, 1, none⟩) (Kd.V_far (p := ⟨gb319, 0, none⟩) (Kd.V_mono HO301.out (fun k_ hk => (⟨hk, hk.2⟩ : _ ∧ k_ ≠ gb319))) (fun _ hk => hk.2) (.int .i64 t314)) (fun _ hk => hk.2) (.slice Ao32 t315.length co32)) (fun _ h_ => h_.1))) hb); have n1_ := am (Kd.R_below (r2z HO305 BK319 (by decide)) hb); have n2_ := am (Kd.R_below (r2z HO311 BK319 (by decide)) hb); have n3_ := am (Kd.R_below (r2z HO317 BK319 (by decide)) hb); have n4_ := am (blk_below (kf BK306.out) hb); have n5_ := am (blk_below (kf BK307.out) hb); have n6_ := am (blk_below (kf BK313.out) hb); have n7_ := am (blk_below (g := gb319) (o := .cells #[.int .i64 t314, .slice Ao32 t315.length co32] 27 (0, 0)) (by (with_reducible repeat (first | refine kn ?_ _ | refine kd ?_ | refine ka ?_ _)); refine blk_put (cs := #[.int .i64 t314, .slice none 0 0]) ?_ 1 _ rfl; (with_reducible repeat (first | refine kn ?_ _ | refine kd ?_ | refine ka ?_ _)); refine blk_put (cs := #[.int .i64 0, .slice none 0 0]) ?_ 0 _ rfl; (with_reducible repeat (first | refine kn ?_ _ | refine kd ?_ | refine ka ?_ _)); exact BK319.out) hb); have n8_ := am (below_step (bw HB.out) hb); clear HO301 HO305 HO311 HO317 BK306 BK307 BK313 BK319 HB; revert n0_ n1_ n2_ n3_ n4_ n5_ n6_ n7_ n8_; intro HO301 HO305 HO311 HO317 BK306 BK307 BK313 BK319 HB; (try clear hb); (try clear hb2); (try clear hk); (try clear hi)))
       go_meet
       case rel => exact ⟨_, (!t312), (by first | rfl | (simp; done) | (simp [*]; done)), H', ⟨by have := HJ2.out; first | omega | exact Nat.le_refl _⟩, ⟨by (with_reducible repeat (first | apply Kd.V_alloc | apply Kd.V_drewN | apply Kd.V_drew)); exact Kd.V_mono HO301.out (fun _ hk => ⟨hk.1.1.1.1.1.1, ⟨hk.1.1.1.2, ⟨hk.1.2, ⟨hk.1.1.1.1.1.2, ⟨hk.1.1.1.1.2, ⟨hk.1.1.2, hk.2⟩⟩⟩⟩⟩⟩)⟩, ⟨by (with_reducible repeat (first | apply ra | apply rn | apply rw_)); exact Kd.R_mono HO305.out (fun _ hk => ⟨hk.1.2, hk.2⟩)⟩, ⟨by (with_reducible repeat (first | apply ra | apply rn | apply rw_)); exact Kd.R_mono HO311.out (fun _ hk => ⟨hk.1.2, hk.2⟩)⟩, ⟨by (with_reducible repeat (first | apply ra | apply rn | apply rw_)); exact Kd.R_mono HO317.out (fun _ hk => ⟨hk.1.2, hk.2⟩)⟩, ⟨kz BK306.out⟩, ⟨kz BK307.out⟩, ⟨kz BK313.out⟩, ⟨kz BK319.out⟩, ⟨by exact bw HB.out⟩⟩
     ·replace c34 := Bool.eq_false_iff.mpr c34
      subst c34
      have H1 : (laws_FnMinMatrix.j1 kj2 l1 t312 t318 true t298 t299 t302 t303 t308 t309 t314 t315) = some r := by rw [if_neg (show ¬ (false = true) by decide)] at H; exact H
      clear H
      have H := H1
      clear H1
      have H' := am H
      clear H
      have hnb52 := NB313_306.out
      have hnc52 := NB306_313.out
      have hnb53 := NB313_307.out
      have hnc53 := NB307_313.out
      have hnb54 := NB313_319.out
      have hnc54 := NB319_313.out
      have hcz55_0 := cz20 BK313.out
      have hcz55_1 := cz21 BK313.out
      have hfz55_0 := blk_frozen BK313.out 0
      have hfz55_1 := blk_frozen BK313.out 1
      have hnb56 := NB319_306.out
      have hnc56 := NB306_319.out
      have hnb57 := NB319_307.out
      have hnc57 := NB307_319.out
      have hcz58_0 := cz20 BK319.out
      have hcz58_1 := cz21 BK319.out
      have hfz58_0 := blk_frozen BK319.out 0
      have hfz58_1 := blk_frozen BK319.out 1
      go_wp2_with (first | ((with_reducible refine gate_callee (f := 30) rfl ?_); refine goesL_ (some 52) rfl rfl Try.func30 (by kernel_rfl) rfl #[.agg #[.int .i64 t308, .slice Ao23 t309.length co23], .agg #[.int .i64 t314, .slice Ao32 t315.length co32]] rfl (by (try simp only [List.map_toArray, List.map_cons, List.map_nil]); first | done | rfl | (simp only [List.length_drop, List.length_take]; rfl)) ?_; (with_reducible refine (laws_daMatrix.calls kj2 t308 _ _ t309 t314 _ _ t315 false _ ?side1 ?side2 ?side3 ?side4 A33.out).mono ?_); (case side1 => refine (Kd.R_reads' (e := 3) (base := w.heap.size) (ok := fun k_ => ((True ∧ NS Ao17 t303 co17 k_) ∧ NS Ao32 t315 co32 k_)) (n := t309.length) (c := co23) ?_).2.2; exact (r2z HO311 BK319 (by decide))); (case side2 => exact (Kd.R_reads' HO311.out).2.1); (case side3 => refine (Kd.R_reads' (e := 3) (base := w.heap.size) (ok := fun k_ => ((True ∧ NS Ao17 t303 co17 k_) ∧ NS Ao23 t309 co23 k_)) (n := t315.length) (c := co32) ?_).2.2; exact (r2z HO317 BK319 (by decide))); (case side4 => exact (Kd.R_reads' HO317.out).2.1); rintro e w59 ⟨rfl, hb⟩; refine ⟨_, rfl, ?_⟩; have n0_ := am (Kd.V_below (by (with_reducible repeat (first | apply Kd.V_alloc | apply Kd.V_drewN | apply Kd.V_drew)); exact (Kd.V_mono (Kd.V_far (p := ⟨gb319, 1, none⟩) (Kd.V_far (p := ⟨gb319, 0, none⟩) (Kd.V_mono HO301.out (fun k_ hk => (⟨hk, hk.2⟩ : _ ∧ k_ ≠ gb319))) (fun _ hk => hk.2) (.int .i64 t314)) (fun _ hk => hk.2) (.slice Ao32 t315.length co32)) (fun _ h_ => h_.1))) hb); have n1_ := am (Kd.R_below (r2z HO305 BK319 (by decide)) hb); have n2_ := am (Kd.R_below (r2z HO311 BK319 (by decide)) hb); have n3_ := am (Kd.R_below (r2z HO317 BK319 (by decide)) hb); have n4_ := am (blk_below (kf BK306.out) hb); have n5_ := am (blk_below (kf BK307.out) hb); have n6_ := am (blk_below (kf BK313.out) hb); have n7_ := am (blk_below (g := gb319) (o := .cells #[.int .i64 t314, .slice Ao32 t315.length co32] 27 (0, 0)) (by (with_reducible repeat (first | refine kn ?_ _ | refine kd ?_ | refine ka ?_ _)); refine blk_put (cs := #[.int .i64 t314, .slice none 0 0]) ?_ 1 _ rfl; (with_reducible repeat (first | refine kn ?_ _ | refine kd ?_ | refine ka ?_ _)); refine blk_put (cs := #[.int .i64 0, .slice none 0 0]) ?_ 0 _ rfl; (with_reducible repeat (first | refine kn ?_ _ | refine kd ?_ | refine ka ?_ _)); exact BK319.out) hb); have n8_ := am (below_step (bw HB.out) hb); clear HO301 HO305 HO311 HO317 BK306 BK307 BK313 BK319 HB; revert n0_ n1_ n2_ n3_ n4_ n5_ n6_ n7_ n8_; intro HO301 HO305 HO311 HO317 BK306 BK307 BK313 BK319 HB; (try clear hb); (try clear hb2); (try clear hk); (try clear hi)))
      go_meet
      case rel => exact ⟨_, (true), (by first | rfl | (simp; done) | (simp [*]; done)), H', ⟨by have := HJ2.out; first | omega | exact Nat.le_refl _⟩, ⟨by (with_reducible repeat (first | apply Kd.V_alloc | apply Kd.V_drewN | apply Kd.V_drew)); exact Kd.V_mono HO301.out (fun _ hk => ⟨hk.1.1.1.1.1.1, ⟨hk.1.1.1.2, ⟨hk.1.2, ⟨hk.1.1.1.1.1.2, ⟨hk.1.1.1.1.2, ⟨hk.1.1.2, hk.2⟩⟩⟩⟩⟩⟩)⟩, ⟨by (with_reducible repeat (first | apply ra | apply rn | apply rw_)); exact Kd.R_mono HO305.out (fun _ hk => ⟨hk.1.2, hk.2⟩)⟩, ⟨by (with_reducible repeat (first | apply ra | apply rn | apply rw_)); exact Kd.R_mono HO311.out (fun _ hk => ⟨hk.1.2, hk.2⟩)⟩, ⟨by (with_reducible repeat (first | apply ra | apply rn | apply rw_)); exact Kd.R_mono HO317.out (fun _ hk => ⟨hk.1.2, hk.2⟩)⟩, ⟨kz BK306.out⟩, ⟨kz BK307.out⟩, ⟨kz BK313.out⟩, ⟨kz BK319.out⟩, ⟨by exact bw HB.out⟩⟩
    case rest =>
     clear HC9
     try clear c1
     try clear c2
     try clear p2
     try clear c3
     try clear c4
     try clear c4b0
     try clear c4b1
     try clear c5
     try clear c8
     try clear c13
     try clear c20
     try clear c21
     try clear c25
     try clear c26
     try clear c28
     try clear c29
     try clear c30
     try clear c34
     try clear c35
     try clear c35b0
     try clear c35b1
     try clear c35b2
     try clear c36
     try clear c37
     try clear c38
     try clear c40
     try clear c41
     try clear c44
     try clear c45
     try clear c46
     try clear c48
     try clear c49
     try clear c52
     try clear c53
     try clear c54
     try clear c56
     try clear c57
     try clear hcz14_0
     try clear hcz14_1
     try clear hcz16_0
     try clear hcz16_1
     try clear hcz22_0
     try clear hcz22_1
     try clear hcz24_0
     try clear hcz24_1
     try clear hcz25_0
     try clear hcz25_1
     try clear hcz31_0
     try clear hcz31_1
     try clear hcz39_0
     try clear hcz39_1
     try clear hcz42_0
     try clear hcz42_1
     try clear hcz47_0
     try clear hcz47_1
     try clear hcz50_0
     try clear hcz50_1
     try clear hcz55_0
     try clear hcz55_1
     try clear hcz58_0
     try clear hcz58_1
     try clear hfz14_0
     try clear hfz14_1
     try clear hfz16_0
     try clear hfz16_1
     try clear hfz22_0
     try clear hfz22_1
     try clear hfz24_0
     try clear hfz24_1
     try clear hfz25_0
     try clear hfz25_1
     try clear hfz31_0
     try clear hfz31_1
     try clear hfz39_0
     try clear hfz39_1
     try clear hfz42_0
     try clear hfz42_1
     try clear hfz47_0
     try clear hfz47_1
     try clear hfz50_0
     try clear hfz50_1
     try clear hfz55_0
     try clear hfz55_1
     try clear hfz58_0
     try clear hfz58_1
     try clear p2
     obtain ⟨kq, x62_8, rfl, HA, HJ8, HO_307001, HO_308001, HO_314001, HO_320001, BK306, BK307, BK313, BK319, HB⟩ := hcut
     cases kq with
     | zero => exact absurd HA.out (by simp [laws_FnMinMatrix.j1])
     | succ kj8 =>
      have H := HA.out
      clear HA
      simp only [laws_FnMinMatrix.j1] at H
      by_cases c60 : x62_8 = true
      ·subst c60
       have H1 : ((laws_daMatrix.f kj8 t308 t309 t314 t315).bind fun t321 => (if t321 = true then (some (t312 == t318)) else (none))) = some r := by rw [if_pos rfl] at H; exact H
       clear H
       have H := H1
       clear H1
       replace H := Option.bind_eq_some_iff.mp H
       obtain ⟨t321, A610, H⟩ := H
       (try dsimp only at H)
       have A61 := am A610
       clear A610
       by_cases c62 : t321 = true
       ·subst c62
        have H1 : (some (t312 == t318)) = some r := by rw [if_pos rfl] at H; exact H
        clear H
        have H := H1
        clear H1
        obtain rfl := Option.some.inj H
        have hnb63 := NB313_306.out
        have hnc63 := NB306_313.out
        have hnb64 := NB313_307.out
        have hnc64 := NB307_313.out
        have hnb65 := NB313_319.out
        have hnc65 := NB319_313.out
        have hcz66_0 := cz20 BK313.out
        have hcz66_1 := cz21 BK313.out
        have hfz66_0 := blk_frozen BK313.out 0
        have hfz66_1 := blk_frozen BK313.out 1
        have hnb67 := NB319_306.out
        have hnc67 := NB306_319.out
        have hnb68 := NB319_307.out
        have hnc68 := NB307_319.out
        have hcz69_0 := cz20 BK319.out
        have hcz69_1 := cz21 BK319.out
        have hfz69_0 := blk_frozen BK319.out 0
        have hfz69_1 := blk_frozen BK319.out 1
        go_wp2_with (first | ((with_reducible refine gate_callee (f := 30) rfl ?_); refine goesL_ (some 65) rfl rfl Try.func30 (by kernel_rfl) rfl #[.agg #[.int .i64 t308, .slice Ao23 t309.length co23], .agg #[.int .i64 t314, .slice Ao32 t315.length co32]] rfl (by (try simp only [List.map_toArray, List.map_cons, List.map_nil]); first | done | rfl | (simp only [List.length_drop, List.length_take]; rfl)) ?_; (with_reducible refine (laws_daMatrix.calls kj8 t308 _ _ t309 t314 _ _ t315 true _ ?side1 ?side2 ?side3 ?side4 A61.out).mono ?_); (case side1 => repeat (first | exact (Kd.R_reads' HO_314001.out).2.2 | (with_reducible refine Kd.C_alloc ?_ _) | (with_reducible refine Kd.C_drewN ?_ _) | (with_reducible refine Kd.C_drew ?_))); (case side2 => exact (Kd.R_reads' HO_314001.out).2.1); (case side3 => repeat (first | exact (Kd.R_reads' HO_320001.out).2.2 | (with_reducible refine Kd.C_alloc ?_ _) | (with_reducible refine Kd.C_drewN ?_ _) | (with_reducible refine Kd.C_drew ?_))); (case side4 => exact (Kd.R_reads' HO_320001.out).2.1); rintro e w70 ⟨rfl, hb⟩; refine ⟨_, rfl, ?_⟩; have n0_ := am (Kd.V_below (by (with_reducible repeat (first | apply Kd.V_alloc | apply Kd.V_drewN | apply Kd.V_drew)); exact HO_307001.out) hb); have n1_ := am (Kd.R_below (rz HO_308001.out) hb); have n2_ := am (Kd.R_below (rz HO_314001.out) hb); have n3_ := am (Kd.R_below (rz HO_320001.out) hb); have n4_ := bk BK306 hb; have n5_ := bk BK307 hb; have n6_ := bk BK313 hb; have n7_ := bk BK319 hb; have n8_ := am (below_step (bw HB.out) hb); clear HO_307001 HO_308001 HO_314001 HO_320001 BK306 BK307 BK313 BK319 HB; revert n0_ n1_ n2_ n3_ n4_ n5_ n6_ n7_ n8_; intro HO_307001 HO_308001 HO_314001 HO_320001 BK306 BK307 BK313 BK319 HB; (try clear hb); (try clear hb2); (try clear hk); (try clear hi)))
        go_ret
        exact ⟨by first | rfl | (simp [errW_none, errW_some] <;> rfl) | (simp [*, errW_none, errW_some] <;> rfl), by exact bw HB.out⟩
       ·replace c62 := Bool.eq_false_iff.mpr c62
        subst c62
        have H1 : (none) = some r := by rw [if_neg (show ¬ (false = true) by decide)] at H; exact H
        clear H
        have H := H1
        clear H1
        exact absurd H (by simp)
      ·replace c60 := Bool.eq_false_iff.mpr c60
       subst c60
       have H1 : ((spec_DrawMulMatrix.f kj8 l1).bind fun bt322 => ((impl_MatrixValid.f kj8 bt322.1 bt322.2.1).bind fun t332 => (if t332 = true then (laws_FnMinMatrix.j2 kj8 (bt322.1 != t298) t298 t299 t302 t303 t308 t309 bt322.1 bt322.2.1) else (laws_FnMinMatrix.j2 kj8 true t298 t299 t302 t303 t308 t309 bt322.1 bt322.2.1)))) = some r := by rw [if_neg (show ¬ (false = true) by decide)] at H; exact H
       clear H
       have H := H1
       clear H1
       replace H := Option.bind_eq_some_iff.mp H
       obtain ⟨⟨t322, t323, t326, t327⟩, A710, H⟩ := H
       (try dsimp only at H)
       have A71 := am A710
       clear A710
       have HC72 := am H
       clear H
       go_upto_region 9 with (first | ((with_reducible refine gate_callee (f := 31) rfl ?_); refine goesL_ (some 73) rfl rfl Try.func31 (by kernel_rfl) rfl #[.slice A1 l1.length c1] rfl (by (try simp only [List.map_toArray, List.map_cons, List.map_nil]); first | done | rfl | (simp only [List.length_drop, List.length_take]; rfl)) ?_; (with_reducible refine (spec_DrawMulMatrix.calls kj8 _ _ l1 t322 t323 t326 t327 _ ?side1 ?side2 A71.out).mono ?_); (case side1 => repeat (first | exact (Kd.C_below HR1.out HB.out) | (with_reducible refine Kd.C_alloc ?_ _) | (with_reducible refine Kd.C_drewN ?_ _) | (with_reducible refine Kd.C_drew ?_))); (case side2 => exact HC1.out); rintro e w73 ⟨v324, v328, rfl, ho0, ho1, hb⟩; refine ⟨_, rfl, ?_⟩; have n0_ := am (Kd.V_elder' (by (with_reducible repeat (first | apply Kd.V_alloc | apply Kd.V_drewN | apply Kd.V_drew)); exact HO_307001.out) (Kd.R_base ho1) hb); have n1_ := el HO_308001 (Kd.R_base ho1) hb; have n2_ := el HO_314001 (Kd.R_base ho1) hb; have n3_ := el HO_320001 (Kd.R_base ho1) hb; have n4_ := am (Kd.V_lower (Kd.V_mono (ok' := fun k_ => some k_ ≠ (v328 : Value).ownBlock ∧ NS Ao17 t303 co17 k_ ∧ NS Ao23 t309 co23 k_ ∧ NS Ao32 t315 co32 k_ ∧ k_ ≠ gb306 ∧ k_ ≠ gb307 ∧ k_ ≠ gb313 ∧ k_ ≠ gb319) ho0 (fun k_ hk_ => ⟨hk_.2, (Kd.fresh' (Kd.R_lt (rz HO_308001.out)) k_ hk_.1), (Kd.fresh' (Kd.R_lt (rz HO_314001.out)) k_ hk_.1), (Kd.fresh' (Kd.R_lt (rz HO_320001.out)) k_ hk_.1), (Kd.freshB (kz BK306.out) k_ hk_.1), (Kd.freshB (kz BK307.out) k_ hk_.1), (Kd.freshB (kz BK313.out) k_ hk_.1), (Kd.freshB (kz BK319.out) k_ hk_.1)⟩)) (below_size (bw HB.out))); have n5_ := am (Kd.R_lower (Kd.R_new' (Kd.R_new' (Kd.R_new' (Kd.R_mono (ok' := fun k_ => True) ho1 (fun _ hk_ => trivial)) (Kd.R_lt (rz HO_308001.out))) (Kd.R_lt (rz HO_314001.out))) (Kd.R_lt (rz HO_320001.out))) (below_size (bw HB.out))); have n6_ := bk BK306 hb; have n7_ := bk BK307 hb; have n8_ := bk BK313 hb; have n9_ := bk BK319 hb; have n10_ := am (below_step (bw HB.out) hb); clear HO_307001 HO_308001 HO_314001 HO_320001 BK306 BK307 BK313 BK319 HB; revert n0_ n1_ n2_ n3_ n4_ n5_ n6_ n7_ n8_ n9_ n10_; intro HO_307001 HO_308001 HO_314001 HO_320001 HO325 HO329 BK306 BK307 BK313 BK319 HB; (try clear hb); (try clear hb2); (try clear hk); (try clear hi); (try clear ho0); (try clear ho1)) | ((with_reducible refine gate_dst (N := 11) rfl ?_); (try (refine gate_guard (by rfl) ?_; dsimp only)); refine box_event ?hg (N := 11) ?hd (cs := #[.int .i64 0, .slice none 0 0]) (t := 27) ?hr ?_; (case hd => rfl); (case hg => rfl); (case hr => first | (go_simp; done) | (go_simp; rfl)); intro gb330 hg w74 hbox hb; have n0_ := am (Kd.V_below (Kd.V_elderB (by (with_reducible repeat (first | apply Kd.V_alloc | apply Kd.V_drewN | apply Kd.V_drew)); exact HO_307001.out) gb330 (Nat.le_of_eq hg.symm)) hb); have n1_ := am (Kd.R_below (rz HO_308001.out) hb); have n2_ := am (Kd.R_below (rz HO_314001.out) hb); have n3_ := am (Kd.R_below (rz HO_320001.out) hb); have n4_ := am (Kd.V_below (Kd.V_elderB (by (with_reducible repeat (first | apply Kd.V_alloc | apply Kd.V_drewN | apply Kd.V_drew)); exact HO325.out) gb330 (Nat.le_of_eq hg.symm)) hb); have n5_ := am (Kd.R_below (rz HO329.out) hb); have n6_ := bk BK306 hb; have n7_ := bk BK307 hb; have n8_ := bk BK313 hb; have n9_ := bk BK319 hb; have n10_ := am (below_step (bw HB.out) hb); have n11_ := am (hbox); have n12_ := am ((by rw [hg]; exact (below_size (bw HB.out)) : w.heap.size ≤ gb330)); have n13_ := am ((by rw [hg]; exact (below_size (bw HB.out)) : w.heap.size ≤ gb330)); have n14_ := am ((by rw [hg]; exact Nat.ne_of_lt (blk_lt (kz BK306.out)) : gb306 ≠ gb330)); have n15_ := am ((by rw [hg]; exact Nat.ne_of_gt (blk_lt (kz BK306.out)) : gb330 ≠ gb306)); have n16_ := am ((by rw [hg]; exact Nat.ne_of_lt (blk_lt (kz BK307.out)) : gb307 ≠ gb330)); have n17_ := am ((by rw [hg]; exact Nat.ne_of_gt (blk_lt (kz BK307.out)) : gb330 ≠ gb307)); have n18_ := am ((by rw [hg]; exact Nat.ne_of_lt (blk_lt (kz BK313.out)) : gb313 ≠ gb330)); have n19_ := am ((by rw [hg]; exact Nat.ne_of_gt (blk_lt (kz BK313.out)) : gb330 ≠ gb313)); have n20_ := am ((by rw [hg]; exact Nat.ne_of_lt (blk_lt (kz BK319.out)) : gb319 ≠ gb330)); have n21_ := am ((by rw [hg]; exact Nat.ne_of_gt (blk_lt (kz BK319.out)) : gb330 ≠ gb319)); clear HO_307001 HO_308001 HO_314001 HO_320001 HO325 HO329 BK306 BK307 BK313 BK319 HB; revert n0_ n1_ n2_ n3_ n4_ n5_ n6_ n7_ n8_ n9_ n10_ n11_ n12_ n13_ n14_ n15_ n16_ n17_ n18_ n19_ n20_ n21_; intro HO_307001 HO_308001 HO_314001 HO_320001 HO325 HO329 BK306 BK307 BK313 BK319 HB BK330 GW330 GE330 NB306_330 NB330_306 NB307_330 NB330_307 NB313_330 NB330_313 NB319_330 NB330_319; clear hb hbox hg) | ((with_reducible refine gate_dst (N := 12) rfl ?_); (try (refine gate_guard (by rfl) ?_; dsimp only)); refine box_event ?hg (N := 12) ?hd (cs := #[.int .i64 0, .slice none 0 0]) (t := 27) ?hr ?_; (case hd => rfl); (case hg => rfl); (case hr => first | (go_simp; done) | (go_simp; rfl)); intro gb331 hg w75 hbox hb; have n0_ := am (Kd.V_below (Kd.V_elderB (by (with_reducible repeat (first | apply Kd.V_alloc | apply Kd.V_drewN | apply Kd.V_drew)); exact HO_307001.out) gb331 (Nat.le_of_eq hg.symm)) hb); have n1_ := am (Kd.R_below (rz HO_308001.out) hb); have n2_ := am (Kd.R_below (rz HO_314001.out) hb); have n3_ := am (Kd.R_below (rz HO_320001.out) hb); have n4_ := am (Kd.V_below (Kd.V_elderB (by (with_reducible repeat (first | apply Kd.V_alloc | apply Kd.V_drewN | apply Kd.V_drew)); exact HO325.out) gb331 (Nat.le_of_eq hg.symm)) hb); have n5_ := am (Kd.R_below (rz HO329.out) hb); have n6_ := bk BK306 hb; have n7_ := bk BK307 hb; have n8_ := bk BK313 hb; have n9_ := bk BK319 hb; have n10_ := bk BK330 hb; have n11_ := am (below_step (bw HB.out) hb); have n12_ := am (hbox); have n13_ := am ((by rw [hg]; exact (below_size (bw HB.out)) : w.heap.size ≤ gb331)); have n14_ := am ((by rw [hg]; exact (below_size (bw HB.out)) : w.heap.size ≤ gb331)); have n15_ := am ((by rw [hg]; exact Nat.ne_of_lt (blk_lt (kz BK306.out)) : gb306 ≠ gb331)); have n16_ := am ((by rw [hg]; exact Nat.ne_of_gt (blk_lt (kz BK306.out)) : gb331 ≠ gb306)); have n17_ := am ((by rw [hg]; exact Nat.ne_of_lt (blk_lt (kz BK307.out)) : gb307 ≠ gb331)); have n18_ := am ((by rw [hg]; exact Nat.ne_of_gt (blk_lt (kz BK307.out)) : gb331 ≠ gb307)); have n19_ := am ((by rw [hg]; exact Nat.ne_of_lt (blk_lt (kz BK313.out)) : gb313 ≠ gb331)); have n20_ := am ((by rw [hg]; exact Nat.ne_of_gt (blk_lt (kz BK313.out)) : gb331 ≠ gb313)); have n21_ := am ((by rw [hg]; exact Nat.ne_of_lt (blk_lt (kz BK319.out)) : gb319 ≠ gb331)); have n22_ := am ((by rw [hg]; exact Nat.ne_of_gt (blk_lt (kz BK319.out)) : gb331 ≠ gb319)); have n23_ := am ((by rw [hg]; exact Nat.ne_of_lt (blk_lt (kz BK330.out)) : gb330 ≠ gb331)); have n24_ := am ((by rw [hg]; exact Nat.ne_of_gt (blk_lt (kz BK330.out)) : gb331 ≠ gb330)); clear HO_307001 HO_308001 HO_314001 HO_320001 HO325 HO329 BK306 BK307 BK313 BK319 BK330 HB; revert n0_ n1_ n2_ n3_ n4_ n5_ n6_ n7_ n8_ n9_ n10_ n11_ n12_ n13_ n14_ n15_ n16_ n17_ n18_ n19_ n20_ n21_ n22_ n23_ n24_; intro HO_307001 HO_308001 HO_314001 HO_320001 HO325 HO329 BK306 BK307 BK313 BK319 BK330 HB BK331 GW331 GE331 NB306_331 NB331_306 NB307_331 NB331_307 NB313_331 NB331_313 NB319_331 NB331_319 NB330_331 NB331_330; clear hb hbox hg; have hnb76 := NB330_306.out; have hnc76 := NB306_330.out; have hnb77 := NB330_307.out; have hnc77 := NB307_330.out; have hnb78 := NB330_313.out; have hnc78 := NB313_330.out; have hnb79 := NB330_319.out; have hnc79 := NB319_330.out; have hnb80 := NB330_331.out; have hnc80 := NB331_330.out; have hcz81_0 := cz20 BK330.out; have hcz81_1 := cz21 BK330.out; have hfz81_0 := blk_frozen BK330.out 0; have hfz81_1 := blk_frozen BK330.out 1; obtain ⟨Ao82, co82, eo82⟩ := Kd.V_slice HO325.out; subst eo82; have hnb83 := NB331_306.out; have hnc83 := NB306_331.out; have hnb84 := NB331_307.out; have hnc84 := NB307_331.out; have hnb85 := NB331_313.out; have hnc85 := NB313_331.out; have hnb86 := NB331_319.out; have hnc86 := NB319_331.out; have hcz87_0 := cz20 BK331.out; have hcz87_1 := cz21 BK331.out; have hfz87_0 := blk_frozen BK331.out 0; have hfz87_1 := blk_frozen BK331.out 1; obtain ⟨Ao88, co88, eo88⟩ := Kd.R_slice HO329.out; subst eo88))
       (try simp only [Act.put, List.setIfInBounds_toArray, List.set_cons_zero, List.set_cons_succ])
       go_cut [85] (fun v85 wc => ∃ (kq : Nat) (x85_71 : Bool), v85 = .bool x85_71 ∧ Aside0 (laws_FnMinMatrix.j2 kq x85_71 t298 t299 t302 t303 t308 t309 t322 t323 = some r) ∧ Aside0 (kq ≤ kj8) ∧ Aside0 (Kd.V (Kd.int .i64) 3 wc w.heap.size (fun k_ => some k_ ≠ ((.slice Ao17 t303.length co17) : Value).ownBlock ∧ some k_ ≠ ((.slice Ao23 t309.length co23) : Value).ownBlock ∧ some k_ ≠ ((.slice Ao32 t315.length co32) : Value).ownBlock ∧ some k_ ≠ ((.slice Ao88 t327.length co88) : Value).ownBlock ∧ k_ ≠ gb306 ∧ k_ ≠ gb307 ∧ k_ ≠ gb313 ∧ k_ ≠ gb319 ∧ k_ ≠ gb330 ∧ k_ ≠ gb331) (.slice Ao15 t299.length co15) t299) ∧ Aside0 (Kd.R (Kd.int .i64) 3 wc w.heap.size (fun k_ => some k_ ≠ ((.slice Ao23 t309.length co23) : Value).ownBlock ∧ some k_ ≠ ((.slice Ao32 t315.length co32) : Value).ownBlock ∧ some k_ ≠ ((.slice Ao88 t327.length co88) : Value).ownBlock) (.slice Ao17 t303.length co17) t303) ∧ Aside0 (Kd.R (Kd.int .i64) 3 wc w.heap.size (fun k_ => some k_ ≠ ((.slice Ao17 t303.length co17) : Value).ownBlock ∧ some k_ ≠ ((.slice Ao32 t315.length co32) : Value).ownBlock ∧ some k_ ≠ ((.slice Ao88 t327.length co88) : Value).ownBlock) (.slice Ao23 t309.length co23) t309) ∧ Aside0 (Kd.R (Kd.int .i64) 3 wc w.heap.size (fun k_ => some k_ ≠ ((.slice Ao17 t303.length co17) : Value).ownBlock ∧ some k_ ≠ ((.slice Ao23 t309.length co23) : Value).ownBlock ∧ some k_ ≠ ((.slice Ao88 t327.length co88) : Value).ownBlock) (.slice Ao32 t315.length co32) t315) ∧ Aside0 (Kd.V (Kd.int .i64) 3 wc w.heap.size (fun k_ => some k_ ≠ ((.slice Ao17 t303.length co17) : Value).ownBlock ∧ some k_ ≠ ((.slice Ao23 t309.length co23) : Value).ownBlock ∧ some k_ ≠ ((.slice Ao32 t315.length co32) : Value).ownBlock ∧ some k_ ≠ ((.slice Ao88 t327.length co88) : Value).ownBlock ∧ k_ ≠ gb306 ∧ k_ ≠ gb307 ∧ k_ ≠ gb313 ∧ k_ ≠ gb319 ∧ k_ ≠ gb330 ∧ k_ ≠ gb331) (.slice Ao82 t323.length co82) t323) ∧ Aside0 (Kd.R (Kd.int .i64) 3 wc w.heap.size (fun k_ => some k_ ≠ ((.slice Ao17 t303.length co17) : Value).ownBlock ∧ some k_ ≠ ((.slice Ao23 t309.length co23) : Value).ownBlock ∧ some k_ ≠ ((.slice Ao32 t315.length co32) : Value).ownBlock) (.slice Ao88 t327.length co88) t327) ∧ Aside0 (wc.heap[gb306]? = some (.cells #[.int .i64 t298, (.slice Ao15 t299.length co15)] 27 (0, 0))) ∧ Aside0 (wc.heap[gb307]? = some (.cells #[.int .i64 t302, (.slice Ao17 t303.length co17)] 27 (0, 0))) ∧ Aside0 (wc.heap[gb313]? = some (.cells #[.int .i64 t308, (.slice Ao23 t309.length co23)] 27 (0, 0))) ∧ Aside0 (wc.heap[gb319]? = some (.cells #[.int .i64 t314, (.slice Ao32 t315.length co32)] 27 (0, 0))) ∧ Aside0 (wc.heap[gb330]? = some (.cells #[.int .i64 t322, (.slice Ao82 t323.length co82)] 27 (0, 0))) ∧ Aside0 (wc.heap[gb331]? = some (.cells #[.int .i64 t326, (.slice Ao88 t327.length co88)] 27 (0, 0))) ∧ Aside0 (Below w.heap.size w wc))
       case first =>
        have H := HC72.out
        clear HC72
        replace H := Option.bind_eq_some_iff.mp H
        obtain ⟨t332, A890, H⟩ := H
        (try dsimp only at H)
        have A89 := am A890
        clear A890
        by_cases c90 : t332 = true
        ·subst c90
         have H1 : (laws_FnMinMatrix.j2 kj8 (t322 != t298) t298 t299 t302 t303 t308 t309 t322 t323) = some r := by rw [if_pos rfl] at H; exact H
         clear H
         have H := H1
         clear H1
         have H' := am H
         clear H
         have hnb91 := NB330_306.out
         have hnc91 := NB306_330.out
         have hnb92 := NB330_307.out
         have hnc92 := NB307_330.out
         have hnb93 := NB330_313.out
         have hnc93 := NB313_330.out
         have hnb94 := NB330_319.out
         have hnc94 := NB319_330.out
         have hnb95 := NB330_331.out
         have hnc95 := NB331_330.out
         have hcz96_0 := cz20 BK330.out
         have hcz96_1 := cz21 BK330.out
         have hfz96_0 := blk_frozen BK330.out 0
         have hfz96_1 := blk_frozen BK330.out 1
         go_wp2_with (first | ((with_reducible refine gate_callee (f := 17) rfl ?_); refine goesL_ (some 77) rfl rfl Try.func17 (by kernel_rfl) rfl #[.agg #[.int .i64 t322, .slice Ao82 t323.length co82]] rfl (by (try simp only [List.map_toArray, List.map_cons, List.map_nil]); first | done | rfl | (simp only [List.length_drop, List.length_take]; rfl)) ?_; (with_reducible refine (impl_MatrixValid.calls kj8 t322 _ _ t323 true _ ?side1 ?side2 A89.out).mono ?_); (case side1 => refine (Kd.V_reads' (e := 3) (base := w.heap.size) (ok := fun k_ => (((NS Ao88 t327 co88 k_ ∧ (NS Ao17 t303 co17 k_ ∧ (NS Ao23 t309 co23 k_ ∧ (NS Ao32 t315 co32 k_ ∧ (k_ ≠ gb306 ∧ (k_ ≠ gb307 ∧ (k_ ≠ gb313 ∧ k_ ≠ gb319))))))) ∧ k_ ≠ gb330) ∧ k_ ≠ gb331)) (n := t323.length) (c := co82) ?_).2.2; exact (by (with_reducible repeat (first | apply Kd.V_alloc | apply Kd.V_drewN | apply Kd.V_drew)); exact (Kd.V_mono (Kd.V_mono (Kd.V_far (p := ⟨gb331, 1, none⟩) (Kd.V_far (p := ⟨gb331, 0, none⟩) (Kd.V_far (p := ⟨gb330, 1, none⟩) (Kd.V_far (p := ⟨gb330, 0, none⟩) (Kd.V_mono (Kd.V_mono HO325.out (fun k_ hk => (⟨hk, hk.1.2⟩ : _ ∧ k_ ≠ gb330))) (fun k_ hk => (⟨hk, hk.1.2⟩ : _ ∧ k_ ≠ gb331))) (fun _ hk => hk.1.2) (.int .i64 t322)) (fun _ hk => hk.1.2) (.slice Ao82 t323.length co82)) (fun _ hk => hk.2) (.int .i64 t326)) (fun _ hk => hk.2) (.slice Ao88 t327.length co88)) (fun _ h_ => h_.1)) (fun _ h_ => h_.1)))); (case side2 => exact (Kd.V_reads' HO325.out).2.1); rintro e w97 ⟨rfl, hb⟩; refine ⟨_, rfl, ?_⟩; have n0_ := am (Kd.V_below (by (with_reducible repeat (first | apply Kd.V_alloc | apply Kd.V_drewN | apply Kd.V_drew)); exact (Kd.V_mono (Kd.V_mono (Kd.V_far (p := ⟨gb331, 1, none⟩) (Kd.V_far (p := ⟨gb331, 0, none⟩) (Kd.V_far (p := ⟨gb330, 1, none⟩) (Kd.V_far (p := ⟨gb330, 0, none⟩) (Kd.V_mono (Kd.V_mono HO_307001.out (fun k_ hk => (⟨hk, hk.1.2⟩ : _ ∧ k_ ≠ gb330))) (fun k_ hk => (⟨hk, hk.1.2⟩ : _ ∧ k_ ≠ gb331))) (fun _ hk => hk.1.2) (.int .i64 t322)) (fun _ hk => hk.1.2) (.slice Ao82 t323.length co82)) (fun _ hk => hk.2) (.int .i64 t326)) (fun _ hk => hk.2) (.slice Ao88 t327.length co88)) (fun _ h_ => h_.1)) (fun _ h_ => h_.1))) hb); have n1_ := am (Kd.R_below (by (with_reducible repeat (first | apply ra | apply rn | apply rw_)); exact (Kd.R_mono (Kd.R_mono (Kd.R_far (p := ⟨gb331, 1, none⟩) (Kd.R_far (p := ⟨gb331, 0, none⟩) (Kd.R_far (p := ⟨gb330, 1, none⟩) (Kd.R_far (p := ⟨gb330, 0, none⟩) (Kd.R_types (Kd.R_types HO_308001.out BK330.out (by decide)) BK331.out (by decide)) (fun _ hk => hk.1.2) (.int .i64 t322)) (fun _ hk => hk.1.2) (.slice Ao82 t323.length co82)) (fun _ hk => hk.2) (.int .i64 t326)) (fun _ hk => hk.2) (.slice Ao88 t327.length co88)) (fun _ h_ => h_.1)) (fun _ h_ => h_.1))) hb); have n2_ := am (Kd.R_below (by (with_reducible repeat (first | apply ra | apply rn | apply rw_)); exact (Kd.R_mono (Kd.R_mono (Kd.R_far (p := ⟨gb331, 1, none⟩) (Kd.R_far (p := ⟨gb331, 0, none⟩) (Kd.R_far (p := ⟨gb330, 1, none⟩) (Kd.R_far (p := ⟨gb330, 0, none⟩) (Kd.R_types (Kd.R_types HO_314001.out BK330.out (by decide)) BK331.out (by decide)) (fun _ hk => hk.1.2) (.int .i64 t322)) (fun _ hk => hk.1.2) (.slice Ao82 t323.length co82)) (fun _ hk => hk.2) (.int .i64 t326)) (fun _ hk => hk.2) (.slice Ao88 t327.length co88)) (fun _ h_ => h_.1)) (fun _ h_ => h_.1))) hb); have n3_ := am (Kd.R_below (by (with_reducible repeat (first | apply ra | apply rn | apply rw_)); exact (Kd.R_mono (Kd.R_mono (Kd.R_far (p := ⟨gb331, 1, none⟩) (Kd.R_far (p := ⟨gb331, 0, none⟩) (Kd.R_far (p := ⟨gb330, 1, none⟩) (Kd.R_far (p := ⟨gb330, 0, none⟩) (Kd.R_types (Kd.R_types HO_320001.out BK330.out (by decide)) BK331.out (by decide)) (fun _ hk => hk.1.2) (.int .i64 t322)) (fun _ hk => hk.1.2) (.slice Ao82 t323.length co82)) (fun _ hk => hk.2) (.int .i64 t326)) (fun _ hk => hk.2) (.slice Ao88 t327.length co88)) (fun _ h_ => h_.1)) (fun _ h_ => h_.1))) hb); have n4_ := am (Kd.V_below (by (with_reducible repeat (first | apply Kd.V_alloc | apply Kd.V_drewN | apply Kd.V_drew)); exact (Kd.V_mono (Kd.V_mono (Kd.V_far (p := ⟨gb331, 1, none⟩) (Kd.V_far (p := ⟨gb331, 0, none⟩) (Kd.V_far (p := ⟨gb330, 1, none⟩) (Kd.V_far (p := ⟨gb330, 0, none⟩) (Kd.V_mono (Kd.V_mono HO325.out (fun k_ hk => (⟨hk, hk.1.2⟩ : _ ∧ k_ ≠ gb330))) (fun k_ hk => (⟨hk, hk.1.2⟩ : _ ∧ k_ ≠ gb331))) (fun _ hk => hk.1.2) (.int .i64 t322)) (fun _ hk => hk.1.2) (.slice Ao82 t323.length co82)) (fun _ hk => hk.2) (.int .i64 t326)) (fun _ hk => hk.2) (.slice Ao88 t327.length co88)) (fun _ h_ => h_.1)) (fun _ h_ => h_.1))) hb); have n5_ := am (Kd.R_below (by (with_reducible repeat (first | apply ra | apply rn | apply rw_)); exact (Kd.R_mono (Kd.R_mono (Kd.R_far (p := ⟨gb331, 1, none⟩) (Kd.R_far (p := ⟨gb331, 0, none⟩) (Kd.R_far (p := ⟨gb330, 1, none⟩) (Kd.R_far (p := ⟨gb330, 0, none⟩) (Kd.R_types (Kd.R_types HO329.out BK330.out (by decide)) BK331.out (by decide)) (fun _ hk => hk.1.2) (.int .i64 t322)) (fun _ hk => hk.1.2) (.slice Ao82 t323.length co82)) (fun _ hk => hk.2) (.int .i64 t326)) (fun _ hk => hk.2) (.slice Ao88 t327.length co88)) (fun _ h_ => h_.1)) (fun _ h_ => h_.1))) hb); have n6_ := am (blk_below (kf BK306.out) hb); have n7_ := am (blk_below (kf BK307.out) hb); have n8_ := am (blk_below (kf BK313.out) hb); have n9_ := am (blk_below (kf BK319.out) hb); have n10_ := am (blk_below (g := gb330) (o := .cells #[.int .i64 t322, .slice Ao82 t323.length co82] 27 (0, 0)) (by (with_reducible repeat (first | refine kn ?_ _ | refine kd ?_ | refine ka ?_ _)); refine blk_far ?_ NB330_331.out _; (with_reducible repeat (first | refine kn ?_ _ | refine kd ?_ | refine ka ?_ _)); refine blk_far ?_ NB330_331.out _; (with_reducible repeat (first | refine kn ?_ _ | refine kd ?_ | refine ka ?_ _)); refine blk_put (cs := #[.int .i64 t322, .slice none 0 0]) ?_ 1 _ rfl; (with_reducible repeat (first | refine kn ?_ _ | refine kd ?_ | refine ka ?_ _)); refine blk_put (cs := #[.int .i64 0, .slice none 0 0]) ?_ 0 _ rfl; (with_reducible repeat (first | refine kn ?_ _ | refine kd ?_ | refine ka ?_ _)); exact BK330.out) hb); have n11_ := am (blk_below (g := gb331) (o := .cells #[.int .i64 t326, .slice Ao88 t327.length co88] 27 (0, 0)) (by (with_reducible repeat (first | refine kn ?_ _ | refine kd ?_ | refine ka ?_ _)); refine blk_put (cs := #[.int .i64 t326, .slice none 0 0]) ?_ 1 _ rfl; (with_reducible repeat (first | refine kn ?_ _ | refine kd ?_ | refine ka ?_ _)); refine blk_put (cs := #[.int .i64 0, .slice none 0 0]) ?_ 0 _ rfl; (with_reducible repeat (first | refine kn ?_ _ | refine kd ?_ | refine ka ?_ _)); refine blk_far ?_ NB331_330.out _; (with_reducible repeat (first | refine kn ?_ _ | refine kd ?_ | refine ka ?_ _)); refine blk_far ?_ NB331_330.out _; (with_reducible repeat (first | refine kn ?_ _ | refine kd ?_ | refine ka ?_ _)); exact BK331.out) hb); have n12_ := am (below_step (bw HB.out) hb); clear HO_307001 HO_308001 HO_314001 HO_320001 HO325 HO329 BK306 BK307 BK313 BK319 BK330 BK331 HB; revert n0_ n1_ n2_ n3_ n4_ n5_ n6_ n7_ n8_ n9_ n10_ n11_ n12_; intro HO_307001 HO_308001 HO_314001 HO_320001 HO325 HO329 BK306 BK307 BK313 BK319 BK330 BK331 HB; (try clear hb); (try clear hb2); (try clear hk); (try clear hi); have hcz98_0 := cz20 BK330.out; have hcz98_1 := cz21 BK330.out; have hfz98_0 := blk_frozen BK330.out 0; have hfz98_1 := blk_frozen BK330.out 1; have hnb99 := NB306_307.out; have hnc99 := NB307_306.out; have hnb100 := NB306_313.out; have hnc100 := NB313_306.out; have hnb101 := NB306_319.out; have hnc101 := NB319_306.out; have hnb102 := NB306_331.out; have hnc102 := NB331_306.out; have hcz103_0 := cz20 BK306.out; have hcz103_1 := cz21 BK306.out; have hfz103_0 := blk_frozen BK306.out 0; have hfz103_1 := blk_frozen BK306.out 1))
         go_meet
         case rel => exact ⟨_, ((t322 != t298)), (by first | rfl | (simp; done) | (simp [*]; done)), H', ⟨by have := HJ2.out; have := HJ8.out; first | omega | exact Nat.le_refl _⟩, ⟨by (with_reducible repeat (first | apply Kd.V_alloc | apply Kd.V_drewN | apply Kd.V_drew)); exact Kd.V_mono HO_307001.out (fun _ hk => ⟨hk.1.1.1.1, ⟨hk.1.1.1.2.1, ⟨hk.1.1.1.2.2.1, ⟨hk.1.1.2, ⟨hk.1.1.1.2.2.2.1, ⟨hk.1.1.1.2.2.2.2.1, ⟨hk.1.1.1.2.2.2.2.2.1, ⟨hk.1.1.1.2.2.2.2.2.2, ⟨hk.1.2, hk.2⟩⟩⟩⟩⟩⟩⟩⟩⟩)⟩, ⟨by (with_reducible repeat (first | apply ra | apply rn | apply rw_)); exact Kd.R_mono HO_308001.out (fun _ hk => ⟨hk.1.1, ⟨hk.1.2, hk.2⟩⟩)⟩, ⟨by (with_reducible repeat (first | apply ra | apply rn | apply rw_)); exact Kd.R_mono HO_314001.out (fun _ hk => ⟨hk.1.1, ⟨hk.1.2, hk.2⟩⟩)⟩, ⟨by (with_reducible repeat (first | apply ra | apply rn | apply rw_)); exact Kd.R_mono HO_320001.out (fun _ hk => ⟨hk.1.1, ⟨hk.1.2, hk.2⟩⟩)⟩, ⟨by (with_reducible repeat (first | apply Kd.V_alloc | apply Kd.V_drewN | apply Kd.V_drew)); exact Kd.V_mono HO325.out (fun _ hk => ⟨hk.1.1.2.1, ⟨hk.1.1.2.2.1, ⟨hk.1.1.2.2.2.1, ⟨hk.1.1.1, ⟨hk.1.1.2.2.2.2.1, ⟨hk.1.1.2.2.2.2.2.1, ⟨hk.1.1.2.2.2.2.2.2.1, ⟨hk.1.1.2.2.2.2.2.2.2, ⟨hk.1.2, hk.2⟩⟩⟩⟩⟩⟩⟩⟩⟩)⟩, ⟨by (with_reducible repeat (first | apply ra | apply rn | apply rw_)); exact Kd.R_mono HO329.out (fun _ hk => ⟨hk.1.1.2, ⟨hk.1.2, hk.2⟩⟩)⟩, ⟨kz BK306.out⟩, ⟨kz BK307.out⟩, ⟨kz BK313.out⟩, ⟨kz BK319.out⟩, ⟨kz BK330.out⟩, ⟨kz BK331.out⟩, ⟨by exact bw HB.out⟩⟩
        ·replace c90 := Bool.eq_false_iff.mpr c90
         subst c90
         have H1 : (laws_FnMinMatrix.j2 kj8 true t298 t299 t302 t303 t308 t309 t322 t323) = some r := by rw [if_neg (show ¬ (false = true) by decide)] at H; exact H
         clear H
         have H := H1
         clear H1
         have H' := am H
         clear H
         have hnb104 := NB330_306.out
         have hnc104 := NB306_330.out
         have hnb105 := NB330_307.out
         have hnc105 := NB307_330.out
         have hnb106 := NB330_313.out
         have hnc106 := NB313_330.out
         have hnb107 := NB330_319.out
         have hnc107 := NB319_330.out
         have hnb108 := NB330_331.out
         have hnc108 := NB331_330.out
         have hcz109_0 := cz20 BK330.out
         have hcz109_1 := cz21 BK330.out
         have hfz109_0 := blk_frozen BK330.out 0
         have hfz109_1 := blk_frozen BK330.out 1
         go_wp2_with (first | ((with_reducible refine gate_callee (f := 17) rfl ?_); refine goesL_ (some 77) rfl rfl Try.func17 (by kernel_rfl) rfl #[.agg #[.int .i64 t322, .slice Ao82 t323.length co82]] rfl (by (try simp only [List.map_toArray, List.map_cons, List.map_nil]); first | done | rfl | (simp only [List.length_drop, List.length_take]; rfl)) ?_; (with_reducible refine (impl_MatrixValid.calls kj8 t322 _ _ t323 false _ ?side1 ?side2 A89.out).mono ?_); (case side1 => refine (Kd.V_reads' (e := 3) (base := w.heap.size) (ok := fun k_ => (((NS Ao88 t327 co88 k_ ∧ (NS Ao17 t303 co17 k_ ∧ (NS Ao23 t309 co23 k_ ∧ (NS Ao32 t315 co32 k_ ∧ (k_ ≠ gb306 ∧ (k_ ≠ gb307 ∧ (k_ ≠ gb313 ∧ k_ ≠ gb319))))))) ∧ k_ ≠ gb330) ∧ k_ ≠ gb331)) (n := t323.length) (c := co82) ?_).2.2; exact (by (with_reducible repeat (first | apply Kd.V_alloc | apply Kd.V_drewN | apply Kd.V_drew)); exact (Kd.V_mono (Kd.V_mono (Kd.V_far (p := ⟨gb331, 1, none⟩) (Kd.V_far (p := ⟨gb331, 0, none⟩) (Kd.V_far (p := ⟨gb330, 1, none⟩) (Kd.V_far (p := ⟨gb330, 0, none⟩) (Kd.V_mono (Kd.V_mono HO325.out (fun k_ hk => (⟨hk, hk.1.2⟩ : _ ∧ k_ ≠ gb330))) (fun k_ hk => (⟨hk, hk.1.2⟩ : _ ∧ k_ ≠ gb331))) (fun _ hk => hk.1.2) (.int .i64 t322)) (fun _ hk => hk.1.2) (.slice Ao82 t323.length co82)) (fun _ hk => hk.2) (.int .i64 t326)) (fun _ hk => hk.2) (.slice Ao88 t327.length co88)) (fun _ h_ => h_.1)) (fun _ h_ => h_.1)))); (case side2 => exact (Kd.V_reads' HO325.out).2.1); rintro e w110 ⟨rfl, hb⟩; refine ⟨_, rfl, ?_⟩; have n0_ := am (Kd.V_below (by (with_reducible repeat (first | apply Kd.V_alloc | apply Kd.V_drewN | apply Kd.V_drew)); exact (Kd.V_mono (Kd.V_mono (Kd.V_far (p := ⟨gb331, 1, none⟩) (Kd.V_far (p := ⟨gb331, 0, none⟩) (Kd.V_far (p := ⟨gb330, 1, none⟩) (Kd.V_far (p := ⟨gb330, 0, none⟩) (Kd.V_mono (Kd.V_mono HO_307001.out (fun k_ hk => (⟨hk, hk.1.2⟩ : _ ∧ k_ ≠ gb330))) (fun k_ hk => (⟨hk, hk.1.2⟩ : _ ∧ k_ ≠ gb331))) (fun _ hk => hk.1.2) (.int .i64 t322)) (fun _ hk => hk.1.2) (.slice Ao82 t323.length co82)) (fun _ hk => hk.2) (.int .i64 t326)) (fun _ hk => hk.2) (.slice Ao88 t327.length co88)) (fun _ h_ => h_.1)) (fun _ h_ => h_.1))) hb); have n1_ := am (Kd.R_below (by (with_reducible repeat (first | apply ra | apply rn | apply rw_)); exact (Kd.R_mono (Kd.R_mono (Kd.R_far (p := ⟨gb331, 1, none⟩) (Kd.R_far (p := ⟨gb331, 0, none⟩) (Kd.R_far (p := ⟨gb330, 1, none⟩) (Kd.R_far (p := ⟨gb330, 0, none⟩) (Kd.R_types (Kd.R_types HO_308001.out BK330.out (by decide)) BK331.out (by decide)) (fun _ hk => hk.1.2) (.int .i64 t322)) (fun _ hk => hk.1.2) (.slice Ao82 t323.length co82)) (fun _ hk => hk.2) (.int .i64 t326)) (fun _ hk => hk.2) (.slice Ao88 t327.length co88)) (fun _ h_ => h_.1)) (fun _ h_ => h_.1))) hb); have n2_ := am (Kd.R_below (by (with_reducible repeat (first | apply ra | apply rn | apply rw_)); exact (Kd.R_mono (Kd.R_mono (Kd.R_far (p := ⟨gb331, 1, none⟩) (Kd.R_far (p := ⟨gb331, 0, none⟩) (Kd.R_far (p := ⟨gb330, 1, none⟩) (Kd.R_far (p := ⟨gb330, 0, none⟩) (Kd.R_types (Kd.R_types HO_314001.out BK330.out (by decide)) BK331.out (by decide)) (fun _ hk => hk.1.2) (.int .i64 t322)) (fun _ hk => hk.1.2) (.slice Ao82 t323.length co82)) (fun _ hk => hk.2) (.int .i64 t326)) (fun _ hk => hk.2) (.slice Ao88 t327.length co88)) (fun _ h_ => h_.1)) (fun _ h_ => h_.1))) hb); have n3_ := am (Kd.R_below (by (with_reducible repeat (first | apply ra | apply rn | apply rw_)); exact (Kd.R_mono (Kd.R_mono (Kd.R_far (p := ⟨gb331, 1, none⟩) (Kd.R_far (p := ⟨gb331, 0, none⟩) (Kd.R_far (p := ⟨gb330, 1, none⟩) (Kd.R_far (p := ⟨gb330, 0, none⟩) (Kd.R_types (Kd.R_types HO_320001.out BK330.out (by decide)) BK331.out (by decide)) (fun _ hk => hk.1.2) (.int .i64 t322)) (fun _ hk => hk.1.2) (.slice Ao82 t323.length co82)) (fun _ hk => hk.2) (.int .i64 t326)) (fun _ hk => hk.2) (.slice Ao88 t327.length co88)) (fun _ h_ => h_.1)) (fun _ h_ => h_.1))) hb); have n4_ := am (Kd.V_below (by (with_reducible repeat (first | apply Kd.V_alloc | apply Kd.V_drewN | apply Kd.V_drew)); exact (Kd.V_mono (Kd.V_mono (Kd.V_far (p := ⟨gb331, 1, none⟩) (Kd.V_far (p := ⟨gb331, 0, none⟩) (Kd.V_far (p := ⟨gb330, 1, none⟩) (Kd.V_far (p := ⟨gb330, 0, none⟩) (Kd.V_mono (Kd.V_mono HO325.out (fun k_ hk => (⟨hk, hk.1.2⟩ : _ ∧ k_ ≠ gb330))) (fun k_ hk => (⟨hk, hk.1.2⟩ : _ ∧ k_ ≠ gb331))) (fun _ hk => hk.1.2) (.int .i64 t322)) (fun _ hk => hk.1.2) (.slice Ao82 t323.length co82)) (fun _ hk => hk.2) (.int .i64 t326)) (fun _ hk => hk.2) (.slice Ao88 t327.length co88)) (fun _ h_ => h_.1)) (fun _ h_ => h_.1))) hb); have n5_ := am (Kd.R_below (by (with_reducible repeat (first | apply ra | apply rn | apply rw_)); exact (Kd.R_mono (Kd.R_mono (Kd.R_far (p := ⟨gb331, 1, none⟩) (Kd.R_far (p := ⟨gb331, 0, none⟩) (Kd.R_far (p := ⟨gb330, 1, none⟩) (Kd.R_far (p := ⟨gb330, 0, none⟩) (Kd.R_types (Kd.R_types HO329.out BK330.out (by decide)) BK331.out (by decide)) (fun _ hk => hk.1.2) (.int .i64 t322)) (fun _ hk => hk.1.2) (.slice Ao82 t323.length co82)) (fun _ hk => hk.2) (.int .i64 t326)) (fun _ hk => hk.2) (.slice Ao88 t327.length co88)) (fun _ h_ => h_.1)) (fun _ h_ => h_.1))) hb); have n6_ := am (blk_below (kf BK306.out) hb); have n7_ := am (blk_below (kf BK307.out) hb); have n8_ := am (blk_below (kf BK313.out) hb); have n9_ := am (blk_below (kf BK319.out) hb); have n10_ := am (blk_below (g := gb330) (o := .cells #[.int .i64 t322, .slice Ao82 t323.length co82] 27 (0, 0)) (by (with_reducible repeat (first | refine kn ?_ _ | refine kd ?_ | refine ka ?_ _)); refine blk_far ?_ NB330_331.out _; (with_reducible repeat (first | refine kn ?_ _ | refine kd ?_ | refine ka ?_ _)); refine blk_far ?_ NB330_331.out _; (with_reducible repeat (first | refine kn ?_ _ | refine kd ?_ | refine ka ?_ _)); refine blk_put (cs := #[.int .i64 t322, .slice none 0 0]) ?_ 1 _ rfl; (with_reducible repeat (first | refine kn ?_ _ | refine kd ?_ | refine ka ?_ _)); refine blk_put (cs := #[.int .i64 0, .slice none 0 0]) ?_ 0 _ rfl; (with_reducible repeat (first | refine kn ?_ _ | refine kd ?_ | refine ka ?_ _)); exact BK330.out) hb); have n11_ := am (blk_below (g := gb331) (o := .cells #[.int .i64 t326, .slice Ao88 t327.length co88] 27 (0, 0)) (by (with_reducible repeat (first | refine kn ?_ _ | refine kd ?_ | refine ka ?_ _)); refine blk_put (cs := #[.int .i64 t326, .slice none 0 0]) ?_ 1 _ rfl; (with_reducible repeat (first | refine kn ?_ _ | refine kd ?_ | refine ka ?_ _)); refine blk_put (cs := #[.int .i64 0, .slice none 0 0]) ?_ 0 _ rfl; (with_reducible repeat (first | refine kn ?_ _ | refine kd ?_ | refine ka ?_ _)); refine blk_far ?_ NB331_330.out _; (with_reducible repeat (first | refine kn ?_ _ | refine kd ?_ | refine ka ?_ _)); refine blk_far ?_ NB331_330.out _; (with_reducible repeat (first | refine kn ?_ _ | refine kd ?_ | refine ka ?_ _)); exact BK331.out) hb); have n12_ := am (below_step (bw HB.out) hb); clear HO_307001 HO_308001 HO_314001 HO_320001 HO325 HO329 BK306 BK307 BK313 BK319 BK330 BK331 HB; revert n0_ n1_ n2_ n3_ n4_ n5_ n6_ n7_ n8_ n9_ n10_ n11_ n12_; intro HO_307001 HO_308001 HO_314001 HO_320001 HO325 HO329 BK306 BK307 BK313 BK319 BK330 BK331 HB; (try clear hb); (try clear hb2); (try clear hk); (try clear hi)))
         go_meet
         case rel => exact ⟨_, (true), (by first | rfl | (simp; done) | (simp [*]; done)), H', ⟨by have := HJ2.out; have := HJ8.out; first | omega | exact Nat.le_refl _⟩, ⟨by (with_reducible repeat (first | apply Kd.V_alloc | apply Kd.V_drewN | apply Kd.V_drew)); exact Kd.V_mono HO_307001.out (fun _ hk => ⟨hk.1.1.1.1, ⟨hk.1.1.1.2.1, ⟨hk.1.1.1.2.2.1, ⟨hk.1.1.2, ⟨hk.1.1.1.2.2.2.1, ⟨hk.1.1.1.2.2.2.2.1, ⟨hk.1.1.1.2.2.2.2.2.1, ⟨hk.1.1.1.2.2.2.2.2.2, ⟨hk.1.2, hk.2⟩⟩⟩⟩⟩⟩⟩⟩⟩)⟩, ⟨by (with_reducible repeat (first | apply ra | apply rn | apply rw_)); exact Kd.R_mono HO_308001.out (fun _ hk => ⟨hk.1.1, ⟨hk.1.2, hk.2⟩⟩)⟩, ⟨by (with_reducible repeat (first | apply ra | apply rn | apply rw_)); exact Kd.R_mono HO_314001.out (fun _ hk => ⟨hk.1.1, ⟨hk.1.2, hk.2⟩⟩)⟩, ⟨by (with_reducible repeat (first | apply ra | apply rn | apply rw_)); exact Kd.R_mono HO_320001.out (fun _ hk => ⟨hk.1.1, ⟨hk.1.2, hk.2⟩⟩)⟩, ⟨by (with_reducible repeat (first | apply Kd.V_alloc | apply Kd.V_drewN | apply Kd.V_drew)); exact Kd.V_mono HO325.out (fun _ hk => ⟨hk.1.1.2.1, ⟨hk.1.1.2.2.1, ⟨hk.1.1.2.2.2.1, ⟨hk.1.1.1, ⟨hk.1.1.2.2.2.2.1, ⟨hk.1.1.2.2.2.2.2.1, ⟨hk.1.1.2.2.2.2.2.2.1, ⟨hk.1.1.2.2.2.2.2.2.2, ⟨hk.1.2, hk.2⟩⟩⟩⟩⟩⟩⟩⟩⟩)⟩, ⟨by (with_reducible repeat (first | apply ra | apply rn | apply rw_)); exact Kd.R_mono HO329.out (fun _ hk => ⟨hk.1.1.2, ⟨hk.1.2, hk.2⟩⟩)⟩, ⟨kz BK306.out⟩, ⟨kz BK307.out⟩, ⟨kz BK313.out⟩, ⟨kz BK319.out⟩, ⟨kz BK330.out⟩, ⟨kz BK331.out⟩, ⟨by exact bw HB.out⟩⟩
       case rest =>
        clear HC72
        try clear c1
        try clear c2
        try clear p2
        try clear c3
        try clear c4
        try clear c4b0
        try clear c4b1
        try clear c5
        try clear c6
        try clear c7
        try clear c8
        try clear c9
        try clear c10
        try clear c13
        try clear c17
        try clear c20
        try clear c21
        try clear c25
        try clear c26
        try clear c28
        try clear c29
        try clear c30
        try clear c31
        try clear c34
        try clear c35
        try clear c35b0
        try clear c35b1
        try clear c35b2
        try clear c36
        try clear c37
        try clear c38
        try clear c40
        try clear c41
        try clear c44
        try clear c45
        try clear c46
        try clear c48
        try clear c49
        try clear c52
        try clear c53
        try clear c54
        try clear c56
        try clear c57
        try clear c60
        try clear c62
        try clear c63
        try clear c64
        try clear c65
        try clear c67
        try clear c68
        try clear c76
        try clear c77
        try clear c78
        try clear c79
        try clear c80
        try clear c83
        try clear c84
        try clear c85
        try clear c86
        try clear c90
        try clear c91
        try clear c92
        try clear c93
        try clear c94
        try clear c95
        try clear c99
        try clear c100
        try clear c101
        try clear c102
        try clear c104
        try clear c105
        try clear c106
        try clear c107
        try clear c108
        try clear hcz103_0
        try clear hcz103_1
        try clear hcz109_0
        try clear hcz109_1
        try clear hcz14_0
        try clear hcz14_1
        try clear hcz16_0
        try clear hcz16_1
        try clear hcz22_0
        try clear hcz22_1
        try clear hcz24_0
        try clear hcz24_1
        try clear hcz25_0
        try clear hcz25_1
        try clear hcz31_0
        try clear hcz31_1
        try clear hcz39_0
        try clear hcz39_1
        try clear hcz42_0
        try clear hcz42_1
        try clear hcz47_0
        try clear hcz47_1
        try clear hcz50_0
        try clear hcz50_1
        try clear hcz55_0
        try clear hcz55_1
        try clear hcz58_0
        try clear hcz58_1
        try clear hcz66_0
        try clear hcz66_1
        try clear hcz69_0
        try clear hcz69_1
        try clear hcz81_0
        try clear hcz81_1
        try clear hcz87_0
        try clear hcz87_1
        try clear hcz96_0
        try clear hcz96_1
        try clear hcz98_0
        try clear hcz98_1
        try clear hfz103_0
        try clear hfz103_1
        try clear hfz109_0
        try clear hfz109_1
        try clear hfz14_0
        try clear hfz14_1
        try clear hfz16_0
        try clear hfz16_1
        try clear hfz22_0
        try clear hfz22_1
        try clear hfz24_0
        try clear hfz24_1
        try clear hfz25_0
        try clear hfz25_1
        try clear hfz31_0
        try clear hfz31_1
        try clear hfz39_0
        try clear hfz39_1
        try clear hfz42_0
        try clear hfz42_1
        try clear hfz47_0
        try clear hfz47_1
        try clear hfz50_0
        try clear hfz50_1
        try clear hfz55_0
        try clear hfz55_1
        try clear hfz58_0
        try clear hfz58_1
        try clear hfz66_0
        try clear hfz66_1
        try clear hfz69_0
        try clear hfz69_1
        try clear hfz81_0
        try clear hfz81_1
        try clear hfz87_0
        try clear hfz87_1
        try clear hfz96_0
        try clear hfz96_1
        try clear hfz98_0
        try clear hfz98_1
        try clear p2
        obtain ⟨kq, x85_71, rfl, HA, HJ71, HO_307001, HO_308001, HO_314001, HO_320001, HO_331001, HO_332001, BK306, BK307, BK313, BK319, BK330, BK331, HB⟩ := hcut
        cases kq with
        | zero => exact absurd HA.out (by simp [laws_FnMinMatrix.j2])
        | succ kj71 =>
         have H := HA.out
         clear HA
         simp only [laws_FnMinMatrix.j2] at H
         have HC111 := am H
         clear H
         go_upto_if 85 with (fail)
         go_cut [] (fun wc => ∃ (kq : Nat) (x331000_110 : Int) (x331001_110 : List Int) (u331001 : Value), Aside0 (laws_FnMinMatrix.j3 kq t298 t299 t302 t303 t308 t309 x331000_110 x331001_110 = some r) ∧ Aside0 (kq ≤ kj71) ∧ Aside0 (Kd.V (Kd.int .i64) 3 wc w.heap.size (fun k_ => some k_ ≠ ((.slice Ao17 t303.length co17) : Value).ownBlock ∧ some k_ ≠ ((.slice Ao23 t309.length co23) : Value).ownBlock ∧ some k_ ≠ ((.slice Ao32 t315.length co32) : Value).ownBlock ∧ some k_ ≠ ((.slice Ao88 t327.length co88) : Value).ownBlock ∧ k_ ≠ gb306 ∧ k_ ≠ gb307 ∧ k_ ≠ gb313 ∧ k_ ≠ gb319 ∧ k_ ≠ gb330 ∧ k_ ≠ gb331) (.slice Ao15 t299.length co15) t299) ∧ Aside0 (Kd.R (Kd.int .i64) 3 wc w.heap.size (fun k_ => some k_ ≠ ((.slice Ao23 t309.length co23) : Value).ownBlock ∧ some k_ ≠ ((.slice Ao32 t315.length co32) : Value).ownBlock ∧ some k_ ≠ ((.slice Ao88 t327.length co88) : Value).ownBlock) (.slice Ao17 t303.length co17) t303) ∧ Aside0 (Kd.R (Kd.int .i64) 3 wc w.heap.size (fun k_ => some k_ ≠ ((.slice Ao17 t303.length co17) : Value).ownBlock ∧ some k_ ≠ ((.slice Ao32 t315.length co32) : Value).ownBlock ∧ some k_ ≠ ((.slice Ao88 t327.length co88) : Value).ownBlock) (.slice Ao23 t309.length co23) t309) ∧ Aside0 (Kd.R (Kd.int .i64) 3 wc w.heap.size (fun k_ => some k_ ≠ ((.slice Ao17 t303.length co17) : Value).ownBlock ∧ some k_ ≠ ((.slice Ao23 t309.length co23) : Value).ownBlock ∧ some k_ ≠ ((.slice Ao88 t327.length co88) : Value).ownBlock) (.slice Ao32 t315.length co32) t315) ∧ Aside0 (Kd.V (Kd.int .i64) 3 wc w.heap.size (fun k_ => some k_ ≠ ((.slice Ao17 t303.length co17) : Value).ownBlock ∧ some k_ ≠ ((.slice Ao23 t309.length co23) : Value).ownBlock ∧ some k_ ≠ ((.slice Ao32 t315.length co32) : Value).ownBlock ∧ some k_ ≠ ((.slice Ao88 t327.length co88) : Value).ownBlock ∧ k_ ≠ gb306 ∧ k_ ≠ gb307 ∧ k_ ≠ gb313 ∧ k_ ≠ gb319 ∧ k_ ≠ gb330 ∧ k_ ≠ gb331) u331001 x331001_110) ∧ Aside0 (Kd.R (Kd.int .i64) 3 wc w.heap.size (fun k_ => some k_ ≠ ((.slice Ao17 t303.length co17) : Value).ownBlock ∧ some k_ ≠ ((.slice Ao23 t309.length co23) : Value).ownBlock ∧ some k_ ≠ ((.slice Ao32 t315.length co32) : Value).ownBlock) (.slice Ao88 t327.length co88) t327) ∧ Aside0 (wc.heap[gb306]? = some (.cells #[.int .i64 t298, (.slice Ao15 t299.length co15)] 27 (0, 0))) ∧ Aside0 (wc.heap[gb307]? = some (.cells #[.int .i64 t302, (.slice Ao17 t303.length co17)] 27 (0, 0))) ∧ Aside0 (wc.heap[gb313]? = some (.cells #[.int .i64 t308, (.slice Ao23 t309.length co23)] 27 (0, 0))) ∧ Aside0 (wc.heap[gb319]? = some (.cells #[.int .i64 t314, (.slice Ao32 t315.length co32)] 27 (0, 0))) ∧ Aside0 (wc.heap[gb330]? = some (.cells #[.int .i64 x331000_110, u331001] 27 (0, 0))) ∧ Aside0 (wc.heap[gb331]? = some (.cells #[.int .i64 t326, (.slice Ao88 t327.length co88)] 27 (0, 0))) ∧ Aside0 (Below w.heap.size w wc))
         case first =>
          have H := HC111.out
          clear HC111
          by_cases c112 : x85_71 = true
          ·subst c112
           have H1 : (laws_FnMinMatrix.j3 kj71 t298 t299 t302 t303 t308 t309 t298 t299) = some r := by rw [if_pos rfl] at H; exact H
           clear H
           have H := H1
           clear H1
           have H' := am H
           clear H
           have hnb113 := NB306_307.out
           have hnc113 := NB307_306.out
           have hnb114 := NB306_313.out
           have hnc114 := NB313_306.out
           have hnb115 := NB306_319.out
           have hnc115 := NB319_306.out
           have hnb116 := NB306_330.out
           have hnc116 := NB330_306.out
           have hnb117 := NB306_331.out
           have hnc117 := NB331_306.out
           have hcz118_0 := cz20 BK306.out
           have hcz118_1 := cz21 BK306.out
           have hfz118_0 := blk_frozen BK306.out 0
           have hfz118_1 := blk_frozen BK306.out 1
           have hnb119 := NB330_307.out
           have hnc119 := NB307_330.out
           have hnb120 := NB330_313.out
           have hnc120 := NB313_330.out
           have hnb121 := NB330_319.out
           have hnc121 := NB319_330.out
           have hnb122 := NB330_331.out
           have hnc122 := NB331_330.out
           have hcz123_0 := cz20 BK330.out
           have hcz123_1 := cz21 BK330.out
           have hfz123_0 := blk_frozen BK330.out 0
           have hfz123_1 := blk_frozen BK330.out 1
           go_wp2
           go_meet
           case rel => exact ⟨_, (t298), (t299), (.slice Ao15 t299.length co15), H', ⟨by have := HJ2.out; have := HJ8.out; have := HJ71.out; first | omega | exact Nat.le_refl _⟩, ⟨by (with_reducible repeat (first | apply Kd.V_alloc | apply Kd.V_drewN | apply Kd.V_drew)); exact Kd.V_mono (Kd.V_far (p := ⟨gb330, 1, none⟩) (Kd.V_far (p := ⟨gb330, 0, none⟩) (Kd.V_mono HO_307001.out (fun k_ hk => (⟨hk, hk.2.2.2.2.2.2.2.2.1⟩ : _ ∧ k_ ≠ gb330))) (fun _ hk => hk.2) (.int .i64 t298)) (fun _ hk => hk.2) (.slice Ao15 t299.length co15)) (fun _ hk => ⟨hk.1.1, ⟨hk.1.2.1, ⟨hk.1.2.2.1, ⟨hk.1.2.2.2.1, ⟨hk.1.2.2.2.2.1, ⟨hk.1.2.2.2.2.2.1, ⟨hk.1.2.2.2.2.2.2.1, ⟨hk.1.2.2.2.2.2.2.2.1, ⟨hk.1.2.2.2.2.2.2.2.2.1, hk.1.2.2.2.2.2.2.2.2.2⟩⟩⟩⟩⟩⟩⟩⟩⟩)⟩, ⟨by (with_reducible repeat (first | apply ra | apply rn | apply rw_)); exact Kd.R_mono (Kd.R_far (p := ⟨gb330, 1, none⟩) (Kd.R_far (p := ⟨gb330, 0, none⟩) (Kd.R_types HO_308001.out BK330.out (by decide)) (fun _ hk => hk.2) (.int .i64 t298)) (fun _ hk => hk.2) (.slice Ao15 t299.length co15)) (fun _ hk => ⟨hk.1.1, ⟨hk.1.2.1, hk.1.2.2⟩⟩)⟩, ⟨by (with_reducible repeat (first | apply ra | apply rn | apply rw_)); exact Kd.R_mono (Kd.R_far (p := ⟨gb330, 1, none⟩) (Kd.R_far (p := ⟨gb330, 0, none⟩) (Kd.R_types HO_314001.out BK330.out (by decide)) (fun _ hk => hk.2) (.int .i64 t298)) (fun _ hk => hk.2) (.slice Ao15 t299.length co15)) (fun _ hk => ⟨hk.1.1, ⟨hk.1.2.1, hk.1.2.2⟩⟩)⟩, ⟨by (with_reducible repeat (first | apply ra | apply rn | apply rw_)); exact Kd.R_mono (Kd.R_far (p := ⟨gb330, 1, none⟩) (Kd.R_far (p := ⟨gb330, 0, none⟩) (Kd.R_types HO_320001.out BK330.out (by decide)) (fun _ hk => hk.2) (.int .i64 t298)) (fun _ hk => hk.2) (.slice Ao15 t299.length co15)) (fun _ hk => ⟨hk.1.1, ⟨hk.1.2.1, hk.1.2.2⟩⟩)⟩, ⟨by (with_reducible repeat (first | apply Kd.V_alloc | apply Kd.V_drewN | apply Kd.V_drew)); exact Kd.V_mono (Kd.V_far (p := ⟨gb330, 1, none⟩) (Kd.V_far (p := ⟨gb330, 0, none⟩) (Kd.V_mono HO_307001.out (fun k_ hk => (⟨hk, hk.2.2.2.2.2.2.2.2.1⟩ : _ ∧ k_ ≠ gb330))) (fun _ hk => hk.2) (.int .i64 t298)) (fun _ hk => hk.2) (.slice Ao15 t299.length co15)) (fun _ hk => ⟨hk.1.1, ⟨hk.1.2.1, ⟨hk.1.2.2.1, ⟨hk.1.2.2.2.1, ⟨hk.1.2.2.2.2.1, ⟨hk.1.2.2.2.2.2.1, ⟨hk.1.2.2.2.2.2.2.1, ⟨hk.1.2.2.2.2.2.2.2.1, ⟨hk.1.2.2.2.2.2.2.2.2.1, hk.1.2.2.2.2.2.2.2.2.2⟩⟩⟩⟩⟩⟩⟩⟩⟩)⟩, ⟨by (with_reducible repeat (first | apply ra | apply rn | apply rw_)); exact Kd.R_mono (Kd.R_far (p := ⟨gb330, 1, none⟩) (Kd.R_far (p := ⟨gb330, 0, none⟩) (Kd.R_types HO_332001.out BK330.out (by decide)) (fun _ hk => hk.2) (.int .i64 t298)) (fun _ hk => hk.2) (.slice Ao15 t299.length co15)) (fun _ hk => ⟨hk.1.1, ⟨hk.1.2.1, hk.1.2.2⟩⟩)⟩, ⟨by (with_reducible repeat (first | refine kn ?_ _ | refine kd ?_ | refine ka ?_ _)); refine blk_far ?_ NB306_330.out _; (with_reducible repeat (first | refine kn ?_ _ | refine kd ?_ | refine ka ?_ _)); refine blk_far ?_ NB306_330.out _; (with_reducible repeat (first | refine kn ?_ _ | refine kd ?_ | refine ka ?_ _)); exact BK306.out⟩, ⟨by (with_reducible repeat (first | refine kn ?_ _ | refine kd ?_ | refine ka ?_ _)); refine blk_far ?_ NB307_330.out _; (with_reducible repeat (first | refine kn ?_ _ | refine kd ?_ | refine ka ?_ _)); refine blk_far ?_ NB307_330.out _; (with_reducible repeat (first | refine kn ?_ _ | refine kd ?_ | refine ka ?_ _)); exact BK307.out⟩, ⟨by (with_reducible repeat (first | refine kn ?_ _ | refine kd ?_ | refine ka ?_ _)); refine blk_far ?_ NB313_330.out _; (with_reducible repeat (first | refine kn ?_ _ | refine kd ?_ | refine ka ?_ _)); refine blk_far ?_ NB313_330.out _; (with_reducible repeat (first | refine kn ?_ _ | refine kd ?_ | refine ka ?_ _)); exact BK313.out⟩, ⟨by (with_reducible repeat (first | refine kn ?_ _ | refine kd ?_ | refine ka ?_ _)); refine blk_far ?_ NB319_330.out _; (with_reducible repeat (first | refine kn ?_ _ | refine kd ?_ | refine ka ?_ _)); refine blk_far ?_ NB319_330.out _; (with_reducible repeat (first | refine kn ?_ _ | refine kd ?_ | refine ka ?_ _)); exact BK319.out⟩, ⟨by (with_reducible repeat (first | refine kn ?_ _ | refine kd ?_ | refine ka ?_ _)); refine blk_put (cs := #[.int .i64 t298, .slice Ao82 t323.length co82]) ?_ 1 _ rfl; (with_reducible repeat (first | refine kn ?_ _ | refine kd ?_ | refine ka ?_ _)); refine blk_put (cs := #[.int .i64 t322, .slice Ao82 t323.length co82]) ?_ 0 _ rfl; (with_reducible repeat (first | refine kn ?_ _ | refine kd ?_ | refine ka ?_ _)); exact BK330.out⟩, ⟨by (with_reducible repeat (first | refine kn ?_ _ | refine kd ?_ | refine ka ?_ _)); refine blk_far ?_ NB331_330.out _; (with_reducible repeat (first | refine kn ?_ _ | refine kd ?_ | refine ka ?_ _)); refine blk_far ?_ NB331_330.out _; (with_reducible repeat (first | refine kn ?_ _ | refine kd ?_ | refine ka ?_ _)); exact BK331.out⟩, ⟨by exact bw HB.out⟩⟩
          ·replace c112 := Bool.eq_false_iff.mpr c112
           subst c112
           have H1 : (laws_FnMinMatrix.j3 kj71 t298 t299 t302 t303 t308 t309 t322 t323) = some r := by rw [if_neg (show ¬ (false = true) by decide)] at H; exact H
           clear H
           have H := H1
           clear H1
           have H' := am H
           clear H
           go_wp2
           go_meet
           case rel => exact ⟨_, (t322), (t323), (.slice Ao82 t323.length co82), H', ⟨by have := HJ2.out; have := HJ8.out; have := HJ71.out; first | omega | exact Nat.le_refl _⟩, ⟨by (with_reducible repeat (first | apply Kd.V_alloc | apply Kd.V_drewN | apply Kd.V_drew)); exact HO_307001.out⟩, ⟨rz HO_308001.out⟩, ⟨rz HO_314001.out⟩, ⟨rz HO_320001.out⟩, ⟨by (with_reducible repeat (first | apply Kd.V_alloc | apply Kd.V_drewN | apply Kd.V_drew)); exact HO_331001.out⟩, ⟨rz HO_332001.out⟩, ⟨kz BK306.out⟩, ⟨kz BK307.out⟩, ⟨kz BK313.out⟩, ⟨kz BK319.out⟩, ⟨kz BK330.out⟩, ⟨kz BK331.out⟩, ⟨by exact bw HB.out⟩⟩
         case rest =>
          clear HC111
          try clear c1
          try clear c2
          try clear p2
          try clear c3
          try clear c4
          try clear c4b0
          try clear c4b1
          try clear c5
          try clear c6
          try clear c7
          try clear c8
          try clear c9
          try clear c10
          try clear c11
          try clear c12
          try clear c13
          try clear c17
          try clear c20
          try clear c21
          try clear c25
          try clear c26
          try clear c28
          try clear c29
          try clear c30
          try clear c31
          try clear c34
          try clear c35
          try clear c35b0
          try clear c35b1
          try clear c35b2
          try clear c36
          try clear c37
          try clear c38
          try clear c40
          try clear c41
          try clear c44
          try clear c45
          try clear c46
          try clear c48
          try clear c49
          try clear c52
          try clear c53
          try clear c54
          try clear c56
          try clear c57
          try clear c60
          try clear c62
          try clear c63
          try clear c64
          try clear c65
          try clear c67
          try clear c68
          try clear c76
          try clear c77
          try clear c78
          try clear c79
          try clear c80
          try clear c83
          try clear c84
          try clear c85
          try clear c86
          try clear c90
          try clear c91
          try clear c92
          try clear c93
          try clear c94
          try clear c95
          try clear c99
          try clear c100
          try clear c101
          try clear c102
          try clear c104
          try clear c105
          try clear c106
          try clear c107
          try clear c108
          try clear c112
          try clear c113
          try clear c114
          try clear c115
          try clear c116
          try clear c117
          try clear c119
          try clear c120
          try clear c121
          try clear c122
          try clear hcz103_0
          try clear hcz103_1
          try clear hcz109_0
          try clear hcz109_1
          try clear hcz118_0
          try clear hcz118_1
          try clear hcz123_0
          try clear hcz123_1
          try clear hcz14_0
          try clear hcz14_1
          try clear hcz16_0
          try clear hcz16_1
          try clear hcz22_0
          try clear hcz22_1
          try clear hcz24_0
          try clear hcz24_1
          try clear hcz25_0
          try clear hcz25_1
          try clear hcz31_0
          try clear hcz31_1
          try clear hcz39_0
          try clear hcz39_1
          try clear hcz42_0
          try clear hcz42_1
          try clear hcz47_0
          try clear hcz47_1
          try clear hcz50_0
          try clear hcz50_1
          try clear hcz55_0
          try clear hcz55_1
          try clear hcz58_0
          try clear hcz58_1
          try clear hcz66_0
          try clear hcz66_1
          try clear hcz69_0
          try clear hcz69_1
          try clear hcz81_0
          try clear hcz81_1
          try clear hcz87_0
          try clear hcz87_1
          try clear hcz96_0
          try clear hcz96_1
          try clear hcz98_0
          try clear hcz98_1
          try clear hfz103_0
          try clear hfz103_1
          try clear hfz109_0
          try clear hfz109_1
          try clear hfz118_0
          try clear hfz118_1
          try clear hfz123_0
          try clear hfz123_1
          try clear hfz14_0
          try clear hfz14_1
          try clear hfz16_0
          try clear hfz16_1
          try clear hfz22_0
          try clear hfz22_1
          try clear hfz24_0
          try clear hfz24_1
          try clear hfz25_0
          try clear hfz25_1
          try clear hfz31_0
          try clear hfz31_1
          try clear hfz39_0
          try clear hfz39_1
          try clear hfz42_0
          try clear hfz42_1
          try clear hfz47_0
          try clear hfz47_1
          try clear hfz50_0
          try clear hfz50_1
          try clear hfz55_0
          try clear hfz55_1
          try clear hfz58_0
          try clear hfz58_1
          try clear hfz66_0
          try clear hfz66_1
          try clear hfz69_0
          try clear hfz69_1
          try clear hfz81_0
          try clear hfz81_1
          try clear hfz87_0
          try clear hfz87_1
          try clear hfz96_0
          try clear hfz96_1
          try clear hfz98_0
          try clear hfz98_1
          try clear p2
          obtain ⟨kq, x331000_110, x331001_110, u331001, HA, HJ110, HO_307001, HO_308001, HO_314001, HO_320001, HO_331001, HO_332001, BK306, BK307, BK313, BK319, BK330, BK331, HB⟩ := hcut
          cases kq with
          | zero => exact absurd HA.out (by simp [laws_FnMinMatrix.j3])
          | succ kj110 =>
           have H := HA.out
           clear HA
           simp only [laws_FnMinMatrix.j3] at H
           replace H := Option.bind_eq_some_iff.mp H
           obtain ⟨⟨t333, t334, t337⟩, A1240, H⟩ := H
           (try dsimp only at H)
           have A124 := am A1240
           clear A1240
           replace H := Option.bind_eq_some_iff.mp H
           obtain ⟨⟨t339, t340, t343⟩, A1250, H⟩ := H
           (try dsimp only at H)
           have A125 := am A1250
           clear A1250
           replace H := Option.bind_eq_some_iff.mp H
           obtain ⟨⟨t345, t346, t349⟩, A1260, H⟩ := H
           (try dsimp only at H)
           have A126 := am A1260
           clear A1260
           replace H := Option.bind_eq_some_iff.mp H
           obtain ⟨⟨t351, t352, t355⟩, A1270, H⟩ := H
           (try dsimp only at H)
           have A127 := am A1270
           clear A1270
           replace H := Option.bind_eq_some_iff.mp H
           obtain ⟨⟨t357, t358, t361⟩, A1280, H⟩ := H
           (try dsimp only at H)
           have A128 := am A1280
           clear A1280
           replace H := Option.bind_eq_some_iff.mp H
           obtain ⟨⟨t363, t364, t367⟩, A1290, H⟩ := H
           (try dsimp only at H)
           have A129 := am A1290
           clear A1290
           replace H := Option.bind_eq_some_iff.mp H
           obtain ⟨t369, A1300, H⟩ := H
           (try dsimp only at H)
           have A130 := am A1300
           clear A1300
           by_cases c131 : t369 = true
           ·subst c131
            have H1 : ((laws_daMatrix.f kj110 t357 t358 t308 t309).bind fun t370 => (if t370 = true then ((laws_daMatrix.f kj110 t363 t364 t308 t309).bind fun t371 => (if t371 = true then ((impl_MatrixValid.f kj110 t308 t309).bind fun t372 => (some t372)) else (none))) else (none))) = some r := by rw [if_pos rfl] at H; exact H
            clear H
            have H := H1
            clear H1
            replace H := Option.bind_eq_some_iff.mp H
            obtain ⟨t370, A1320, H⟩ := H
            (try dsimp only at H)
            have A132 := am A1320
            clear A1320
            by_cases c133 : t370 = true
            ·subst c133
             have H1 : ((laws_daMatrix.f kj110 t363 t364 t308 t309).bind fun t371 => (if t371 = true then ((impl_MatrixValid.f kj110 t308 t309).bind fun t372 => (some t372)) else (none))) = some r := by rw [if_pos rfl] at H; exact H
             clear H
             have H := H1
             clear H1
             replace H := Option.bind_eq_some_iff.mp H
             obtain ⟨t371, A1340, H⟩ := H
             (try dsimp only at H)
             have A134 := am A1340
             clear A1340
             by_cases c135 : t371 = true
             ·subst c135
              have H1 : ((impl_MatrixValid.f kj110 t308 t309).bind fun t372 => (some t372)) = some r := by rw [if_pos rfl] at H; exact H
              clear H
              have H := H1
              clear H1
              replace H := Option.bind_eq_some_iff.mp H
              obtain ⟨t372, A1360, H⟩ := H
              (try dsimp only at H)
              have A136 := am A1360
              clear A1360
              obtain rfl := Option.some.inj H
              have hnb137 := NB313_306.out
              have hnc137 := NB306_313.out
              have hnb138 := NB313_307.out
              have hnc138 := NB307_313.out
              have hnb139 := NB313_319.out
              have hnc139 := NB319_313.out
              have hnb140 := NB313_330.out
              have hnc140 := NB330_313.out
              have hnb141 := NB313_331.out
              have hnc141 := NB331_313.out
              have hcz142_0 := cz20 BK313.out
              have hcz142_1 := cz21 BK313.out
              have hfz142_0 := blk_frozen BK313.out 0
              have hfz142_1 := blk_frozen BK313.out 1
              have hnb143 := NB330_306.out
              have hnc143 := NB306_330.out
              have hnb144 := NB330_307.out
              have hnc144 := NB307_330.out
              have hnb145 := NB330_319.out
              have hnc145 := NB319_330.out
              have hnb146 := NB330_331.out
              have hnc146 := NB331_330.out
              have hcz147_0 := cz20 BK330.out
              have hcz147_1 := cz21 BK330.out
              have hfz147_0 := blk_frozen BK330.out 0
              have hfz147_1 := blk_frozen BK330.out 1
              obtain ⟨Ao148, co148, eo148⟩ := Kd.V_slice HO_331001.out
              subst eo148
              go_wp2_with (first | ((with_reducible refine gate_callee (f := 28) rfl ?_); refine goesL_ (some 90) rfl rfl Try.func28 (by kernel_rfl) rfl #[.agg #[.int .i64 t308, .slice Ao23 t309.length co23], .agg #[.int .i64 x331000_110, .slice Ao148 x331001_110.length co148]] rfl (by (try simp only [List.map_toArray, List.map_cons, List.map_nil]); first | done | rfl | (simp only [List.length_drop, List.length_take]; rfl)) ?_; (with_reducible refine (impl_MulMatrix.calls kj110 t308 _ _ t309 x331000_110 _ _ x331001_110 t333 t334 t337 _ ?side1 ?side2 ?side3 ?side4 A124.out).mono ?_); (case side1 => repeat (first | exact (Kd.R_reads' HO_314001.out).2.2 | (with_reducible refine Kd.C_alloc ?_ _) | (with_reducible refine Kd.C_drewN ?_ _) | (with_reducible refine Kd.C_drew ?_))); (case side2 => exact (Kd.R_reads' HO_314001.out).2.1); (case side3 => repeat (first | exact (Kd.V_reads' HO_331001.out).2.2 | (with_reducible refine Kd.C_alloc ?_ _) | (with_reducible refine Kd.C_drewN ?_ _) | (with_reducible refine Kd.C_drew ?_))); (case side4 => exact (Kd.V_reads' HO_331001.out).2.1); rintro e w149 ⟨v335, rfl, ho0, hb⟩; refine ⟨_, rfl, ?_⟩; have n0_ := am (Kd.V_elder' (by (with_reducible repeat (first | apply Kd.V_alloc | apply Kd.V_drewN | apply Kd.V_drew)); exact HO_307001.out) (Kd.R_base ho0) hb); have n1_ := el HO_308001 (Kd.R_base ho0) hb; have n2_ := el HO_314001 (Kd.R_base ho0) hb; have n3_ := el HO_320001 (Kd.R_base ho0) hb; have n4_ := am (Kd.V_elder' (by (with_reducible repeat (first | apply Kd.V_alloc | apply Kd.V_drewN | apply Kd.V_drew)); exact HO_331001.out) (Kd.R_base ho0) hb); have n5_ := el HO_332001 (Kd.R_base ho0) hb; have n6_ := am (Kd.R_lower (Kd.R_new' (Kd.R_new' (Kd.R_new' (Kd.R_new' ho0 (Kd.R_lt (rz HO_308001.out))) (Kd.R_lt (rz HO_314001.out))) (Kd.R_lt (rz HO_320001.out))) (Kd.R_lt (rz HO_332001.out))) (below_size (bw HB.out))); have n7_ := bk BK306 hb; have n8_ := bk BK307 hb; have n9_ := bk BK313 hb; have n10_ := bk BK319 hb; have n11_ := bk BK330 hb; have n12_ := bk BK331 hb; have n13_ := am (below_step (bw HB.out) hb); clear HO_307001 HO_308001 HO_314001 HO_320001 HO_331001 HO_332001 BK306 BK307 BK313 BK319 BK330 BK331 HB; revert n0_ n1_ n2_ n3_ n4_ n5_ n6_ n7_ n8_ n9_ n10_ n11_ n12_ n13_; intro HO_307001 HO_308001 HO_314001 HO_320001 HO_331001 HO_332001 HO336 BK306 BK307 BK313 BK319 BK330 BK331 HB; (try clear hb); (try clear hb2); (try clear hk); (try clear hi); (try clear ho0)) | ((with_reducible refine gate_dst (N := 13) rfl ?_); (try (refine gate_guard (by rfl) ?_; dsimp only)); refine box_event ?hg (N := 13) ?hd (cs := #[.int .i64 0, .slice none 0 0]) (t := 27) ?hr ?_; (case hd => rfl); (case hg => rfl); (case hr => first | (go_simp; done) | (go_simp; rfl)); intro gb338 hg w150 hbox hb; have n0_ := am (Kd.V_below (Kd.V_elderB (by (with_reducible repeat (first | apply Kd.V_alloc | apply Kd.V_drewN | apply Kd.V_drew)); exact HO_307001.out) gb338 (Nat.le_of_eq hg.symm)) hb); have n1_ := am (Kd.R_below (rz HO_308001.out) hb); have n2_ := am (Kd.R_below (rz HO_314001.out) hb); have n3_ := am (Kd.R_below (rz HO_320001.out) hb); have n4_ := am (Kd.V_below (Kd.V_elderB (by (with_reducible repeat (first | apply Kd.V_alloc | apply Kd.V_drewN | apply Kd.V_drew)); exact HO_331001.out) gb338 (Nat.le_of_eq hg.symm)) hb); have n5_ := am (Kd.R_below (rz HO_332001.out) hb); have n6_ := am (Kd.R_below (rz HO336.out) hb); have n7_ := bk BK306 hb; have n8_ := bk BK307 hb; have n9_ := bk BK313 hb; have n10_ := bk BK319 hb; have n11_ := bk BK330 hb; have n12_ := bk BK331 hb; have n13_ := am (below_step (bw HB.out) hb); have n14_ := am (hbox); have n15_ := am ((by rw [hg]; exact (below_size (bw HB.out)) : w.heap.size ≤ gb338)); have n16_ := am ((by rw [hg]; exact (below_size (bw HB.out)) : w.heap.size ≤ gb338)); have n17_ := am ((by rw [hg]; exact Nat.ne_of_lt (blk_lt (kz BK306.out)) : gb306 ≠ gb338)); have n18_ := am ((by rw [hg]; exact Nat.ne_of_gt (blk_lt (kz BK306.out)) : gb338 ≠ gb306)); have n19_ := am ((by rw [hg]; exact Nat.ne_of_lt (blk_lt (kz BK307.out)) : gb307 ≠ gb338)); have n20_ := am ((by rw [hg]; exact Nat.ne_of_gt (blk_lt (kz BK307.out)) : gb338 ≠ gb307)); have n21_ := am ((by rw [hg]; exact Nat.ne_of_lt (blk_lt (kz BK313.out)) : gb313 ≠ gb338)); have n22_ := am ((by rw [hg]; exact Nat.ne_of_gt (blk_lt (kz BK313.out)) : gb338 ≠ gb313)); have n23_ := am ((by rw [hg]; exact Nat.ne_of_lt (blk_lt (kz BK319.out)) : gb319 ≠ gb338)); have n24_ := am ((by rw [hg]; exact Nat.ne_of_gt (blk_lt (kz BK319.out)) : gb338 ≠ gb319)); have n25_ := am ((by rw [hg]; exact Nat.ne_of_lt (blk_lt (kz BK330.out)) : gb330 ≠ gb338)); have n26_ := am ((by rw [hg]; exact Nat.ne_of_gt (blk_lt (kz BK330.out)) : gb338 ≠ gb330)); have n27_ := am ((by rw [hg]; exact Nat.ne_of_lt (blk_lt (kz BK331.out)) : gb331 ≠ gb338)); have n28_ := am ((by rw [hg]; exact Nat.ne_of_gt (blk_lt (kz BK331.out)) : gb338 ≠ gb331)); clear HO_307001 HO_308001 HO_314001 HO_320001 HO_331001 HO_332001 HO336 BK306 BK307 BK313 BK319 BK330 BK331 HB; revert n0_ n1_ n2_ n3_ n4_ n5_ n6_ n7_ n8_ n9_ n10_ n11_ n12_ n13_ n14_ n15_ n16_ n17_ n18_ n19_ n20_ n21_ n22_ n23_ n24_ n25_ n26_ n27_ n28_; intro HO_307001 HO_308001 HO_314001 HO_320001 HO_331001 HO_332001 HO336 BK306 BK307 BK313 BK319 BK330 BK331 HB BK338 GW338 GE338 NB306_338 NB338_306 NB307_338 NB338_307 NB313_338 NB338_313 NB319_338 NB338_319 NB330_338 NB338_330 NB331_338 NB338_331; clear hb hbox hg; have hnb151 := NB338_306.out; have hnc151 := NB306_338.out; have hnb152 := NB338_307.out; have hnc152 := NB307_338.out; have hnb153 := NB338_313.out; have hnc153 := NB313_338.out; have hnb154 := NB338_319.out; have hnc154 := NB319_338.out; have hnb155 := NB338_330.out; have hnc155 := NB330_338.out; have hnb156 := NB338_331.out; have hnc156 := NB331_338.out; have hcz157_0 := cz20 BK338.out; have hcz157_1 := cz21 BK338.out; have hfz157_0 := blk_frozen BK338.out 0; have hfz157_1 := blk_frozen BK338.out 1; obtain ⟨Ao158, co158, eo158⟩ := Kd.R_slice HO336.out; subst eo158; have hnb159 := NB306_307.out; have hnc159 := NB307_306.out; have hnb160 := NB306_319.out; have hnc160 := NB319_306.out; have hnb161 := NB306_331.out; have hnc161 := NB331_306.out; have hcz162_0 := cz20 BK306.out; have hcz162_1 := cz21 BK306.out; have hfz162_0 := blk_frozen BK306.out 0; have hfz162_1 := blk_frozen BK306.out 1; have hcz163_0 := cz20 BK330.out; have hcz163_1 := cz21 BK330.out; have hfz163_0 := blk_frozen BK330.out 0; have hfz163_1 := blk_frozen BK330.out 1) | ((with_reducible refine gate_callee (f := 28) rfl ?_); refine goesL_ (some 96) rfl rfl Try.func28 (by kernel_rfl) rfl #[.agg #[.int .i64 t298, .slice Ao15 t299.length co15], .agg #[.int .i64 x331000_110, .slice Ao148 x331001_110.length co148]] rfl (by (try simp only [List.map_toArray, List.map_cons, List.map_nil]); first | done | rfl | (simp only [List.length_drop, List.length_take]; rfl)) ?_; (with_reducible refine (impl_MulMatrix.calls kj110 t298 _ _ t299 x331000_110 _ _ x331001_110 t339 t340 t343 _ ?side1 ?side2 ?side3 ?side4 A125.out).mono ?_); (case side1 => refine (Kd.V_reads' (e := 3) (base := w.heap.size) (ok := fun k_ => (((NS Ao17 t303 co17 k_ ∧ (NS Ao23 t309 co23 k_ ∧ (NS Ao32 t315 co32 k_ ∧ (NS Ao88 t327 co88 k_ ∧ (k_ ≠ gb306 ∧ (k_ ≠ gb307 ∧ (k_ ≠ gb313 ∧ (k_ ≠ gb319 ∧ (k_ ≠ gb330 ∧ k_ ≠ gb331))))))))) ∧ NS Ao158 t334 co158 k_) ∧ k_ ≠ gb338)) (n := t299.length) (c := co15) ?_).2.2; exact (by (with_reducible repeat (first | apply Kd.V_alloc | apply Kd.V_drewN | apply Kd.V_drew)); exact (Kd.V_mono (Kd.V_far (p := ⟨gb338, 1, none⟩) (Kd.V_far (p := ⟨gb338, 0, none⟩) (Kd.V_mono HO_307001.out (fun k_ hk => (⟨hk, hk.2⟩ : _ ∧ k_ ≠ gb338))) (fun _ hk => hk.2) (.int .i64 t333)) (fun _ hk => hk.2) (.slice Ao158 t334.length co158)) (fun _ h_ => h_.1)))); (case side2 => exact (Kd.V_reads' HO_307001.out).2.1); (case side3 => refine (Kd.V_reads' (e := 3) (base := w.heap.size) (ok := fun k_ => (((NS Ao17 t303 co17 k_ ∧ (NS Ao23 t309 co23 k_ ∧ (NS Ao32 t315 co32 k_ ∧ (NS Ao88 t327 co88 k_ ∧ (k_ ≠ gb306 ∧ (k_ ≠ gb307 ∧ (k_ ≠ gb313 ∧ (k_ ≠ gb319 ∧ (k_ ≠ gb330 ∧ k_ ≠ gb331))))))))) ∧ NS Ao158 t334 co158 k_) ∧ k_ ≠ gb338)) (n := x331001_110.length) (c := co148) ?_).2.2; exact (by (with_reducible repeat (first | apply Kd.V_alloc | apply Kd.V_drewN | apply Kd.V_drew)); exact (Kd.V_mono (Kd.V_far (p := ⟨gb338, 1, none⟩) (Kd.V_far (p := ⟨gb338, 0, none⟩) (Kd.V_mono HO_331001.out (fun k_ hk => (⟨hk, hk.2⟩ : _ ∧ k_ ≠ gb338))) (fun _ hk => hk.2) (.int .i64 t333)) (fun _ hk => hk.2) (.slice Ao158 t334.length co158)) (fun _ h_ => h_.1)))); (case side4 => exact (Kd.V_reads' HO_331001.out).2.1); rintro e w164 ⟨v341, rfl, ho0, hb⟩; refine ⟨_, rfl, ?_⟩; have n0_ := am (Kd.V_elder' (by (with_reducible repeat (first | apply Kd.V_alloc | apply Kd.V_drewN | apply Kd.V_drew)); exact (Kd.V_mono (Kd.V_far (p := ⟨gb338, 1, none⟩) (Kd.V_far (p := ⟨gb338, 0, none⟩) (Kd.V_mono HO_307001.out (fun k_ hk => (⟨hk, hk.2⟩ : _ ∧ k_ ≠ gb338))) (fun _ hk => hk.2) (.int .i64 t333)) (fun _ hk => hk.2) (.slice Ao158 t334.length co158)) (fun _ h_ => h_.1))) (Kd.R_base ho0) hb); have n1_ := am (Kd.R_elder' (r2z HO_308001 BK338 (by decide)) (Kd.R_base ho0) hb); have n2_ := am (Kd.R_elder' (r2z HO_314001 BK338 (by decide)) (Kd.R_base ho0) hb); have n3_ := am (Kd.R_elder' (r2z HO_320001 BK338 (by decide)) (Kd.R_base ho0) hb); have n4_ := am (Kd.V_elder' (by (with_reducible repeat (first | apply Kd.V_alloc | apply Kd.V_drewN | apply Kd.V_drew)); exact (Kd.V_mono (Kd.V_far (p := ⟨gb338, 1, none⟩) (Kd.V_far (p := ⟨gb338, 0, none⟩) (Kd.V_mono HO_331001.out (fun k_ hk => (⟨hk, hk.2⟩ : _ ∧ k_ ≠ gb338))) (fun _ hk => hk.2) (.int .i64 t333)) (fun _ hk => hk.2) (.slice Ao158 t334.length co158)) (fun _ h_ => h_.1))) (Kd.R_base ho0) hb); have n5_ := am (Kd.R_elder' (r2z HO_332001 BK338 (by decide)) (Kd.R_base ho0) hb); have n6_ := am (Kd.R_elder' (r2z HO336 BK338 (by decide)) (Kd.R_base ho0) hb); have n7_ := am (Kd.R_lower (Kd.R_new' (Kd.R_new' (Kd.R_new' (Kd.R_new' (Kd.R_new' ho0 (Kd.R_lt (r2z HO_308001 BK338 (by decide)))) (Kd.R_lt (r2z HO_314001 BK338 (by decide)))) (Kd.R_lt (r2z HO_320001 BK338 (by decide)))) (Kd.R_lt (r2z HO_332001 BK338 (by decide)))) (Kd.R_lt (r2z HO336 BK338 (by decide)))) (below_size (bw HB.out))); have n8_ := am (blk_below (kf BK306.out) hb); have n9_ := am (blk_below (kf BK307.out) hb); have n10_ := am (blk_below (kf BK313.out) hb); have n11_ := am (blk_below (kf BK319.out) hb); have n12_ := am (blk_below (kf BK330.out) hb); have n13_ := am (blk_below (kf BK331.out) hb); have n14_ := am (blk_below (g := gb338) (o := .cells #[.int .i64 t333, .slice Ao158 t334.length co158] 27 (0, 0)) (by (with_reducible repeat (first | refine kn ?_ _ | refine kd ?_ | refine ka ?_ _)); refine blk_put (cs := #[.int .i64 t333, .slice none 0 0]) ?_ 1 _ rfl; (with_reducible repeat (first | refine kn ?_ _ | refine kd ?_ | refine ka ?_ _)); refine blk_put (cs := #[.int .i64 0, .slice none 0 0]) ?_ 0 _ rfl; (with_reducible repeat (first | refine kn ?_ _ | refine kd ?_ | refine ka ?_ _)); exact BK338.out) hb); have n15_ := am (below_step (bw HB.out) hb); clear HO_307001 HO_308001 HO_314001 HO_320001 HO_331001 HO_332001 HO336 BK306 BK307 BK313 BK319 BK330 BK331 BK338 HB; revert n0_ n1_ n2_ n3_ n4_ n5_ n6_ n7_ n8_ n9_ n10_ n11_ n12_ n13_ n14_ n15_; intro HO_307001 HO_308001 HO_314001 HO_320001 HO_331001 HO_332001 HO336 HO342 BK306 BK307 BK313 BK319 BK330 BK331 BK338 HB; (try clear hb); (try clear hb2); (try clear hk); (try clear hi); (try clear ho0)) | ((with_reducible refine gate_dst (N := 15) rfl ?_); (try (refine gate_guard (by rfl) ?_; dsimp only)); refine box_event ?hg (N := 15) ?hd (cs := #[.int .i64 0, .slice none 0 0]) (t := 27) ?hr ?_; (case hd => rfl); (case hg => rfl); (case hr => first | (go_simp; done) | (go_simp; rfl)); intro gb344 hg w165 hbox hb; have n0_ := am (Kd.V_below (Kd.V_elderB (by (with_reducible repeat (first | apply Kd.V_alloc | apply Kd.V_drewN | apply Kd.V_drew)); exact HO_307001.out) gb344 (Nat.le_of_eq hg.symm)) hb); have n1_ := am (Kd.R_below (rz HO_308001.out) hb); have n2_ := am (Kd.R_below (rz HO_314001.out) hb); have n3_ := am (Kd.R_below (rz HO_320001.out) hb); have n4_ := am (Kd.V_below (Kd.V_elderB (by (with_reducible repeat (first | apply Kd.V_alloc | apply Kd.V_drewN | apply Kd.V_drew)); exact HO_331001.out) gb344 (Nat.le_of_eq hg.symm)) hb); have n5_ := am (Kd.R_below (rz HO_332001.out) hb); have n6_ := am (Kd.R_below (rz HO336.out) hb); have n7_ := am (Kd.R_below (rz HO342.out) hb); have n8_ := bk BK306 hb; have n9_ := bk BK307 hb; have n10_ := bk BK313 hb; have n11_ := bk BK319 hb; have n12_ := bk BK330 hb; have n13_ := bk BK331 hb; have n14_ := bk BK338 hb; have n15_ := am (below_step (bw HB.out) hb); have n16_ := am (hbox); have n17_ := am ((by rw [hg]; exact (below_size (bw HB.out)) : w.heap.size ≤ gb344)); have n18_ := am ((by rw [hg]; exact (below_size (bw HB.out)) : w.heap.size ≤ gb344)); have n19_ := am ((by rw [hg]; exact Nat.ne_of_lt (blk_lt (kz BK306.out)) : gb306 ≠ gb344)); have n20_ := am ((by rw [hg]; exact Nat.ne_of_gt (blk_lt (kz BK306.out)) : gb344 ≠ gb306)); have n21_ := am ((by rw [hg]; exact Nat.ne_of_lt (blk_lt (kz BK307.out)) : gb307 ≠ gb344)); have n22_ := am ((by rw [hg]; exact Nat.ne_of_gt (blk_lt (kz BK307.out)) : gb344 ≠ gb307)); have n23_ := am ((by rw [hg]; exact Nat.ne_of_lt (blk_lt (kz BK313.out)) : gb313 ≠ gb344)); have n24_ := am ((by rw [hg]; exact Nat.ne_of_gt (blk_lt (kz BK313.out)) : gb344 ≠ gb313)); have n25_ := am ((by rw [hg]; exact Nat.ne_of_lt (blk_lt (kz BK319.out)) : gb319 ≠ gb344)); have n26_ := am ((by rw [hg]; exact Nat.ne_of_gt (blk_lt (kz BK319.out)) : gb344 ≠ gb319)); have n27_ := am ((by rw [hg]; exact Nat.ne_of_lt (blk_lt (kz BK330.out)) : gb330 ≠ gb344)); have n28_ := am ((by rw [hg]; exact Nat.ne_of_gt (blk_lt (kz BK330.out)) : gb344 ≠ gb330)); have n29_ := am ((by rw [hg]; exact Nat.ne_of_lt (blk_lt (kz BK331.out)) : gb331 ≠ gb344)); have n30_ := am ((by rw [hg]; exact Nat.ne_of_gt (blk_lt (kz BK331.out)) : gb344 ≠ gb331)); have n31_ := am ((by rw [hg]; exact Nat.ne_of_lt (blk_lt (kz BK338.out)) : gb338 ≠ gb344)); have n32_ := am ((by rw [hg]; exact Nat.ne_of_gt (blk_lt (kz BK338.out)) : gb344 ≠ gb338)); clear HO_307001 HO_308001 HO_314001 HO_320001 HO_331001 HO_332001 HO336 HO342 BK306 BK307 BK313 BK319 BK330 BK331 BK338 HB; revert n0_ n1_ n2_ n3_ n4_ n5_ n6_ n7_ n8_ n9_ n10_ n11_ n12_ n13_ n14_ n15_ n16_ n17_ n18_ n19_ n20_ n21_ n22_ n23_ n24_ n25_ n26_ n27_ n28_ n29_ n30_ n31_ n32_; intro HO_307001 HO_308001 HO_314001 HO_320001 HO_331001 HO_332001 HO336 HO342 BK306 BK307 BK313 BK319 BK330 BK331 BK338 HB BK344 GW344 GE344 NB306_344 NB344_306 NB307_344 NB344_307 NB313_344 NB344_313 NB319_344 NB344_319 NB330_344 NB344_330 NB331_344 NB344_331 NB338_344 NB344_338; clear hb hbox hg; have hnb166 := NB344_306.out; have hnc166 := NB306_344.out; have hnb167 := NB344_307.out; have hnc167 := NB307_344.out; have hnb168 := NB344_313.out; have hnc168 := NB313_344.out; have hnb169 := NB344_319.out; have hnc169 := NB319_344.out; have hnb170 := NB344_330.out; have hnc170 := NB330_344.out; have hnb171 := NB344_331.out; have hnc171 := NB331_344.out; have hnb172 := NB344_338.out; have hnc172 := NB338_344.out; have hcz173_0 := cz20 BK344.out; have hcz173_1 := cz21 BK344.out; have hfz173_0 := blk_frozen BK344.out 0; have hfz173_1 := blk_frozen BK344.out 1; obtain ⟨Ao174, co174, eo174⟩ := Kd.R_slice HO342.out; subst eo174; have hnb175 := NB307_319.out; have hnc175 := NB319_307.out; have hnb176 := NB307_331.out; have hnc176 := NB331_307.out; have hcz177_0 := cz20 BK307.out; have hcz177_1 := cz21 BK307.out; have hfz177_0 := blk_frozen BK307.out 0; have hfz177_1 := blk_frozen BK307.out 1; have hcz178_0 := cz20 BK330.out; have hcz178_1 := cz21 BK330.out; have hfz178_0 := blk_frozen BK330.out 0; have hfz178_1 := blk_frozen BK330.out 1) | ((with_reducible refine gate_callee (f := 28) rfl ?_); refine goesL_ (some 102) rfl rfl Try.func28 (by kernel_rfl) rfl #[.agg #[.int .i64 t302, .slice Ao17 t303.length co17], .agg #[.int .i64 x331000_110, .slice Ao148 x331001_110.length co148]] rfl (by (try simp only [List.map_toArray, List.map_cons, List.map_nil]); first | done | rfl | (simp only [List.length_drop, List.length_take]; rfl)) ?_; (with_reducible refine (impl_MulMatrix.calls kj110 t302 _ _ t303 x331000_110 _ _ x331001_110 t345 t346 t349 _ ?side1 ?side2 ?side3 ?side4 A126.out).mono ?_); (case side1 => refine (Kd.R_reads' (e := 3) (base := w.heap.size) (ok := fun k_ => (((NS Ao23 t309 co23 k_ ∧ (NS Ao32 t315 co32 k_ ∧ NS Ao88 t327 co88 k_)) ∧ NS Ao158 t334 co158 k_) ∧ NS Ao174 t340 co174 k_)) (n := t303.length) (c := co17) ?_).2.2; exact (r2z HO_308001 BK344 (by decide))); (case side2 => exact (Kd.R_reads' HO_308001.out).2.1); (case side3 => refine (Kd.V_reads' (e := 3) (base := w.heap.size) (ok := fun k_ => (((((NS Ao17 t303 co17 k_ ∧ (NS Ao23 t309 co23 k_ ∧ (NS Ao32 t315 co32 k_ ∧ (NS Ao88 t327 co88 k_ ∧ (k_ ≠ gb306 ∧ (k_ ≠ gb307 ∧ (k_ ≠ gb313 ∧ (k_ ≠ gb319 ∧ (k_ ≠ gb330 ∧ k_ ≠ gb331))))))))) ∧ NS Ao158 t334 co158 k_) ∧ k_ ≠ gb338) ∧ NS Ao174 t340 co174 k_) ∧ k_ ≠ gb344)) (n := x331001_110.length) (c := co148) ?_).2.2; exact (by (with_reducible repeat (first | apply Kd.V_alloc | apply Kd.V_drewN | apply Kd.V_drew)); exact (Kd.V_mono (Kd.V_far (p := ⟨gb344, 1, none⟩) (Kd.V_far (p := ⟨gb344, 0, none⟩) (Kd.V_mono HO_331001.out (fun k_ hk => (⟨hk, hk.2⟩ : _ ∧ k_ ≠ gb344))) (fun _ hk => hk.2) (.int .i64 t339)) (fun _ hk => hk.2) (.slice Ao174 t340.length co174)) (fun _ h_ => h_.1)))); (case side4 => exact (Kd.V_reads' HO_331001.out).2.1); rintro e w179 ⟨v347, rfl, ho0, hb⟩; refine ⟨_, rfl, ?_⟩; have n0_ := am (Kd.V_elder' (by (with_reducible repeat (first | apply Kd.V_alloc | apply Kd.V_drewN | apply Kd.V_drew)); exact (Kd.V_mono (Kd.V_far (p := ⟨gb344, 1, none⟩) (Kd.V_far (p := ⟨gb344, 0, none⟩) (Kd.V_mono HO_307001.out (fun k_ hk => (⟨hk, hk.2⟩ : _ ∧ k_ ≠ gb344))) (fun _ hk => hk.2) (.int .i64 t339)) (fun _ hk => hk.2) (.slice Ao174 t340.length co174)) (fun _ h_ => h_.1))) (Kd.R_base ho0) hb); have n1_ := am (Kd.R_elder' (r2z HO_308001 BK344 (by decide)) (Kd.R_base ho0) hb); have n2_ := am (Kd.R_elder' (r2z HO_314001 BK344 (by decide)) (Kd.R_base ho0) hb); have n3_ := am (Kd.R_elder' (r2z HO_320001 BK344 (by decide)) (Kd.R_base ho0) hb); have n4_ := am (Kd.V_elder' (by (with_reducible repeat (first | apply Kd.V_alloc | apply Kd.V_drewN | apply Kd.V_drew)); exact (Kd.V_mono (Kd.V_far (p := ⟨gb344, 1, none⟩) (Kd.V_far (p := ⟨gb344, 0, none⟩) (Kd.V_mono HO_331001.out (fun k_ hk => (⟨hk, hk.2⟩ : _ ∧ k_ ≠ gb344))) (fun _ hk => hk.2) (.int .i64 t339)) (fun _ hk => hk.2) (.slice Ao174 t340.length co174)) (fun _ h_ => h_.1))) (Kd.R_base ho0) hb); have n5_ := am (Kd.R_elder' (r2z HO_332001 BK344 (by decide)) (Kd.R_base ho0) hb); have n6_ := am (Kd.R_elder' (r2z HO336 BK344 (by decide)) (Kd.R_base ho0) hb); have n7_ := am (Kd.R_elder' (r2z HO342 BK344 (by decide)) (Kd.R_base ho0) hb); have n8_ := am (Kd.R_lower (Kd.R_new' (Kd.R_new' (Kd.R_new' (Kd.R_new' (Kd.R_new' (Kd.R_new' ho0 (Kd.R_lt (r2z HO_308001 BK344 (by decide)))) (Kd.R_lt (r2z HO_314001 BK344 (by decide)))) (Kd.R_lt (r2z HO_320001 BK344 (by decide)))) (Kd.R_lt (r2z HO_332001 BK344 (by decide)))) (Kd.R_lt (r2z HO336 BK344 (by decide)))) (Kd.R_lt (r2z HO342 BK344 (by decide)))) (below_size (bw HB.out))); have n9_ := am (blk_below (kf BK306.out) hb); have n10_ := am (blk_below (kf BK307.out) hb); have n11_ := am (blk_below (kf BK313.out) hb); have n12_ := am (blk_below (kf BK319.out) hb); have n13_ := am (blk_below (kf BK330.out) hb); have n14_ := am (blk_below (kf BK331.out) hb); have n15_ := am (blk_below (kf BK338.out) hb); have n16_ := am (blk_below (g := gb344) (o := .cells #[.int .i64 t339, .slice Ao174 t340.length co174] 27 (0, 0)) (by (with_reducible repeat (first | refine kn ?_ _ | refine kd ?_ | refine ka ?_ _)); refine blk_put (cs := #[.int .i64 t339, .slice none 0 0]) ?_ 1 _ rfl; (with_reducible repeat (first | refine kn ?_ _ | refine kd ?_ | refine ka ?_ _)); refine blk_put (cs := #[.int .i64 0, .slice none 0 0]) ?_ 0 _ rfl; (with_reducible repeat (first | refine kn ?_ _ | refine kd ?_ | refine ka ?_ _)); exact BK344.out) hb); have n17_ := am (below_step (bw HB.out) hb); clear HO_307001 HO_308001 HO_314001 HO_320001 HO_331001 HO_332001 HO336 HO342 BK306 BK307 BK313 BK319 BK330 BK331 BK338 BK344 HB; revert n0_ n1_ n2_ n3_ n4_ n5_ n6_ n7_ n8_ n9_ n10_ n11_ n12_ n13_ n14_ n15_ n16_ n17_; intro HO_307001 HO_308001 HO_314001 HO_320001 HO_331001 HO_332001 HO336 HO342 HO348 BK306 BK307 BK313 BK319 BK330 BK331 BK338 BK344 HB; (try clear hb); (try clear hb2); (try clear hk); (try clear hi); (try clear ho0)) | ((with_reducible refine gate_dst (N := 17) rfl ?_); (try (refine gate_guard (by rfl) ?_; dsimp only)); refine box_event ?hg (N := 17) ?hd (cs := #[.int .i64 0, .slice none 0 0]) (t := 27) ?hr ?_; (case hd => rfl); (case hg => rfl); (case hr => first | (go_simp; done) | (go_simp; rfl)); intro gb350 hg w180 hbox hb; have n0_ := am (Kd.V_below (Kd.V_elderB (by (with_reducible repeat (first | apply Kd.V_alloc | apply Kd.V_drewN | apply Kd.V_drew)); exact HO_307001.out) gb350 (Nat.le_of_eq hg.symm)) hb); have n1_ := am (Kd.R_below (rz HO_308001.out) hb); have n2_ := am (Kd.R_below (rz HO_314001.out) hb); have n3_ := am (Kd.R_below (rz HO_320001.out) hb); have n4_ := am (Kd.V_below (Kd.V_elderB (by (with_reducible repeat (first | apply Kd.V_alloc | apply Kd.V_drewN | apply Kd.V_drew)); exact HO_331001.out) gb350 (Nat.le_of_eq hg.symm)) hb); have n5_ := am (Kd.R_below (rz HO_332001.out) hb); have n6_ := am (Kd.R_below (rz HO336.out) hb); have n7_ := am (Kd.R_below (rz HO342.out) hb); have n8_ := am (Kd.R_below (rz HO348.out) hb); have n9_ := bk BK306 hb; have n10_ := bk BK307 hb; have n11_ := bk BK313 hb; have n12_ := bk BK319 hb; have n13_ := bk BK330 hb; have n14_ := bk BK331 hb; have n15_ := bk BK338 hb; have n16_ := bk BK344 hb; have n17_ := am (below_step (bw HB.out) hb); have n18_ := am (hbox); have n19_ := am ((by rw [hg]; exact (below_size (bw HB.out)) : w.heap.size ≤ gb350)); have n20_ := am ((by rw [hg]; exact (below_size (bw HB.out)) : w.heap.size ≤ gb350)); have n21_ := am ((by rw [hg]; exact Nat.ne_of_lt (blk_lt (kz BK306.out)) : gb306 ≠ gb350)); have n22_ := am ((by rw [hg]; exact Nat.ne_of_gt (blk_lt (kz BK306.out)) : gb350 ≠ gb306)); have n23_ := am ((by rw [hg]; exact Nat.ne_of_lt (blk_lt (kz BK307.out)) : gb307 ≠ gb350)); have n24_ := am ((by rw [hg]; exact Nat.ne_of_gt (blk_lt (kz BK307.out)) : gb350 ≠ gb307)); have n25_ := am ((by rw [hg]; exact Nat.ne_of_lt (blk_lt (kz BK313.out)) : gb313 ≠ gb350)); have n26_ := am ((by rw [hg]; exact Nat.ne_of_gt (blk_lt (kz BK313.out)) : gb350 ≠ gb313)); have n27_ := am ((by rw [hg]; exact Nat.ne_of_lt (blk_lt (kz BK319.out)) : gb319 ≠ gb350)); have n28_ := am ((by rw [hg]; exact Nat.ne_of_gt (blk_lt (kz BK319.out)) : gb350 ≠ gb319)); have n29_ := am ((by rw [hg]; exact Nat.ne_of_lt (blk_lt (kz BK330.out)) : gb330 ≠ gb350)); have n30_ := am ((by rw [hg]; exact Nat.ne_of_gt (blk_lt (kz BK330.out)) : gb350 ≠ gb330)); have n31_ := am ((by rw [hg]; exact Nat.ne_of_lt (blk_lt (kz BK331.out)) : gb331 ≠ gb350)); have n32_ := am ((by rw [hg]; exact Nat.ne_of_gt (blk_lt (kz BK331.out)) : gb350 ≠ gb331)); have n33_ := am ((by rw [hg]; exact Nat.ne_of_lt (blk_lt (kz BK338.out)) : gb338 ≠ gb350)); have n34_ := am ((by rw [hg]; exact Nat.ne_of_gt (blk_lt (kz BK338.out)) : gb350 ≠ gb338)); have n35_ := am ((by rw [hg]; exact Nat.ne_of_lt (blk_lt (kz BK344.out)) : gb344 ≠ gb350)); have n36_ := am ((by rw [hg]; exact Nat.ne_of_gt (blk_lt (kz BK344.out)) : gb350 ≠ gb344)); clear HO_307001 HO_308001 HO_314001 HO_320001 HO_331001 HO_332001 HO336 HO342 HO348 BK306 BK307 BK313 BK319 BK330 BK331 BK338 BK344 HB; revert n0_ n1_ n2_ n3_ n4_ n5_ n6_ n7_ n8_ n9_ n10_ n11_ n12_ n13_ n14_ n15_ n16_ n17_ n18_ n19_ n20_ n21_ n22_ n23_ n24_ n25_ n26_ n27_ n28_ n29_ n30_ n31_ n32_ n33_ n34_ n35_ n36_; intro HO_307001 HO_308001 HO_314001 HO_320001 HO_331001 HO_332001 HO336 HO342 HO348 BK306 BK307 BK313 BK319 BK330 BK331 BK338 BK344 HB BK350 GW350 GE350 NB306_350 NB350_306 NB307_350 NB350_307 NB313_350 NB350_313 NB319_350 NB350_319 NB330_350 NB350_330 NB331_350 NB350_331 NB338_350 NB350_338 NB344_350 NB350_344; clear hb hbox hg; have hnb181 := NB350_306.out; have hnc181 := NB306_350.out; have hnb182 := NB350_307.out; have hnc182 := NB307_350.out; have hnb183 := NB350_313.out; have hnc183 := NB313_350.out; have hnb184 := NB350_319.out; have hnc184 := NB319_350.out; have hnb185 := NB350_330.out; have hnc185 := NB330_350.out; have hnb186 := NB350_331.out; have hnc186 := NB331_350.out; have hnb187 := NB350_338.out; have hnc187 := NB338_350.out; have hnb188 := NB350_344.out; have hnc188 := NB344_350.out; have hcz189_0 := cz20 BK350.out; have hcz189_1 := cz21 BK350.out; have hfz189_0 := blk_frozen BK350.out 0; have hfz189_1 := blk_frozen BK350.out 1; obtain ⟨Ao190, co190, eo190⟩ := Kd.R_slice HO348.out; subst eo190; have hcz191_0 := cz20 BK344.out; have hcz191_1 := cz21 BK344.out; have hfz191_0 := blk_frozen BK344.out 0; have hfz191_1 := blk_frozen BK344.out 1) | ((with_reducible refine gate_callee (f := 26) rfl ?_); refine goesL_ (some 108) rfl rfl Try.func26 (by kernel_rfl) rfl #[.agg #[.int .i64 t339, .slice Ao174 t340.length co174], .agg #[.int .i64 t345, .slice Ao190 t346.length co190]] rfl (by (try simp only [List.map_toArray, List.map_cons, List.map_nil]); first | done | rfl | (simp only [List.length_drop, List.length_take]; rfl)) ?_; (with_reducible refine (impl_MinMatrix.calls kj110 t339 _ _ t340 t345 _ _ t346 t351 t352 t355 _ ?side1 ?side2 ?side3 ?side4 A127.out).mono ?_); (case side1 => refine (Kd.R_reads' (e := 3) (base := w.heap.size) (ok := fun k_ => ((((((True ∧ NS Ao17 t303 co17 k_) ∧ NS Ao23 t309 co23 k_) ∧ NS Ao32 t315 co32 k_) ∧ NS Ao88 t327 co88 k_) ∧ NS Ao158 t334 co158 k_) ∧ NS Ao190 t346 co190 k_)) (n := t340.length) (c := co174) ?_).2.2; exact (r2z HO342 BK350 (by decide))); (case side2 => exact (Kd.R_reads' HO342.out).2.1); (case side3 => refine (Kd.R_reads' (e := 3) (base := w.heap.size) (ok := fun k_ => ((((((True ∧ NS Ao17 t303 co17 k_) ∧ NS Ao23 t309 co23 k_) ∧ NS Ao32 t315 co32 k_) ∧ NS Ao88 t327 co88 k_) ∧ NS Ao158 t334 co158 k_) ∧ NS Ao174 t340 co174 k_)) (n := t346.length) (c := co190) ?_).2.2; exact (r2z HO348 BK350 (by decide))); (case side4 => exact (Kd.R_reads' HO348.out).2.1); rintro e w192 ⟨v353, rfl, ho0, hb⟩; refine ⟨_, rfl, ?_⟩; have n0_ := am (Kd.V_elder' (by (with_reducible repeat (first | apply Kd.V_alloc | apply Kd.V_drewN | apply Kd.V_drew)); exact (Kd.V_mono (Kd.V_far (p := ⟨gb350, 1, none⟩) (Kd.V_far (p := ⟨gb350, 0, none⟩) (Kd.V_mono HO_307001.out (fun k_ hk => (⟨hk, hk.2⟩ : _ ∧ k_ ≠ gb350))) (fun _ hk => hk.2) (.int .i64 t345)) (fun _ hk => hk.2) (.slice Ao190 t346.length co190)) (fun _ h_ => h_.1))) (Kd.R_base ho0) hb); have n1_ := am (Kd.R_elder' (r2z HO_308001 BK350 (by decide)) (Kd.R_base ho0) hb); have n2_ := am (Kd.R_elder' (r2z HO_314001 BK350 (by decide)) (Kd.R_base ho0) hb); have n3_ := am (Kd.R_elder' (r2z HO_320001 BK350 (by decide)) (Kd.R_base ho0) hb); have n4_ := am (Kd.V_elder' (by (with_reducible repeat (first | apply Kd.V_alloc | apply Kd.V_drewN | apply Kd.V_drew)); exact (Kd.V_mono (Kd.V_far (p := ⟨gb350, 1, none⟩) (Kd.V_far (p := ⟨gb350, 0, none⟩) (Kd.V_mono HO_331001.out (fun k_ hk => (⟨hk, hk.2⟩ : _ ∧ k_ ≠ gb350))) (fun _ hk => hk.2) (.int .i64 t345)) (fun _ hk => hk.2) (.slice Ao190 t346.length co190)) (fun _ h_ => h_.1))) (Kd.R_base ho0) hb); have n5_ := am (Kd.R_elder' (r2z HO_332001 BK350 (by decide)) (Kd.R_base ho0) hb); have n6_ := am (Kd.R_elder' (r2z HO336 BK350 (by decide)) (Kd.R_base ho0) hb); have n7_ := am (Kd.R_elder' (r2z HO342 BK350 (by decide)) (Kd.R_base ho0) hb); have n8_ := am (Kd.R_elder' (r2z HO348 BK350 (by decide)) (Kd.R_base ho0) hb); have n9_ := am (Kd.R_lower (Kd.R_new' (Kd.R_new' (Kd.R_new' (Kd.R_new' (Kd.R_new' (Kd.R_new' (Kd.R_new' ho0 (Kd.R_lt (r2z HO_308001 BK350 (by decide)))) (Kd.R_lt (r2z HO_314001 BK350 (by decide)))) (Kd.R_lt (r2z HO_320001 BK350 (by decide)))) (Kd.R_lt (r2z HO_332001 BK350 (by decide)))) (Kd.R_lt (r2z HO336 BK350 (by decide)))) (Kd.R_lt (r2z HO342 BK350 (by decide)))) (Kd.R_lt (r2z HO348 BK350 (by decide)))) (below_size (bw HB.out))); have n10_ := am (blk_below (kf BK306.out) hb); have n11_ := am (blk_below (kf BK307.out) hb); have n12_ := am (blk_below (kf BK313.out) hb); have n13_ := am (blk_below (kf BK319.out) hb); have n14_ := am (blk_below (kf BK330.out) hb); have n15_ := am (blk_below (kf BK331.out) hb); have n16_ := am (blk_below (kf BK338.out) hb); have n17_ := am (blk_below (kf BK344.out) hb); have n18_ := am (blk_below (g := gb350) (o := .cells #[.int .i64 t345, .slice Ao190 t346.length co190] 27 (0, 0)) (by (with_reducible repeat (first | refine kn ?_ _ | refine kd ?_ | refine ka ?_ _)); refine blk_put (cs := #[.int .i64 t345, .slice none 0 0]) ?_ 1 _ rfl; (with_reducible repeat (first | refine kn ?_ _ | refine kd ?_ | refine ka ?_ _)); refine blk_put (cs := #[.int .i64 0, .slice none 0 0]) ?_ 0 _ rfl; (with_reducible repeat (first | refine kn ?_ _ | refine kd ?_ | refine ka ?_ _)); exact BK350.out) hb); have n19_ := am (below_step (bw HB.out) hb); clear HO_307001 HO_308001 HO_314001 HO_320001 HO_331001 HO_332001 HO336 HO342 HO348 BK306 BK307 BK313 BK319 BK330 BK331 BK338 BK344 BK350 HB; revert n0_ n1_ n2_ n3_ n4_ n5_ n6_ n7_ n8_ n9_ n10_ n11_ n12_ n13_ n14_ n15_ n16_ n17_ n18_ n19_; intro HO_307001 HO_308001 HO_314001 HO_320001 HO_331001 HO_332001 HO336 HO342 HO348 HO354 BK306 BK307 BK313 BK319 BK330 BK331 BK338 BK344 BK350 HB; (try clear hb); (try clear hb2); (try clear hk); (try clear hi); (try clear ho0)) | ((with_reducible refine gate_dst (N := 19) rfl ?_); (try (refine gate_guard (by rfl) ?_; dsimp only)); refine box_event ?hg (N := 19) ?hd (cs := #[.int .i64 0, .slice none 0 0]) (t := 27) ?hr ?_; (case hd => rfl); (case hg => rfl); (case hr => first | (go_simp; done) | (go_simp; rfl)); intro gb356 hg w193 hbox hb; have n0_ := am (Kd.V_below (Kd.V_elderB (by (with_reducible repeat (first | apply Kd.V_alloc | apply Kd.V_drewN | apply Kd.V_drew)); exact HO_307001.out) gb356 (Nat.le_of_eq hg.symm)) hb); have n1_ := am (Kd.R_below (rz HO_308001.out) hb); have n2_ := am (Kd.R_below (rz HO_314001.out) hb); have n3_ := am (Kd.R_below (rz HO_320001.out) hb); have n4_ := am (Kd.V_below (Kd.V_elderB (by (with_reducible repeat (first | apply Kd.V_alloc | apply Kd.V_drewN | apply Kd.V_drew)); exact HO_331001.out) gb356 (Nat.le_of_eq hg.symm)) hb); have n5_ := am (Kd.R_below (rz HO_332001.out) hb); have n6_ := am (Kd.R_below (rz HO336.out) hb); have n7_ := am (Kd.R_below (rz HO342.out) hb); have n8_ := am (Kd.R_below (rz HO348.out) hb); have n9_ := am (Kd.R_below (rz HO354.out) hb); have n10_ := bk BK306 hb; have n11_ := bk BK307 hb; have n12_ := bk BK313 hb; have n13_ := bk BK319 hb; have n14_ := bk BK330 hb; have n15_ := bk BK331 hb; have n16_ := bk BK338 hb; have n17_ := bk BK344 hb; have n18_ := bk BK350 hb; have n19_ := am (below_step (bw HB.out) hb); have n20_ := am (hbox); have n21_ := am ((by rw [hg]; exact (below_size (bw HB.out)) : w.heap.size ≤ gb356)); have n22_ := am ((by rw [hg]; exact (below_size (bw HB.out)) : w.heap.size ≤ gb356)); have n23_ := am ((by rw [hg]; exact Nat.ne_of_lt (blk_lt (kz BK306.out)) : gb306 ≠ gb356)); have n24_ := am ((by rw [hg]; exact Nat.ne_of_gt (blk_lt (kz BK306.out)) : gb356 ≠ gb306)); have n25_ := am ((by rw [hg]; exact Nat.ne_of_lt (blk_lt (kz BK307.out)) : gb307 ≠ gb356)); have n26_ := am ((by rw [hg]; exact Nat.ne_of_gt (blk_lt (kz BK307.out)) : gb356 ≠ gb307)); have n27_ := am ((by rw [hg]; exact Nat.ne_of_lt (blk_lt (kz BK313.out)) : gb313 ≠ gb356)); have n28_ := am ((by rw [hg]; exact Nat.ne_of_gt (blk_lt (kz BK313.out)) : gb356 ≠ gb313)); have n29_ := am ((by rw [hg]; exact Nat.ne_of_lt (blk_lt (kz BK319.out)) : gb319 ≠ gb356)); have n30_ := am ((by rw [hg]; exact Nat.ne_of_gt (blk_lt (kz BK319.out)) : gb356 ≠ gb319)); have n31_ := am ((by rw [hg]; exact Nat.ne_of_lt (blk_lt (kz BK330.out)) : gb330 ≠ gb356)); have n32_ := am ((by rw [hg]; exact Nat.ne_of_gt (blk_lt (kz BK330.out)) : gb356 ≠ gb330)); have n33_ := am ((by rw [hg]; exact Nat.ne_of_lt (blk_lt (kz BK331.out)) : gb331 ≠ gb356)); have n34_ := am ((by rw [hg]; exact Nat.ne_of_gt (blk_lt (kz BK331.out)) : gb356 ≠ gb331)); have n35_ := am ((by rw [hg]; exact Nat.ne_of_lt (blk_lt (kz BK338.out)) : gb338 ≠ gb356)); have n36_ := am ((by rw [hg]; exact Nat.ne_of_gt (blk_lt (kz BK338.out)) : gb356 ≠ gb338)); have n37_ := am ((by rw [hg]; exact Nat.ne_of_lt (blk_lt (kz BK344.out)) : gb344 ≠ gb356)); have n38_ := am ((by rw [hg]; exact Nat.ne_of_gt (blk_lt (kz BK344.out)) : gb356 ≠ gb344)); have n39_ := am ((by rw [hg]; exact Nat.ne_of_lt (blk_lt (kz BK350.out)) : gb350 ≠ gb356)); have n40_ := am ((by rw [hg]; exact Nat.ne_of_gt (blk_lt (kz BK350.out)) : gb356 ≠ gb350)); clear HO_307001 HO_308001 HO_314001 HO_320001 HO_331001 HO_332001 HO336 HO342 HO348 HO354 BK306 BK307 BK313 BK319 BK330 BK331 BK338 BK344 BK350 HB; revert n0_ n1_ n2_ n3_ n4_ n5_ n6_ n7_ n8_ n9_ n10_ n11_ n12_ n13_ n14_ n15_ n16_ n17_ n18_ n19_ n20_ n21_ n22_ n23_ n24_ n25_ n26_ n27_ n28_ n29_ n30_ n31_ n32_ n33_ n34_ n35_ n36_ n37_ n38_ n39_ n40_; intro HO_307001 HO_308001 HO_314001 HO_320001 HO_331001 HO_332001 HO336 HO342 HO348 HO354 BK306 BK307 BK313 BK319 BK330 BK331 BK338 BK344 BK350 HB BK356 GW356 GE356 NB306_356 NB356_306 NB307_356 NB356_307 NB313_356 NB356_313 NB319_356 NB356_319 NB330_356 NB356_330 NB331_356 NB356_331 NB338_356 NB356_338 NB344_356 NB356_344 NB350_356 NB356_350; clear hb hbox hg; have hnb194 := NB356_306.out; have hnc194 := NB306_356.out; have hnb195 := NB356_307.out; have hnc195 := NB307_356.out; have hnb196 := NB356_313.out; have hnc196 := NB313_356.out; have hnb197 := NB356_319.out; have hnc197 := NB319_356.out; have hnb198 := NB356_330.out; have hnc198 := NB330_356.out; have hnb199 := NB356_331.out; have hnc199 := NB331_356.out; have hnb200 := NB356_338.out; have hnc200 := NB338_356.out; have hnb201 := NB356_344.out; have hnc201 := NB344_356.out; have hnb202 := NB356_350.out; have hnc202 := NB350_356.out; have hcz203_0 := cz20 BK356.out; have hcz203_1 := cz21 BK356.out; have hfz203_0 := blk_frozen BK356.out 0; have hfz203_1 := blk_frozen BK356.out 1; obtain ⟨Ao204, co204, eo204⟩ := Kd.R_slice HO354.out; subst eo204; have hcz205_0 := cz20 BK307.out; have hcz205_1 := cz21 BK307.out; have hfz205_0 := blk_frozen BK307.out 0; have hfz205_1 := blk_frozen BK307.out 1; have hcz206_0 := cz20 BK306.out; have hcz206_1 := cz21 BK306.out; have hfz206_0 := blk_frozen BK306.out 0; have hfz206_1 := blk_frozen BK306.out 1) | ((with_reducible refine gate_callee (f := 26) rfl ?_); refine goesL_ (some 114) rfl rfl Try.func26 (by kernel_rfl) rfl #[.agg #[.int .i64 t302, .slice Ao17 t303.length co17], .agg #[.int .i64 t298, .slice Ao15 t299.length co15]] rfl (by (try simp only [List.map_toArray, List.map_cons, List.map_nil]); first | done | rfl | (simp only [List.length_drop, List.length_take]; rfl)) ?_; (with_reducible refine (impl_MinMatrix.calls kj110 t302 _ _ t303 t298 _ _ t299 t357 t358 t361 _ ?side1 ?side2 ?side3 ?side4 A128.out).mono ?_); (case side1 => refine (Kd.R_reads' (e := 3) (base := w.heap.size) (ok := fun k_ => (((((NS Ao23 t309 co23 k_ ∧ (NS Ao32 t315 co32 k_ ∧ NS Ao88 t327 co88 k_)) ∧ NS Ao158 t334 co158 k_) ∧ NS Ao174 t340 co174 k_) ∧ NS Ao190 t346 co190 k_) ∧ NS Ao204 t352 co204 k_)) (n := t303.length) (c := co17) ?_).2.2; exact (r2z HO_308001 BK356 (by decide))); (case side2 => exact (Kd.R_reads' HO_308001.out).2.1); (case side3 => refine (Kd.V_reads' (e := 3) (base := w.heap.size) (ok := fun k_ => (((((((((NS Ao17 t303 co17 k_ ∧ (NS Ao23 t309 co23 k_ ∧ (NS Ao32 t315 co32 k_ ∧ (NS Ao88 t327 co88 k_ ∧ (k_ ≠ gb306 ∧ (k_ ≠ gb307 ∧ (k_ ≠ gb313 ∧ (k_ ≠ gb319 ∧ (k_ ≠ gb330 ∧ k_ ≠ gb331))))))))) ∧ NS Ao158 t334 co158 k_) ∧ k_ ≠ gb338) ∧ NS Ao174 t340 co174 k_) ∧ k_ ≠ gb344) ∧ NS Ao190 t346 co190 k_) ∧ k_ ≠ gb350) ∧ NS Ao204 t352 co204 k_) ∧ k_ ≠ gb356)) (n := t299.length) (c := co15) ?_).2.2; exact (by (with_reducible repeat (first | apply Kd.V_alloc | apply Kd.V_drewN | apply Kd.V_drew)); exact (Kd.V_mono (Kd.V_far (p := ⟨gb356, 1, none⟩) (Kd.V_far (p := ⟨gb356, 0, none⟩) (Kd.V_mono HO_307001.out (fun k_ hk => (⟨hk, hk.2⟩ : _ ∧ k_ ≠ gb356))) (fun _ hk => hk.2) (.int .i64 t351)) (fun _ hk => hk.2) (.slice Ao204 t352.length co204)) (fun _ h_ => h_.1)))); (case side4 => exact (Kd.V_reads' HO_307001.out).2.1); rintro e w207 ⟨v359, rfl, ho0, hb⟩; refine ⟨_, rfl, ?_⟩; have n0_ := am (Kd.V_elder' (by (with_reducible repeat (first | apply Kd.V_alloc | apply Kd.V_drewN | apply Kd.V_drew)); exact (Kd.V_mono (Kd.V_far (p := ⟨gb356, 1, none⟩) (Kd.V_far (p := ⟨gb356, 0, none⟩) (Kd.V_mono HO_307001.out (fun k_ hk => (⟨hk, hk.2⟩ : _ ∧ k_ ≠ gb356))) (fun _ hk => hk.2) (.int .i64 t351)) (fun _ hk => hk.2) (.slice Ao204 t352.length co204)) (fun _ h_ => h_.1))) (Kd.R_base ho0) hb); have n1_ := am (Kd.R_elder' (r2z HO_308001 BK356 (by decide)) (Kd.R_base ho0) hb); have n2_ := am (Kd.R_elder' (r2z HO_314001 BK356 (by decide)) (Kd.R_base ho0) hb); have n3_ := am (Kd.R_elder' (r2z HO_320001 BK356 (by decide)) (Kd.R_base ho0) hb); have n4_ := am (Kd.V_elder' (by (with_reducible repeat (first | apply Kd.V_alloc | apply Kd.V_drewN | apply Kd.V_drew)); exact (Kd.V_mono (Kd.V_far (p := ⟨gb356, 1, none⟩) (Kd.V_far (p := ⟨gb356, 0, none⟩) (Kd.V_mono HO_331001.out (fun k_ hk => (⟨hk, hk.2⟩ : _ ∧ k_ ≠ gb356))) (fun _ hk => hk.2) (.int .i64 t351)) (fun _ hk => hk.2) (.slice Ao204 t352.length co204)) (fun _ h_ => h_.1))) (Kd.R_base ho0) hb); have n5_ := am (Kd.R_elder' (r2z HO_332001 BK356 (by decide)) (Kd.R_base ho0) hb); have n6_ := am (Kd.R_elder' (r2z HO336 BK356 (by decide)) (Kd.R_base ho0) hb); have n7_ := am (Kd.R_elder' (r2z HO342 BK356 (by decide)) (Kd.R_base ho0) hb); have n8_ := am (Kd.R_elder' (r2z HO348 BK356 (by decide)) (Kd.R_base ho0) hb); have n9_ := am (Kd.R_elder' (r2z HO354 BK356 (by decide)) (Kd.R_base ho0) hb); have n10_ := am (Kd.R_lower (Kd.R_new' (Kd.R_new' (Kd.R_new' (Kd.R_new' (Kd.R_new' (Kd.R_new' (Kd.R_new' (Kd.R_new' ho0 (Kd.R_lt (r2z HO_308001 BK356 (by decide)))) (Kd.R_lt (r2z HO_314001 BK356 (by decide)))) (Kd.R_lt (r2z HO_320001 BK356 (by decide)))) (Kd.R_lt (r2z HO_332001 BK356 (by decide)))) (Kd.R_lt (r2z HO336 BK356 (by decide)))) (Kd.R_lt (r2z HO342 BK356 (by decide)))) (Kd.R_lt (r2z HO348 BK356 (by decide)))) (Kd.R_lt (r2z HO354 BK356 (by decide)))) (below_size (bw HB.out))); have n11_ := am (blk_below (kf BK306.out) hb); have n12_ := am (blk_below (kf BK307.out) hb); have n13_ := am (blk_below (kf BK313.out) hb); have n14_ := am (blk_below (kf BK319.out) hb); have n15_ := am (blk_below (kf BK330.out) hb); have n16_ := am (blk_below (kf BK331.out) hb); have n17_ := am (blk_below (kf BK338.out) hb); have n18_ := am (blk_below (kf BK344.out) hb); have n19_ := am (blk_below (kf BK350.out) hb); have n20_ := am (blk_below (g := gb356) (o := .cells #[.int .i64 t351, .slice Ao204 t352.length co204] 27 (0, 0)) (by (with_reducible repeat (first | refine kn ?_ _ | refine kd ?_ | refine ka ?_ _)); refine blk_put (cs := #[.int .i64 t351, .slice none 0 0]) ?_ 1 _ rfl; (with_reducible repeat (first | refine kn ?_ _ | refine kd ?_ | refine ka ?_ _)); refine blk_put (cs := #[.int .i64 0, .slice none 0 0]) ?_ 0 _ rfl; (with_reducible repeat (first | refine kn ?_ _ | refine kd ?_ | refine ka ?_ _)); exact BK356.out) hb); have n21_ := am (below_step (bw HB.out) hb); clear HO_307001 HO_308001 HO_314001 HO_320001 HO_331001 HO_332001 HO336 HO342 HO348 HO354 BK306 BK307 BK313 BK319 BK330 BK331 BK338 BK344 BK350 BK356 HB; revert n0_ n1_ n2_ n3_ n4_ n5_ n6_ n7_ n8_ n9_ n10_ n11_ n12_ n13_ n14_ n15_ n16_ n17_ n18_ n19_ n20_ n21_; intro HO_307001 HO_308001 HO_314001 HO_320001 HO_331001 HO_332001 HO336 HO342 HO348 HO354 HO360 BK306 BK307 BK313 BK319 BK330 BK331 BK338 BK344 BK350 BK356 HB; (try clear hb); (try clear hb2); (try clear hk); (try clear hi); (try clear ho0)) | ((with_reducible refine gate_dst (N := 21) rfl ?_); (try (refine gate_guard (by rfl) ?_; dsimp only)); refine box_event ?hg (N := 21) ?hd (cs := #[.int .i64 0, .slice none 0 0]) (t := 27) ?hr ?_; (case hd => rfl); (case hg => rfl); (case hr => first | (go_simp; done) | (go_simp; rfl)); intro gb362 hg w208 hbox hb; have n0_ := am (Kd.V_below (Kd.V_elderB (by (with_reducible repeat (first | apply Kd.V_alloc | apply Kd.V_drewN | apply Kd.V_drew)); exact HO_307001.out) gb362 (Nat.le_of_eq hg.symm)) hb); have n1_ := am (Kd.R_below (rz HO_308001.out) hb); have n2_ := am (Kd.R_below (rz HO_314001.out) hb); have n3_ := am (Kd.R_below (rz HO_320001.out) hb); have n4_ := am (Kd.V_below (Kd.V_elderB (by (with_reducible repeat (first | apply Kd.V_alloc | apply Kd.V_drewN | apply Kd.V_drew)); exact HO_331001.out) gb362 (Nat.le_of_eq hg.symm)) hb); have n5_ := am (Kd.R_below (rz HO_332001.out) hb); have n6_ := am (Kd.R_below (rz HO336.out) hb); have n7_ := am (Kd.R_below (rz HO342.out) hb); have n8_ := am (Kd.R_below (rz HO348.out) hb); have n9_ := am (Kd.R_below (rz HO354.out) hb); have n10_ := am (Kd.R_below (rz HO360.out) hb); have n11_ := bk BK306 hb; have n12_ := bk BK307 hb; have n13_ := bk BK313 hb; have n14_ := bk BK319 hb; have n15_ := bk BK330 hb; have n16_ := bk BK331 hb; have n17_ := bk BK338 hb; have n18_ := bk BK344 hb; have n19_ := bk BK350 hb; have n20_ := bk BK356 hb; have n21_ := am (below_step (bw HB.out) hb); have n22_ := am (hbox); have n23_ := am ((by rw [hg]; exact (below_size (bw HB.out)) : w.heap.size ≤ gb362)); have n24_ := am ((by rw [hg]; exact (below_size (bw HB.out)) : w.heap.size ≤ gb362)); have n25_ := am ((by rw [hg]; exact Nat.ne_of_lt (blk_lt (kz BK306.out)) : gb306 ≠ gb362)); have n26_ := am ((by rw [hg]; exact Nat.ne_of_gt (blk_lt (kz BK306.out)) : gb362 ≠ gb306)); have n27_ := am ((by rw [hg]; exact Nat.ne_of_lt (blk_lt (kz BK307.out)) : gb307 ≠ gb362)); have n28_ := am ((by rw [hg]; exact Nat.ne_of_gt (blk_lt (kz BK307.out)) : gb362 ≠ gb307)); have n29_ := am ((by rw [hg]; exact Nat.ne_of_lt (blk_lt (kz BK313.out)) : gb313 ≠ gb362)); have n30_ := am ((by rw [hg]; exact Nat.ne_of_gt (blk_lt (kz BK313.out)) : gb362 ≠ gb313)); have n31_ := am ((by rw [hg]; exact Nat.ne_of_lt (blk_lt (kz BK319.out)) : gb319 ≠ gb362)); have n32_ := am ((by rw [hg]; exact Nat.ne_of_gt (blk_lt (kz BK319.out)) : gb362 ≠ gb319)); have n33_ := am ((by rw [hg]; exact Nat.ne_of_lt (blk_lt (kz BK330.out)) : gb330 ≠ gb362)); have n34_ := am ((by rw [hg]; exact Nat.ne_of_gt (blk_lt (kz BK330.out)) : gb362 ≠ gb330)); have n35_ := am ((by rw [hg]; exact Nat.ne_of_lt (blk_lt (kz BK331.out)) : gb331 ≠ gb362)); have n36_ := am ((by rw [hg]; exact Nat.ne_of_gt (blk_lt (kz BK331.out)) : gb362 ≠ gb331)); have n37_ := am ((by rw [hg]; exact Nat.ne_of_lt (blk_lt (kz BK338.out)) : gb338 ≠ gb362)); have n38_ := am ((by rw [hg]; exact Nat.ne_of_gt (blk_lt (kz BK338.out)) : gb362 ≠ gb338)); have n39_ := am ((by rw [hg]; exact Nat.ne_of_lt (blk_lt (kz BK344.out)) : gb344 ≠ gb362)); have n40_ := am ((by rw [hg]; exact Nat.ne_of_gt (blk_lt (kz BK344.out)) : gb362 ≠ gb344)); have n41_ := am ((by rw [hg]; exact Nat.ne_of_lt (blk_lt (kz BK350.out)) : gb350 ≠ gb362)); have n42_ := am ((by rw [hg]; exact Nat.ne_of_gt (blk_lt (kz BK350.out)) : gb362 ≠ gb350)); have n43_ := am ((by rw [hg]; exact Nat.ne_of_lt (blk_lt (kz BK356.out)) : gb356 ≠ gb362)); have n44_ := am ((by rw [hg]; exact Nat.ne_of_gt (blk_lt (kz BK356.out)) : gb362 ≠ gb356)); clear HO_307001 HO_308001 HO_314001 HO_320001 HO_331001 HO_332001 HO336 HO342 HO348 HO354 HO360 BK306 BK307 BK313 BK319 BK330 BK331 BK338 BK344 BK350 BK356 HB; revert n0_ n1_ n2_ n3_ n4_ n5_ n6_ n7_ n8_ n9_ n10_ n11_ n12_ n13_ n14_ n15_ n16_ n17_ n18_ n19_ n20_ n21_ n22_ n23_ n24_ n25_ n26_ n27_ n28_ n29_ n30_ n31_ n32_ n33_ n34_ n35_ n36_ n37_ n38_ n39_ n40_ n41_ n42_ n43_ n44_; intro HO_307001 HO_308001 HO_314001 HO_320001 HO_331001 HO_332001 HO336 HO342 HO348 HO354 HO360 BK306 BK307 BK313 BK319 BK330 BK331 BK338 BK344 BK350 BK356 HB BK362 GW362 GE362 NB306_362 NB362_306 NB307_362 NB362_307 NB313_362 NB362_313 NB319_362 NB362_319 NB330_362 NB362_330 NB331_362 NB362_331 NB338_362 NB362_338 NB344_362 NB362_344 NB350_362 NB362_350 NB356_362 NB362_356; clear hb hbox hg; have hnb209 := NB362_306.out; have hnc209 := NB306_362.out; have hnb210 := NB362_307.out; have hnc210 := NB307_362.out; have hnb211 := NB362_313.out; have hnc211 := NB313_362.out; have hnb212 := NB362_319.out; have hnc212 := NB319_362.out; have hnb213 := NB362_330.out; have hnc213 := NB330_362.out; have hnb214 := NB362_331.out; have hnc214 := NB331_362.out; have hnb215 := NB362_338.out; have hnc215 := NB338_362.out; have hnb216 := NB362_344.out; have hnc216 := NB344_362.out; have hnb217 := NB362_350.out; have hnc217 := NB350_362.out; have hnb218 := NB362_356.out; have hnc218 := NB356_362.out; have hcz219_0 := cz20 BK362.out; have hcz219_1 := cz21 BK362.out; have hfz219_0 := blk_frozen BK362.out 0; have hfz219_1 := blk_frozen BK362.out 1; obtain ⟨Ao220, co220, eo220⟩ := Kd.R_slice HO360.out; subst eo220; have hcz221_0 := cz20 BK313.out; have hcz221_1 := cz21 BK313.out; have hfz221_0 := blk_frozen BK313.out 0; have hfz221_1 := blk_frozen BK313.out 1; have hcz222_0 := cz20 BK306.out; have hcz222_1 := cz21 BK306.out; have hfz222_0 := blk_frozen BK306.out 0; have hfz222_1 := blk_frozen BK306.out 1) | ((with_reducible refine gate_callee (f := 26) rfl ?_); refine goesL_ (some 120) rfl rfl Try.func26 (by kernel_rfl) rfl #[.agg #[.int .i64 t308, .slice Ao23 t309.length co23], .agg #[.int .i64 t298, .slice Ao15 t299.length co15]] rfl (by (try simp only [List.map_toArray, List.map_cons, List.map_nil]); first | done | rfl | (simp only [List.length_drop, List.length_take]; rfl)) ?_; (with_reducible refine (impl_MinMatrix.calls kj110 t308 _ _ t309 t298 _ _ t299 t363 t364 t367 _ ?side1 ?side2 ?side3 ?side4 A129.out).mono ?_); (case side1 => refine (Kd.R_reads' (e := 3) (base := w.heap.size) (ok := fun k_ => ((((((NS Ao17 t303 co17 k_ ∧ (NS Ao32 t315 co32 k_ ∧ NS Ao88 t327 co88 k_)) ∧ NS Ao158 t334 co158 k_) ∧ NS Ao174 t340 co174 k_) ∧ NS Ao190 t346 co190 k_) ∧ NS Ao204 t352 co204 k_) ∧ NS Ao220 t358 co220 k_)) (n := t309.length) (c := co23) ?_).2.2; exact (r2z HO_314001 BK362 (by decide))); (case side2 => exact (Kd.R_reads' HO_314001.out).2.1); (case side3 => refine (Kd.V_reads' (e := 3) (base := w.heap.size) (ok := fun k_ => (((((((((((NS Ao17 t303 co17 k_ ∧ (NS Ao23 t309 co23 k_ ∧ (NS Ao32 t315 co32 k_ ∧ (NS Ao88 t327 co88 k_ ∧ (k_ ≠ gb306 ∧ (k_ ≠ gb307 ∧ (k_ ≠ gb313 ∧ (k_ ≠ gb319 ∧ (k_ ≠ gb330 ∧ k_ ≠ gb331))))))))) ∧ NS Ao158 t334 co158 k_) ∧ k_ ≠ gb338) ∧ NS Ao174 t340 co174 k_) ∧ k_ ≠ gb344) ∧ NS Ao190 t346 co190 k_) ∧ k_ ≠ gb350) ∧ NS Ao204 t352 co204 k_) ∧ k_ ≠ gb356) ∧ NS Ao220 t358 co220 k_) ∧ k_ ≠ gb362)) (n := t299.length) (c := co15) ?_).2.2; exact (by (with_reducible repeat (first | apply Kd.V_alloc | apply Kd.V_drewN | apply Kd.V_drew)); exact (Kd.V_mono (Kd.V_far (p := ⟨gb362, 1, none⟩) (Kd.V_far (p := ⟨gb362, 0, none⟩) (Kd.V_mono HO_307001.out (fun k_ hk => (⟨hk, hk.2⟩ : _ ∧ k_ ≠ gb362))) (fun _ hk => hk.2) (.int .i64 t357)) (fun _ hk => hk.2) (.slice Ao220 t358.length co220)) (fun _ h_ => h_.1)))); (case side4 => exact (Kd.V_reads' HO_307001.out).2.1); rintro e w223 ⟨v365, rfl, ho0, hb⟩; refine ⟨_, rfl, ?_⟩; have n0_ := am (Kd.V_elder' (by (with_reducible repeat (first | apply Kd.V_alloc | apply Kd.V_drewN | apply Kd.V_drew)); exact (Kd.V_mono (Kd.V_far (p := ⟨gb362, 1, none⟩) (Kd.V_far (p := ⟨gb362, 0, none⟩) (Kd.V_mono HO_307001.out (fun k_ hk => (⟨hk, hk.2⟩ : _ ∧ k_ ≠ gb362))) (fun _ hk => hk.2) (.int .i64 t357)) (fun _ hk => hk.2) (.slice Ao220 t358.length co220)) (fun _ h_ => h_.1))) (Kd.R_base ho0) hb); have n1_ := am (Kd.R_elder' (r2z HO_308001 BK362 (by decide)) (Kd.R_base ho0) hb); have n2_ := am (Kd.R_elder' (r2z HO_314001 BK362 (by decide)) (Kd.R_base ho0) hb); have n3_ := am (Kd.R_elder' (r2z HO_320001 BK362 (by decide)) (Kd.R_base ho0) hb); have n4_ := am (Kd.V_elder' (by (with_reducible repeat (first | apply Kd.V_alloc | apply Kd.V_drewN | apply Kd.V_drew)); exact (Kd.V_mono (Kd.V_far (p := ⟨gb362, 1, none⟩) (Kd.V_far (p := ⟨gb362, 0, none⟩) (Kd.V_mono HO_331001.out (fun k_ hk => (⟨hk, hk.2⟩ : _ ∧ k_ ≠ gb362))) (fun _ hk => hk.2) (.int .i64 t357)) (fun _ hk => hk.2) (.slice Ao220 t358.length co220)) (fun _ h_ => h_.1))) (Kd.R_base ho0) hb); have n5_ := am (Kd.R_elder' (r2z HO_332001 BK362 (by decide)) (Kd.R_base ho0) hb); have n6_ := am (Kd.R_elder' (r2z HO336 BK362 (by decide)) (Kd.R_base ho0) hb); have n7_ := am (Kd.R_elder' (r2z HO342 BK362 (by decide)) (Kd.R_base ho0) hb); have n8_ := am (Kd.R_elder' (r2z HO348 BK362 (by decide)) (Kd.R_base ho0) hb); have n9_ := am (Kd.R_elder' (r2z HO354 BK362 (by decide)) (Kd.R_base ho0) hb); have n10_ := am (Kd.R_elder' (r2z HO360 BK362 (by decide)) (Kd.R_base ho0) hb); have n11_ := am (Kd.R_lower (Kd.R_new' (Kd.R_new' (Kd.R_new' (Kd.R_new' (Kd.R_new' (Kd.R_new' (Kd.R_new' (Kd.R_new' (Kd.R_new' ho0 (Kd.R_lt (r2z HO_308001 BK362 (by decide)))) (Kd.R_lt (r2z HO_314001 BK362 (by decide)))) (Kd.R_lt (r2z HO_320001 BK362 (by decide)))) (Kd.R_lt (r2z HO_332001 BK362 (by decide)))) (Kd.R_lt (r2z HO336 BK362 (by decide)))) (Kd.R_lt (r2z HO342 BK362 (by decide)))) (Kd.R_lt (r2z HO348 BK362 (by decide)))) (Kd.R_lt (r2z HO354 BK362 (by decide)))) (Kd.R_lt (r2z HO360 BK362 (by decide)))) (below_size (bw HB.out))); have n12_ := am (blk_below (kf BK306.out) hb); have n13_ := am (blk_below (kf BK307.out) hb); have n14_ := am (blk_below (kf BK313.out) hb); have n15_ := am (blk_below (kf BK319.out) hb); have n16_ := am (blk_below (kf BK330.out) hb); have n17_ := am (blk_below (kf BK331.out) hb); have n18_ := am (blk_below (kf BK338.out) hb); have n19_ := am (blk_below (kf BK344.out) hb); have n20_ := am (blk_below (kf BK350.out) hb); have n21_ := am (blk_below (kf BK356.out) hb); have n22_ := am (blk_below (g := gb362) (o := .cells #[.int .i64 t357, .slice Ao220 t358.length co220] 27 (0, 0)) (by (with_reducible repeat (first | refine kn ?_ _ | refine kd ?_ | refine ka ?_ _)); refine blk_put (cs := #[.int .i64 t357, .slice none 0 0]) ?_ 1 _ rfl; (with_reducible repeat (first | refine kn ?_ _ | refine kd ?_ | refine ka ?_ _)); refine blk_put (cs := #[.int .i64 0, .slice none 0 0]) ?_ 0 _ rfl; (with_reducible repeat (first | refine kn ?_ _ | refine kd ?_ | refine ka ?_ _)); exact BK362.out) hb); have n23_ := am (below_step (bw HB.out) hb); clear HO_307001 HO_308001 HO_314001 HO_320001 HO_331001 HO_332001 HO336 HO342 HO348 HO354 HO360 BK306 BK307 BK313 BK319 BK330 BK331 BK338 BK344 BK350 BK356 BK362 HB; revert n0_ n1_ n2_ n3_ n4_ n5_ n6_ n7_ n8_ n9_ n10_ n11_ n12_ n13_ n14_ n15_ n16_ n17_ n18_ n19_ n20_ n21_ n22_ n23_; intro HO_307001 HO_308001 HO_314001 HO_320001 HO_331001 HO_332001 HO336 HO342 HO348 HO354 HO360 HO366 BK306 BK307 BK313 BK319 BK330 BK331 BK338 BK344 BK350 BK356 BK362 HB; (try clear hb); (try clear hb2); (try clear hk); (try clear hi); (try clear ho0)) | ((with_reducible refine gate_dst (N := 23) rfl ?_); (try (refine gate_guard (by rfl) ?_; dsimp only)); refine box_event ?hg (N := 23) ?hd (cs := #[.int .i64 0, .slice none 0 0]) (t := 27) ?hr ?_; (case hd => rfl); (case hg => rfl); (case hr => first | (go_simp; done) | (go_simp; rfl)); intro gb368 hg w224 hbox hb; have n0_ := am (Kd.V_below (Kd.V_elderB (by (with_reducible repeat (first | apply Kd.V_alloc | apply Kd.V_drewN | apply Kd.V_drew)); exact HO_307001.out) gb368 (Nat.le_of_eq hg.symm)) hb); have n1_ := am (Kd.R_below (rz HO_308001.out) hb); have n2_ := am (Kd.R_below (rz HO_314001.out) hb); have n3_ := am (Kd.R_below (rz HO_320001.out) hb); have n4_ := am (Kd.V_below (Kd.V_elderB (by (with_reducible repeat (first | apply Kd.V_alloc | apply Kd.V_drewN | apply Kd.V_drew)); exact HO_331001.out) gb368 (Nat.le_of_eq hg.symm)) hb); have n5_ := am (Kd.R_below (rz HO_332001.out) hb); have n6_ := am (Kd.R_below (rz HO336.out) hb); have n7_ := am (Kd.R_below (rz HO342.out) hb); have n8_ := am (Kd.R_below (rz HO348.out) hb); have n9_ := am (Kd.R_below (rz HO354.out) hb); have n10_ := am (Kd.R_below (rz HO360.out) hb); have n11_ := am (Kd.R_below (rz HO366.out) hb); have n12_ := bk BK306 hb; have n13_ := bk BK307 hb; have n14_ := bk BK313 hb; have n15_ := bk BK319 hb; have n16_ := bk BK330 hb; have n17_ := bk BK331 hb; have n18_ := bk BK338 hb; have n19_ := bk BK344 hb; have n20_ := bk BK350 hb; have n21_ := bk BK356 hb; have n22_ := bk BK362 hb; have n23_ := am (below_step (bw HB.out) hb); have n24_ := am (hbox); have n25_ := am ((by rw [hg]; exact (below_size (bw HB.out)) : w.heap.size ≤ gb368)); have n26_ := am ((by rw [hg]; exact (below_size (bw HB.out)) : w.heap.size ≤ gb368)); have n27_ := am ((by rw [hg]; exact Nat.ne_of_lt (blk_lt (kz BK306.out)) : gb306 ≠ gb368)); have n28_ := am ((by rw [hg]; exact Nat.ne_of_gt (blk_lt (kz BK306.out)) : gb368 ≠ gb306)); have n29_ := am ((by rw [hg]; exact Nat.ne_of_lt (blk_lt (kz BK307.out)) : gb307 ≠ gb368)); have n30_ := am ((by rw [hg]; exact Nat.ne_of_gt (blk_lt (kz BK307.out)) : gb368 ≠ gb307)); have n31_ := am ((by rw [hg]; exact Nat.ne_of_lt (blk_lt (kz BK313.out)) : gb313 ≠ gb368)); have n32_ := am ((by rw [hg]; exact Nat.ne_of_gt (blk_lt (kz BK313.out)) : gb368 ≠ gb313)); have n33_ := am ((by rw [hg]; exact Nat.ne_of_lt (blk_lt (kz BK319.out)) : gb319 ≠ gb368)); have n34_ := am ((by rw [hg]; exact Nat.ne_of_gt (blk_lt (kz BK319.out)) : gb368 ≠ gb319)); have n35_ := am ((by rw [hg]; exact Nat.ne_of_lt (blk_lt (kz BK330.out)) : gb330 ≠ gb368)); have n36_ := am ((by rw [hg]; exact Nat.ne_of_gt (blk_lt (kz BK330.out)) : gb368 ≠ gb330)); have n37_ := am ((by rw [hg]; exact Nat.ne_of_lt (blk_lt (kz BK331.out)) : gb331 ≠ gb368)); have n38_ := am ((by rw [hg]; exact Nat.ne_of_gt (blk_lt (kz BK331.out)) : gb368 ≠ gb331)); have n39_ := am ((by rw [hg]; exact Nat.ne_of_lt (blk_lt (kz BK338.out)) : gb338 ≠ gb368)); have n40_ := am ((by rw [hg]; exact Nat.ne_of_gt (blk_lt (kz BK338.out)) : gb368 ≠ gb338)); have n41_ := am ((by rw [hg]; exact Nat.ne_of_lt (blk_lt (kz BK344.out)) : gb344 ≠ gb368)); have n42_ := am ((by rw [hg]; exact Nat.ne_of_gt (blk_lt (kz BK344.out)) : gb368 ≠ gb344)); have n43_ := am ((by rw [hg]; exact Nat.ne_of_lt (blk_lt (kz BK350.out)) : gb350 ≠ gb368)); have n44_ := am ((by rw [hg]; exact Nat.ne_of_gt (blk_lt (kz BK350.out)) : gb368 ≠ gb350)); have n45_ := am ((by rw [hg]; exact Nat.ne_of_lt (blk_lt (kz BK356.out)) : gb356 ≠ gb368)); have n46_ := am ((by rw [hg]; exact Nat.ne_of_gt (blk_lt (kz BK356.out)) : gb368 ≠ gb356)); have n47_ := am ((by rw [hg]; exact Nat.ne_of_lt (blk_lt (kz BK362.out)) : gb362 ≠ gb368)); have n48_ := am ((by rw [hg]; exact Nat.ne_of_gt (blk_lt (kz BK362.out)) : gb368 ≠ gb362)); clear HO_307001 HO_308001 HO_314001 HO_320001 HO_331001 HO_332001 HO336 HO342 HO348 HO354 HO360 HO366 BK306 BK307 BK313 BK319 BK330 BK331 BK338 BK344 BK350 BK356 BK362 HB; revert n0_ n1_ n2_ n3_ n4_ n5_ n6_ n7_ n8_ n9_ n10_ n11_ n12_ n13_ n14_ n15_ n16_ n17_ n18_ n19_ n20_ n21_ n22_ n23_ n24_ n25_ n26_ n27_ n28_ n29_ n30_ n31_ n32_ n33_ n34_ n35_ n36_ n37_ n38_ n39_ n40_ n41_ n42_ n43_ n44_ n45_ n46_ n47_ n48_; intro HO_307001 HO_308001 HO_314001 HO_320001 HO_331001 HO_332001 HO336 HO342 HO348 HO354 HO360 HO366 BK306 BK307 BK313 BK319 BK330 BK331 BK338 BK344 BK350 BK356 BK362 HB BK368 GW368 GE368 NB306_368 NB368_306 NB307_368 NB368_307 NB313_368 NB368_313 NB319_368 NB368_319 NB330_368 NB368_330 NB331_368 NB368_331 NB338_368 NB368_338 NB344_368 NB368_344 NB350_368 NB368_350 NB356_368 NB368_356 NB362_368 NB368_362; clear hb hbox hg; have hnb225 := NB368_306.out; have hnc225 := NB306_368.out; have hnb226 := NB368_307.out; have hnc226 := NB307_368.out; have hnb227 := NB368_313.out; have hnc227 := NB313_368.out; have hnb228 := NB368_319.out; have hnc228 := NB319_368.out; have hnb229 := NB368_330.out; have hnc229 := NB330_368.out; have hnb230 := NB368_331.out; have hnc230 := NB331_368.out; have hnb231 := NB368_338.out; have hnc231 := NB338_368.out; have hnb232 := NB368_344.out; have hnc232 := NB344_368.out; have hnb233 := NB368_350.out; have hnc233 := NB350_368.out; have hnb234 := NB368_356.out; have hnc234 := NB356_368.out; have hnb235 := NB368_362.out; have hnc235 := NB362_368.out; have hcz236_0 := cz20 BK368.out; have hcz236_1 := cz21 BK368.out; have hfz236_0 := blk_frozen BK368.out 0; have hfz236_1 := blk_frozen BK368.out 1; obtain ⟨Ao237, co237, eo237⟩ := Kd.R_slice HO366.out; subst eo237; have hcz238_0 := cz20 BK338.out; have hcz238_1 := cz21 BK338.out; have hfz238_0 := blk_frozen BK338.out 0; have hfz238_1 := blk_frozen BK338.out 1; have hcz239_0 := cz20 BK356.out; have hcz239_1 := cz21 BK356.out; have hfz239_0 := blk_frozen BK356.out 0; have hfz239_1 := blk_frozen BK356.out 1) | ((with_reducible refine gate_callee (f := 30) rfl ?_); refine goesL_ (some 125) rfl rfl Try.func30 (by kernel_rfl) rfl #[.agg #[.int .i64 t333, .slice Ao158 t334.length co158], .agg #[.int .i64 t351, .slice Ao204 t352.length co204]] rfl (by (try simp only [List.map_toArray, List.map_cons, List.map_nil]); first | done | rfl | (simp only [List.length_drop, List.length_take]; rfl)) ?_; (with_reducible refine (laws_daMatrix.calls kj110 t333 _ _ t334 t351 _ _ t352 true _ ?side1 ?side2 ?side3 ?side4 A130.out).mono ?_); (case side1 => refine (Kd.R_reads' (e := 3) (base := w.heap.size) (ok := fun k_ => (((((((((True ∧ NS Ao17 t303 co17 k_) ∧ NS Ao23 t309 co23 k_) ∧ NS Ao32 t315 co32 k_) ∧ NS Ao88 t327 co88 k_) ∧ NS Ao174 t340 co174 k_) ∧ NS Ao190 t346 co190 k_) ∧ NS Ao204 t352 co204 k_) ∧ NS Ao220 t358 co220 k_) ∧ NS Ao237 t364 co237 k_)) (n := t334.length) (c := co158) ?_).2.2; exact (r2z HO336 BK368 (by decide))); (case side2 => exact (Kd.R_reads' HO336.out).2.1); (case side3 => refine (Kd.R_reads' (e := 3) (base := w.heap.size) (ok := fun k_ => (((((((((True ∧ NS Ao17 t303 co17 k_) ∧ NS Ao23 t309 co23 k_) ∧ NS Ao32 t315 co32 k_) ∧ NS Ao88 t327 co88 k_) ∧ NS Ao158 t334 co158 k_) ∧ NS Ao174 t340 co174 k_) ∧ NS Ao190 t346 co190 k_) ∧ NS Ao220 t358 co220 k_) ∧ NS Ao237 t364 co237 k_)) (n := t352.length) (c := co204) ?_).2.2; exact (r2z HO354 BK368 (by decide))); (case side4 => exact (Kd.R_reads' HO354.out).2.1); rintro e w240 ⟨rfl, hb⟩; refine ⟨_, rfl, ?_⟩; have n0_ := am (Kd.V_below (by (with_reducible repeat (first | apply Kd.V_alloc | apply Kd.V_drewN | apply Kd.V_drew)); exact (Kd.V_mono (Kd.V_far (p := ⟨gb368, 1, none⟩) (Kd.V_far (p := ⟨gb368, 0, none⟩) (Kd.V_mono HO_307001.out (fun k_ hk => (⟨hk, hk.2⟩ : _ ∧ k_ ≠ gb368))) (fun _ hk => hk.2) (.int .i64 t363)) (fun _ hk => hk.2) (.slice Ao237 t364.length co237)) (fun _ h_ => h_.1))) hb); have n1_ := am (Kd.R_below (r2z HO_308001 BK368 (by decide)) hb); have n2_ := am (Kd.R_below (r2z HO_314001 BK368 (by decide)) hb); have n3_ := am (Kd.R_below (r2z HO_320001 BK368 (by decide)) hb); have n4_ := am (Kd.V_below (by (with_reducible repeat (first | apply Kd.V_alloc | apply Kd.V_drewN | apply Kd.V_drew)); exact (Kd.V_mono (Kd.V_far (p := ⟨gb368, 1, none⟩) (Kd.V_far (p := ⟨gb368, 0, none⟩) (Kd.V_mono HO_331001.out (fun k_ hk => (⟨hk, hk.2⟩ : _ ∧ k_ ≠ gb368))) (fun _ hk => hk.2) (.int .i64 t363)) (fun _ hk => hk.2) (.slice Ao237 t364.length co237)) (fun _ h_ => h_.1))) hb); have n5_ := am (Kd.R_below (r2z HO_332001 BK368 (by decide)) hb); have n6_ := am (Kd.R_below (r2z HO336 BK368 (by decide)) hb); have n7_ := am (Kd.R_below (r2z HO342 BK368 (by decide)) hb); have n8_ := am (Kd.R_below (r2z HO348 BK368 (by decide)) hb); have n9_ := am (Kd.R_below (r2z HO354 BK368 (by decide)) hb); have n10_ := am (Kd.R_below (r2z HO360 BK368 (by decide)) hb); have n11_ := am (Kd.R_below (r2z HO366 BK368 (by decide)) hb); have n12_ := am (blk_below (kf BK306.out) hb); have n13_ := am (blk_below (kf BK307.out) hb); have n14_ := am (blk_below (kf BK313.out) hb); have n15_ := am (blk_below (kf BK319.out) hb); have n16_ := am (blk_below (kf BK330.out) hb); have n17_ := am (blk_below (kf BK331.out) hb); have n18_ := am (blk_below (kf BK338.out) hb); have n19_ := am (blk_below (kf BK344.out) hb); have n20_ := am (blk_below (kf BK350.out) hb); have n21_ := am (blk_below (kf BK356.out) hb); have n22_ := am (blk_below (kf BK362.out) hb); have n23_ := am (blk_below (g := gb368) (o := .cells #[.int .i64 t363, .slice Ao237 t364.length co237] 27 (0, 0)) (by (with_reducible repeat (first | refine kn ?_ _ | refine kd ?_ | refine ka ?_ _)); refine blk_put (cs := #[.int .i64 t363, .slice none 0 0]) ?_ 1 _ rfl; (with_reducible repeat (first | refine kn ?_ _ | refine kd ?_ | refine ka ?_ _)); refine blk_put (cs := #[.int .i64 0, .slice none 0 0]) ?_ 0 _ rfl; (with_reducible repeat (first | refine kn ?_ _ | refine kd ?_ | refine ka ?_ _)); exact BK368.out) hb); have n24_ := am (below_step (bw HB.out) hb); clear HO_307001 HO_308001 HO_314001 HO_320001 HO_331001 HO_332001 HO336 HO342 HO348 HO354 HO360 HO366 BK306 BK307 BK313 BK319 BK330 BK331 BK338 BK344 BK350 BK356 BK362 BK368 HB; revert n0_ n1_ n2_ n3_ n4_ n5_ n6_ n7_ n8_ n9_ n10_ n11_ n12_ n13_ n14_ n15_ n16_ n17_ n18_ n19_ n20_ n21_ n22_ n23_ n24_; intro HO_307001 HO_308001 HO_314001 HO_320001 HO_331001 HO_332001 HO336 HO342 HO348 HO354 HO360 HO366 BK306 BK307 BK313 BK319 BK330 BK331 BK338 BK344 BK350 BK356 BK362 BK368 HB; (try clear hb); (try clear hb2); (try clear hk); (try clear hi); have hcz241_0 := cz20 BK362.out; have hcz241_1 := cz21 BK362.out; have hfz241_0 := blk_frozen BK362.out 0; have hfz241_1 := blk_frozen BK362.out 1; have hcz242_0 := cz20 BK313.out; have hcz242_1 := cz21 BK313.out; have hfz242_0 := blk_frozen BK313.out 0; have hfz242_1 := blk_frozen BK313.out 1) | (go_at_call 30; (with_reducible refine (laws_daMatrix.calls kj110 t357 _ _ t358 t308 _ _ t309 true _ ?side1 ?side2 ?side3 ?side4 A132.out).mono ?_); (case side1 => repeat (first | exact (Kd.R_reads' HO360.out).2.2 | (with_reducible refine Kd.C_alloc ?_ _) | (with_reducible refine Kd.C_drewN ?_ _) | (with_reducible refine Kd.C_drew ?_))); (case side2 => exact (Kd.R_reads' HO360.out).2.1); (case side3 => repeat (first | exact (Kd.R_reads' HO_314001.out).2.2 | (with_reducible refine Kd.C_alloc ?_ _) | (with_reducible refine Kd.C_drewN ?_ _) | (with_reducible refine Kd.C_drew ?_))); (case side4 => exact (Kd.R_reads' HO_314001.out).2.1); rintro e w243 ⟨rfl, hb⟩; have n0_ := am (Kd.V_below (by (with_reducible repeat (first | apply Kd.V_alloc | apply Kd.V_drewN | apply Kd.V_drew)); exact HO_307001.out) hb); have n1_ := am (Kd.R_below (rz HO_308001.out) hb); have n2_ := am (Kd.R_below (rz HO_314001.out) hb); have n3_ := am (Kd.R_below (rz HO_320001.out) hb); have n4_ := am (Kd.V_below (by (with_reducible repeat (first | apply Kd.V_alloc | apply Kd.V_drewN | apply Kd.V_drew)); exact HO_331001.out) hb); have n5_ := am (Kd.R_below (rz HO_332001.out) hb); have n6_ := am (Kd.R_below (rz HO336.out) hb); have n7_ := am (Kd.R_below (rz HO342.out) hb); have n8_ := am (Kd.R_below (rz HO348.out) hb); have n9_ := am (Kd.R_below (rz HO354.out) hb); have n10_ := am (Kd.R_below (rz HO360.out) hb); have n11_ := am (Kd.R_below (rz HO366.out) hb); have n12_ := bk BK306 hb; have n13_ := bk BK307 hb; have n14_ := bk BK313 hb; have n15_ := bk BK319 hb; have n16_ := bk BK330 hb; have n17_ := bk BK331 hb; have n18_ := bk BK338 hb; have n19_ := bk BK344 hb; have n20_ := bk BK350 hb; have n21_ := bk BK356 hb; have n22_ := bk BK362 hb; have n23_ := bk BK368 hb; have n24_ := am (below_step (bw HB.out) hb); clear HO_307001 HO_308001 HO_314001 HO_320001 HO_331001 HO_332001 HO336 HO342 HO348 HO354 HO360 HO366 BK306 BK307 BK313 BK319 BK330 BK331 BK338 BK344 BK350 BK356 BK362 BK368 HB; revert n0_ n1_ n2_ n3_ n4_ n5_ n6_ n7_ n8_ n9_ n10_ n11_ n12_ n13_ n14_ n15_ n16_ n17_ n18_ n19_ n20_ n21_ n22_ n23_ n24_; intro HO_307001 HO_308001 HO_314001 HO_320001 HO_331001 HO_332001 HO336 HO342 HO348 HO354 HO360 HO366 BK306 BK307 BK313 BK319 BK330 BK331 BK338 BK344 BK350 BK356 BK362 BK368 HB; (try clear hb); (try clear hb2); (try clear hk); (try clear hi); have hcz244_0 := cz20 BK368.out; have hcz244_1 := cz21 BK368.out; have hfz244_0 := blk_frozen BK368.out 0; have hfz244_1 := blk_frozen BK368.out 1; have hcz245_0 := cz20 BK313.out; have hcz245_1 := cz21 BK313.out; have hfz245_0 := blk_frozen BK313.out 0; have hfz245_1 := blk_frozen BK313.out 1) | (go_at_call 30; (with_reducible refine (laws_daMatrix.calls kj110 t363 _ _ t364 t308 _ _ t309 true _ ?side1 ?side2 ?side3 ?side4 A134.out).mono ?_); (case side1 => repeat (first | exact (Kd.R_reads' HO366.out).2.2 | (with_reducible refine Kd.C_alloc ?_ _) | (with_reducible refine Kd.C_drewN ?_ _) | (with_reducible refine Kd.C_drew ?_))); (case side2 => exact (Kd.R_reads' HO366.out).2.1); (case side3 => repeat (first | exact (Kd.R_reads' HO_314001.out).2.2 | (with_reducible refine Kd.C_alloc ?_ _) | (with_reducible refine Kd.C_drewN ?_ _) | (with_reducible refine Kd.C_drew ?_))); (case side4 => exact (Kd.R_reads' HO_314001.out).2.1); rintro e w246 ⟨rfl, hb⟩; have n0_ := am (Kd.V_below (by (with_reducible repeat (first | apply Kd.V_alloc | apply Kd.V_drewN | apply Kd.V_drew)); exact HO_307001.out) hb); have n1_ := am (Kd.R_below (rz HO_308001.out) hb); have n2_ := am (Kd.R_below (rz HO_314001.out) hb); have n3_ := am (Kd.R_below (rz HO_320001.out) hb); have n4_ := am (Kd.V_below (by (with_reducible repeat (first | apply Kd.V_alloc | apply Kd.V_drewN | apply Kd.V_drew)); exact HO_331001.out) hb); have n5_ := am (Kd.R_below (rz HO_332001.out) hb); have n6_ := am (Kd.R_below (rz HO336.out) hb); have n7_ := am (Kd.R_below (rz HO342.out) hb); have n8_ := am (Kd.R_below (rz HO348.out) hb); have n9_ := am (Kd.R_below (rz HO354.out) hb); have n10_ := am (Kd.R_below (rz HO360.out) hb); have n11_ := am (Kd.R_below (rz HO366.out) hb); have n12_ := bk BK306 hb; have n13_ := bk BK307 hb; have n14_ := bk BK313 hb; have n15_ := bk BK319 hb; have n16_ := bk BK330 hb; have n17_ := bk BK331 hb; have n18_ := bk BK338 hb; have n19_ := bk BK344 hb; have n20_ := bk BK350 hb; have n21_ := bk BK356 hb; have n22_ := bk BK362 hb; have n23_ := bk BK368 hb; have n24_ := am (below_step (bw HB.out) hb); clear HO_307001 HO_308001 HO_314001 HO_320001 HO_331001 HO_332001 HO336 HO342 HO348 HO354 HO360 HO366 BK306 BK307 BK313 BK319 BK330 BK331 BK338 BK344 BK350 BK356 BK362 BK368 HB; revert n0_ n1_ n2_ n3_ n4_ n5_ n6_ n7_ n8_ n9_ n10_ n11_ n12_ n13_ n14_ n15_ n16_ n17_ n18_ n19_ n20_ n21_ n22_ n23_ n24_; intro HO_307001 HO_308001 HO_314001 HO_320001 HO_331001 HO_332001 HO336 HO342 HO348 HO354 HO360 HO366 BK306 BK307 BK313 BK319 BK330 BK331 BK338 BK344 BK350 BK356 BK362 BK368 HB; (try clear hb); (try clear hb2); (try clear hk); (try clear hi); have hcz247_0 := cz20 BK313.out; have hcz247_1 := cz21 BK313.out; have hfz247_0 := blk_frozen BK313.out 0; have hfz247_1 := blk_frozen BK313.out 1) | (go_at_call 17; (with_reducible refine (impl_MatrixValid.calls kj110 t308 _ _ t309 t372 _ ?side1 ?side2 A136.out).mono ?_); (case side1 => repeat (first | exact (Kd.R_reads' HO_314001.out).2.2 | (with_reducible refine Kd.C_alloc ?_ _) | (with_reducible refine Kd.C_drewN ?_ _) | (with_reducible refine Kd.C_drew ?_))); (case side2 => exact (Kd.R_reads' HO_314001.out).2.1); rintro e w248 ⟨rfl, hb⟩; have n0_ := am (Kd.V_below (by (with_reducible repeat (first | apply Kd.V_alloc | apply Kd.V_drewN | apply Kd.V_drew)); exact HO_307001.out) hb); have n1_ := am (Kd.R_below (rz HO_308001.out) hb); have n2_ := am (Kd.R_below (rz HO_314001.out) hb); have n3_ := am (Kd.R_below (rz HO_320001.out) hb); have n4_ := am (Kd.V_below (by (with_reducible repeat (first | apply Kd.V_alloc | apply Kd.V_drewN | apply Kd.V_drew)); exact HO_331001.out) hb); have n5_ := am (Kd.R_below (rz HO_332001.out) hb); have n6_ := am (Kd.R_below (rz HO336.out) hb); have n7_ := am (Kd.R_below (rz HO342.out) hb); have n8_ := am (Kd.R_below (rz HO348.out) hb); have n9_ := am (Kd.R_below (rz HO354.out) hb); have n10_ := am (Kd.R_below (rz HO360.out) hb); have n11_ := am (Kd.R_below (rz HO366.out) hb); have n12_ := bk BK306 hb; have n13_ := bk BK307 hb; have n14_ := bk BK313 hb; have n15_ := bk BK319 hb; have n16_ := bk BK330 hb; have n17_ := bk BK331 hb; have n18_ := bk BK338 hb; have n19_ := bk BK344 hb; have n20_ := bk BK350 hb; have n21_ := bk BK356 hb; have n22_ := bk BK362 hb; have n23_ := bk BK368 hb; have n24_ := am (below_step (bw HB.out) hb); clear HO_307001 HO_308001 HO_314001 HO_320001 HO_331001 HO_332001 HO336 HO342 HO348 HO354 HO360 HO366 BK306 BK307 BK313 BK319 BK330 BK331 BK338 BK344 BK350 BK356 BK362 BK368 HB; revert n0_ n1_ n2_ n3_ n4_ n5_ n6_ n7_ n8_ n9_ n10_ n11_ n12_ n13_ n14_ n15_ n16_ n17_ n18_ n19_ n20_ n21_ n22_ n23_ n24_; intro HO_307001 HO_308001 HO_314001 HO_320001 HO_331001 HO_332001 HO336 HO342 HO348 HO354 HO360 HO366 BK306 BK307 BK313 BK319 BK330 BK331 BK338 BK344 BK350 BK356 BK362 BK368 HB; (try clear hb); (try clear hb2); (try clear hk); (try clear hi)))
              go_ret
              exact ⟨by first | rfl | (simp [errW_none, errW_some] <;> rfl) | (simp [*, errW_none, errW_some] <;> rfl), by exact bw HB.out⟩
             ·replace c135 := Bool.eq_false_iff.mpr c135
              subst c135
              have H1 : (none) = some r := by rw [if_neg (show ¬ (false = true) by decide)] at H; exact H
              clear H
              have H := H1
              clear H1
              exact absurd H (by simp)
            ·replace c133 := Bool.eq_false_iff.mpr c133
             subst c133
             have H1 : (none) = some r := by rw [if_neg (show ¬ (false = true) by decide)] at H; exact H
             clear H
             have H := H1
             clear H1
             exact absurd H (by simp)
           ·replace c131 := Bool.eq_false_iff.mpr c131
            subst c131
            have H1 : (none) = some r := by rw [if_neg (show ¬ (false = true) by decide)] at H; exact H
            clear H
            have H := H1
            clear H1
            exact absurd H (by simp)

/-- THE ONE PURE STATEMENT of laws_FnMinMatrix. -/
def laws_FnMinMatrix.Pure : Prop := ∀ (l0 : List Int) (l1 : List Int), l0.length ≤ maxLen → l0.length * 1 ≤ 140737488351232 → (∀ x ∈ l0, (Lit.int .u8 x).wf = true) → l1.length ≤ maxLen → l1.length * 1 ≤ 140737488351232 → (∀ x ∈ l1, (Lit.int .u8 x).wf = true) → ∃ k, laws_FnMinMatrix.f k l0 l1 = some true
theorem laws_FnMinMatrix.walk (P : laws_FnMinMatrix.Pure) (a0 : Option Addr) (len0 cap0 : Nat) (z0 : List Int) (a1 : Option Addr) (len1 cap1 : Nat) (z1 : List Int) (w : World) (w0 : (a0 = none ∧ len0 = 0 ∧ cap0 = 0 ∧ z0 = []) ∨ ∃ x, a0 = some x ∧ len0 ≤ cap0 ∧ cap0 ≤ maxLen ∧ z0.length = cap0 ∧ (∀ i, i < z0.length → w.cell? (x.add i) = some (.int .u8 (z0.getD i 0))) ∧ ∀ n ∈ z0, (Lit.int .u8 n).wf = true) (y0 : len0 * 1 ≤ 140737488351232) (w1 : (a1 = none ∧ len1 = 0 ∧ cap1 = 0 ∧ z1 = []) ∨ ∃ x, a1 = some x ∧ len1 ≤ cap1 ∧ cap1 ≤ maxLen ∧ z1.length = cap1 ∧ (∀ i, i < z1.length → w.cell? (x.add i) = some (.int .u8 (z1.getD i 0))) ∧ ∀ n ∈ z1, (Lit.int .u8 n).wf = true) (y1 : len1 * 1 ≤ 140737488351232) :
  Calls Try.prog 8 #[.slice a0 len0 cap0, .slice a1 len1 cap1] w fun e w' => e = .returned (.bool true) ∧ Below w.heap.size w w' := by
 obtain ⟨l0, rfl, hr0, hm0, hw0, hc0⟩ := ReadsInt.ofRowC w0
 obtain ⟨l1, rfl, hr1, hm1, hw1, hc1⟩ := ReadsInt.ofRowC w1
 obtain ⟨k, h⟩ := P l0 l1 hm0 y0 hw0 hm1 y1 hw1
 refine (laws_FnMinMatrix.calls k _ _ l0 _ _ l1 true w (Kd.C_of_reads (d := (0 : Int)) (h1 := fun _ => rfl) hr0) hc0 (Kd.C_of_reads (d := (0 : Int)) (h1 := fun _ => rfl) hr1) hc1 h).mono ?_
 rintro e w' ⟨rfl, hd⟩
 exact ⟨rfl, hd⟩

end Go.Proofs.Ythojienhgeiknaa.PFnMinMatrix
