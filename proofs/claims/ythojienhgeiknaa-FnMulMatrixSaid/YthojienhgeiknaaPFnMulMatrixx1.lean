-- Written by a program (wip/myprint.py): the machine side of one law: each function that it reaches, as a plain function, and the proof that a call comes to just that.
import Derived.Test.YthojienhgeiknaaPFnMulMatrixx0
namespace Go.Proofs.Ythojienhgeiknaa.PFnMulMatrix
open Go.RowKit Go.Proofs.YthojienhgeiknaaW.PrintWords Go.Proofs.YthojienhgeiknaaW.PrintLast Go.Proofs.YthojienhgeiknaaW.PrintMore
attribute [local go_sem] max2_int min2_int max_two min_two max_three min_three max_four min_four   -- for this text's walks alone
set_option linter.unusedVariables false
set_option linter.unusedSimpArgs false

-- NOT PRINTED: function 67 (slices_IndexFunc_int_int)

-- NOT PRINTED: function 42 (slices_ContainsFunc_int_int)

/-! ### impl_CostValid: function 44 -/
def impl_CostValid.f (a0 : Int) : Option (Bool) := if a0 ≥ 0 then (some (decide (a0 ≤ 1000000))) else (some false)
set_option maxHeartbeats 8000000 in
set_option maxRecDepth 100000 in
theorem impl_CostValid.calls (a0 : Int) (r : Bool) (w : World) (h : impl_CostValid.f a0 = some r) :
  Calls Try.prog 44 #[.int .i64 a0] w fun e w' => e = .returned (.bool r) ∧ Drawn0 w w' := by
 have H : (if a0 ≥ 0 then (some (decide (a0 ≤ 1000000))) else (some false)) = some r := h; clear h; by_cases c2 : a0 ≥ 0
 ·rw [if_pos c2] at H; have c2b0 : decide (0 ≤ a0) = true := decide_eq_true c2; clear c2; obtain rfl := Option.some.inj H; go_enter Try.func44, Try.ntmps44; go_wp2; go_ret; exact ⟨by first | rfl | (simp; done) | (simp [*]; done), by repeat (first | exact Drawn0.refl _ | apply Drawn0.step)⟩
 ·rw [if_neg c2] at H; have c2b0 : decide (0 ≤ a0) = false := decide_eq_false c2; clear c2; obtain rfl := Option.some.inj H; go_enter Try.func44, Try.ntmps44; go_wp2; go_ret; exact ⟨by first | rfl | (simp; done) | (simp [*]; done), by repeat (first | exact Drawn0.refl _ | apply Drawn0.step)⟩

/-! ### impl_MatrixValid_1: function 43 -/
def impl_MatrixValid_1.f (a0 : Int) : Option (Bool) := (impl_CostValid.f a0).bind fun t101 => (some (!t101))
set_option maxHeartbeats 8000000 in
set_option maxRecDepth 100000 in
theorem impl_MatrixValid_1.calls (a0 : Int) (r : Bool) (w : World) (h : impl_MatrixValid_1.f a0 = some r) :
  Calls Try.prog 43 #[.int .i64 a0] w fun e w' => e = .returned (.bool r) ∧ Drawn0 w w' := by
 have H : ((impl_CostValid.f a0).bind fun t101 => (some (!t101))) = some r := h; clear h; replace H := Option.bind_eq_some_iff.mp H; obtain ⟨t101, A20, H⟩ := H; (try dsimp only at H); have A2 := am A20; clear A20; obtain rfl := Option.some.inj H; go_enter Try.func43, Try.ntmps43; go_wp2_with (first | ((with_reducible refine gy 44 rfl ?_); refine gl Try.func44 #[.int .i64 a0] ?_; (with_reducible refine (impl_CostValid.calls a0 t101 _ A2.out).mono ?_); rintro e w' ⟨rfl, ⟨nd, rfl⟩⟩; refine ⟨_, rfl, ?_⟩)); go_ret; exact ⟨by first | rfl | (simp; done) | (simp [*]; done), by repeat (first | exact Drawn0.refl _ | apply Drawn0.step)⟩

/-! ### slices_IndexFunc_int_int_at_impl_MatrixValid_1: function 200001 -/
def slices_IndexFunc_int_int_at_impl_MatrixValid_1.l0 : Nat → List Int → Int → Int → Option (Int)
 | 0, _, _, _ => none
 | k + 1, x0, x7, x8 => if x8 < x7 then (if 0 ≤ x8 then (if x8 < (x0.length : Int) then ((impl_MatrixValid_1.f (rd x0 x8)).bind fun t103 => (if t103 = true then (some x8) else (slices_IndexFunc_int_int_at_impl_MatrixValid_1.l0 k x0 x7 (wrap64 (x8 + 1))))) else (none)) else (none)) else (some (-1))
def slices_IndexFunc_int_int_at_impl_MatrixValid_1.f (k : Nat) (l0 : List Int) : Option (Int) := slices_IndexFunc_int_int_at_impl_MatrixValid_1.l0 k l0 (l0.length : Int) 0
theorem slices_IndexFunc_int_int_at_impl_MatrixValid_1.mono_l : ∀ k, (∀ y0 y1 y2, LeO (slices_IndexFunc_int_int_at_impl_MatrixValid_1.l0 k y0 y1 y2) (slices_IndexFunc_int_int_at_impl_MatrixValid_1.l0 (k + 1) y0 y1 y2))
 | 0 => fun _ _ _ r h => by simp [slices_IndexFunc_int_int_at_impl_MatrixValid_1.l0] at h
 | k + 1 => by
  have ih0 := slices_IndexFunc_int_int_at_impl_MatrixValid_1.mono_l k
  ·intro y0 y1 y2; unfold slices_IndexFunc_int_int_at_impl_MatrixValid_1.l0; repeat' first
   | (with_reducible exact ih0 _ _ _)
   | (with_reducible exact LeO.refl _)
   | (with_reducible exact LeO.none _)
   | (with_reducible refine LeO.ite ?_ ?_)
   | (with_reducible refine LeO.bind ?_ (fun _ => ?_))
   | exact ih0 _ _ _
   | exact LeO.none _
   | refine LeO.ite ?_ ?_
   | refine LeO.bind ?_ (fun _ => ?_)
theorem slices_IndexFunc_int_int_at_impl_MatrixValid_1.mono : ∀ a0 k, LeO (slices_IndexFunc_int_int_at_impl_MatrixValid_1.f k a0) (slices_IndexFunc_int_int_at_impl_MatrixValid_1.f (k + 1) a0) := by
 intro a0 k; have ih0 := slices_IndexFunc_int_int_at_impl_MatrixValid_1.mono_l k; unfold slices_IndexFunc_int_int_at_impl_MatrixValid_1.f; repeat' first
   | (with_reducible exact ih0 _ _ _)
   | (with_reducible exact LeO.refl _)
   | (with_reducible exact LeO.none _)
   | (with_reducible refine LeO.ite ?_ ?_)
   | (with_reducible refine LeO.bind ?_ (fun _ => ?_))
   | exact ih0 _ _ _
   | exact LeO.none _
   | refine LeO.ite ?_ ?_
   | refine LeO.bind ?_ (fun _ => ?_)
set_option maxHeartbeats 8000000 in
set_option maxRecDepth 100000 in
theorem slices_IndexFunc_int_int_at_impl_MatrixValid_1.calls (k : Nat) (A0 : Option Addr) (c0 : Nat) (l0 : List Int) (r : Int) (w : World) (hr0 : Kd.C (Kd.int .i64) w A0 l0.length l0) (hc0 : l0.length ≤ c0) (h : slices_IndexFunc_int_int_at_impl_MatrixValid_1.f k l0 = some r) :
  Calls Try.prog 67 #[.slice A0 l0.length c0, .func (.func 43) #[] #[]] w fun e w' => e = .returned (.int .i64 r) ∧ Drawn0 w w' := by
 have HR0 := am hr0; have HC0 := am hc0; clear hr0 hc0; have H : (slices_IndexFunc_int_int_at_impl_MatrixValid_1.l0 k l0 (l0.length : Int) 0) = some r := h; clear h; have H' := am H; clear H; go_enter Try.func67, Try.ntmps67; go_wp2; go_loopg [8] k (fun kq v8 w' => ∃ (x8_1 : Int), v8 = .int .i64 x8_1 ∧ Aside0 (slices_IndexFunc_int_int_at_impl_MatrixValid_1.l0 kq l0 (l0.length : Int) x8_1 = some r) ∧ Aside0 (kq ≤ k) ∧ Drawn0 w w')
 case atStart => exact ⟨(0), (by first | rfl | (simp; done) | (simp [*]; done)), H', ⟨Nat.le_refl _⟩, by repeat (first | exact Drawn0.refl _ | apply Drawn0.step)⟩
 case round =>
  clear H'; obtain ⟨x8_1, rfl, HA, HK1, ⟨m1, rfl⟩⟩ := hrel
  cases gk with
  | zero => exact absurd HA.out (by simp [slices_IndexFunc_int_int_at_impl_MatrixValid_1.l0])
  | succ k1 =>
   have H := HA.out; clear HA; simp only [slices_IndexFunc_int_int_at_impl_MatrixValid_1.l0] at H; by_cases c2 : x8_1 < (l0.length : Int)
   ·rw [if_pos c2] at H; have c2b0 : decide (x8_1 < (l0.length : Int)) = true := decide_eq_true c2; clear c2; by_cases c3 : 0 ≤ x8_1
    ·rw [if_pos c3] at H; have c3b0 : decide (0 ≤ x8_1) = true := decide_eq_true c3; clear c3; by_cases c4 : x8_1 < (l0.length : Int)
     ·rw [if_pos c4] at H; have c4b0 : decide (x8_1 < (l0.length : Int)) = true := decide_eq_true c4; clear c4; replace H := Option.bind_eq_some_iff.mp H; obtain ⟨t103, A50, H⟩ := H; (try dsimp only at H); have A5 := am A50; clear A50; by_cases c6 : t103 = true
      ·subst c6
       have H1 : (some x8_1) = some r := by rw [if_pos rfl] at H; exact H
       clear H; have H := H1; clear H1; obtain rfl := Option.some.inj H; have p102 : 0 ≤ (x8_1 : Int) := da; have q102 : x8_1 < (l0.length : Int) := da; obtain ⟨ad102, e102, hx102_0⟩ := Kd.at_int HR0.out x8_1 p102 q102; cases e102; replace p102 := eq_true p102; replace q102 := eq_true q102; go_wp2_with (first | ((with_reducible refine gate_value 11 rfl ?_); refine goesV_ (some 16) rfl rfl Try.func43 (by kernel_rfl) rfl #[.int .i64 (rd l0 x8_1)] #[] #[.int .i64 (rd l0 x8_1)] rfl rfl (by (try simp only [List.map_toArray, List.map_cons, List.map_nil]); first | done | rfl | (simp only [List.length_drop, List.length_take]; rfl)) rfl ?_; (with_reducible refine (impl_MatrixValid_1.calls (rd l0 x8_1) true _ A5.out).mono ?_); rintro e w' ⟨rfl, ⟨nd, rfl⟩⟩; refine ⟨_, rfl, ?_⟩)); go_ret; exact ⟨by first | rfl | (simp; done) | (simp [*]; done), by repeat (first | exact Drawn0.refl _ | apply Drawn0.step)⟩
      ·replace c6 := Bool.eq_false_iff.mpr c6; subst c6
       have H1 : (slices_IndexFunc_int_int_at_impl_MatrixValid_1.l0 k1 l0 (l0.length : Int) (wrap64 (x8_1 + 1))) = some r := by rw [if_neg (show ¬ (false = true) by decide)] at H; exact H
       clear H; have H := H1; clear H1; have H' := am H; clear H; have p102 : 0 ≤ (x8_1 : Int) := da; have q102 : x8_1 < (l0.length : Int) := da; obtain ⟨ad102, e102, hx102_0⟩ := Kd.at_int HR0.out x8_1 p102 q102; cases e102; replace p102 := eq_true p102; replace q102 := eq_true q102; go_wp2_with (first | ((with_reducible refine gate_value 11 rfl ?_); refine goesV_ (some 16) rfl rfl Try.func43 (by kernel_rfl) rfl #[.int .i64 (rd l0 x8_1)] #[] #[.int .i64 (rd l0 x8_1)] rfl rfl (by (try simp only [List.map_toArray, List.map_cons, List.map_nil]); first | done | rfl | (simp only [List.length_drop, List.length_take]; rfl)) rfl ?_; (with_reducible refine (impl_MatrixValid_1.calls (rd l0 x8_1) false _ A5.out).mono ?_); rintro e w' ⟨rfl, ⟨nd, rfl⟩⟩; refine ⟨_, rfl, ?_⟩)); go_roundg k1
       case measure => have := HK1.out; omega
       case rel => exact ⟨(wrap64 (x8_1 + 1)), (by first | rfl | (simp; done) | (simp [*]; done)), H', ⟨by have := HK1.out; omega⟩, by repeat (first | exact Drawn0.refl _ | apply Drawn0.step)⟩
     ·rw [if_neg c4] at H; exact absurd H (by simp)
    ·rw [if_neg c3] at H; exact absurd H (by simp)
   ·rw [if_neg c2] at H; have c2b0 : decide (x8_1 < (l0.length : Int)) = false := decide_eq_false c2; clear c2; obtain rfl := Option.some.inj H; go_wp2; go_ret; exact ⟨by first | rfl | (simp; done) | (simp [*]; done), by repeat (first | exact Drawn0.refl _ | apply Drawn0.step)⟩

/-! ### slices_ContainsFunc_int_int_at_impl_MatrixValid_1: function 200000 -/
def slices_ContainsFunc_int_int_at_impl_MatrixValid_1.f (k : Nat) (l0 : List Int) : Option (Bool) := (slices_IndexFunc_int_int_at_impl_MatrixValid_1.f k l0).bind fun t104 => (some (decide (t104 ≥ 0)))
theorem slices_ContainsFunc_int_int_at_impl_MatrixValid_1.mono : ∀ a0 k, LeO (slices_ContainsFunc_int_int_at_impl_MatrixValid_1.f k a0) (slices_ContainsFunc_int_int_at_impl_MatrixValid_1.f (k + 1) a0) := by
 intro a0 k; unfold slices_ContainsFunc_int_int_at_impl_MatrixValid_1.f; repeat' first
   | (with_reducible exact slices_IndexFunc_int_int_at_impl_MatrixValid_1.mono _ _)
   | (with_reducible exact LeO.refl _)
   | (with_reducible exact LeO.none _)
   | (with_reducible refine LeO.ite ?_ ?_)
   | (with_reducible refine LeO.bind ?_ (fun _ => ?_))
   | exact slices_IndexFunc_int_int_at_impl_MatrixValid_1.mono _ _
   | exact LeO.none _
   | refine LeO.ite ?_ ?_
   | refine LeO.bind ?_ (fun _ => ?_)
set_option maxHeartbeats 8000000 in
set_option maxRecDepth 100000 in
theorem slices_ContainsFunc_int_int_at_impl_MatrixValid_1.calls (k : Nat) (A0 : Option Addr) (c0 : Nat) (l0 : List Int) (r : Bool) (w : World) (hr0 : Kd.C (Kd.int .i64) w A0 l0.length l0) (hc0 : l0.length ≤ c0) (h : slices_ContainsFunc_int_int_at_impl_MatrixValid_1.f k l0 = some r) :
  Calls Try.prog 42 #[.slice A0 l0.length c0, .func (.func 43) #[] #[]] w fun e w' => e = .returned (.bool r) ∧ Drawn0 w w' := by
 have HR0 := am hr0; have HC0 := am hc0; clear hr0 hc0; have H : ((slices_IndexFunc_int_int_at_impl_MatrixValid_1.f k l0).bind fun t104 => (some (decide (t104 ≥ 0)))) = some r := h; clear h; replace H := Option.bind_eq_some_iff.mp H; obtain ⟨t104, A20, H⟩ := H; (try dsimp only at H); have A2 := am A20; clear A20; obtain rfl := Option.some.inj H; go_enter Try.func42, Try.ntmps42; go_wp2_with (first | ((with_reducible refine gy 67 rfl ?_); refine gl Try.func67 #[.slice A0 l0.length c0, .func (.func 43) #[] #[]] ?_; (with_reducible refine (slices_IndexFunc_int_int_at_impl_MatrixValid_1.calls k _ _ l0 t104 _ ?side1 ?side2 A2.out).mono ?_); (case side1 => exact cc HR0.out); (case side2 => exact HC0.out); rintro e w' ⟨rfl, ⟨nd, rfl⟩⟩; refine ⟨_, rfl, ?_⟩)); go_ret; exact ⟨by first | rfl | (simp; done) | (simp [*]; done), by repeat (first | exact Drawn0.refl _ | apply Drawn0.step)⟩

/-! ### impl_MatrixValid: function 17 -/
def impl_MatrixValid.f (k : Nat) (a0_0 : Int) (l0_1 : List Int) : Option (Bool) := if a0_0 < 1 then (some false) else (if a0_0 > 4 then (some false) else (if (l0_1.length : Int) = (wrap64 (a0_0 * a0_0)) then ((slices_ContainsFunc_int_int_at_impl_MatrixValid_1.f k l0_1).bind fun t106 => (some (!t106))) else (some false)))
theorem impl_MatrixValid.mono : ∀ a0 a1 k, LeO (impl_MatrixValid.f k a0 a1) (impl_MatrixValid.f (k + 1) a0 a1) := by
 intro a0 a1 k; unfold impl_MatrixValid.f; repeat' first
   | (with_reducible exact slices_ContainsFunc_int_int_at_impl_MatrixValid_1.mono _ _)
   | (with_reducible exact LeO.refl _)
   | (with_reducible exact LeO.none _)
   | (with_reducible refine LeO.ite ?_ ?_)
   | (with_reducible refine LeO.bind ?_ (fun _ => ?_))
   | exact slices_ContainsFunc_int_int_at_impl_MatrixValid_1.mono _ _
   | exact LeO.none _
   | refine LeO.ite ?_ ?_
   | refine LeO.bind ?_ (fun _ => ?_)
set_option maxHeartbeats 8000000 in
set_option maxRecDepth 100000 in
theorem impl_MatrixValid.calls (k : Nat) (a0_0 : Int) (A0_1 : Option Addr) (c0_1 : Nat) (l0_1 : List Int) (r : Bool) (w : World) (hr0_1 : Kd.C (Kd.int .i64) w A0_1 l0_1.length l0_1) (hc0_1 : l0_1.length ≤ c0_1) (h : impl_MatrixValid.f k a0_0 l0_1 = some r) :
  Calls Try.prog 17 #[.agg #[.int .i64 a0_0, .slice A0_1 l0_1.length c0_1]] w fun e w' => e = .returned (.bool r) ∧ Below w.heap.size w w' := by
 have hu27 := Try.underlying27; have HR0_1 := am hr0_1; have HC0_1 := am hc0_1; clear hr0_1 hc0_1; have HB := am (Below.refl w.heap.size w); have H : (if a0_0 < 1 then (some false) else (if a0_0 > 4 then (some false) else (if (l0_1.length : Int) = (wrap64 (a0_0 * a0_0)) then ((slices_ContainsFunc_int_int_at_impl_MatrixValid_1.f k l0_1).bind fun t106 => (some (!t106))) else (some false)))) = some r := h; clear h; by_cases c2 : a0_0 < 1
 ·rw [if_pos c2] at H; have c2b0 : decide (a0_0 < 1) = true := decide_eq_true c2; clear c2; obtain rfl := Option.some.inj H; go_enter Try.func17, Try.ntmps17; go_wp2_with (first | ((with_reducible refine gx 1 rfl ?_); (try (refine gate_guard (by rfl) ?_; dsimp only)); refine be (cs := #[.int .i64 a0_0, .slice A0_1 l0_1.length c0_1]) (t := 27) ?_; intro gb105 hg w3 hbox hb; have n0_ := hs HB hb; have n1_ := am (hbox); have n2_ := gs hg (bz HB.out); have n3_ := gs hg (bz HB.out); clear HB; revert n0_ n1_ n2_ n3_; intro HB BK105 GW105 GE105; clear hb hbox hg; have hz4 := zf2 BK105.out)); go_ret; exact ⟨by first | rfl | (simp [errW_none, errW_some] <;> rfl) | (simp [*, errW_none, errW_some] <;> rfl), by exact bw HB.out⟩
 ·rw [if_neg c2] at H; have c2b0 : decide (a0_0 < 1) = false := decide_eq_false c2; clear c2; by_cases c5 : a0_0 > 4
  ·rw [if_pos c5] at H; have c5b0 : decide (4 < a0_0) = true := decide_eq_true c5; clear c5; obtain rfl := Option.some.inj H; go_enter Try.func17, Try.ntmps17; go_wp2_with (first | ((with_reducible refine gx 1 rfl ?_); (try (refine gate_guard (by rfl) ?_; dsimp only)); refine be (cs := #[.int .i64 a0_0, .slice A0_1 l0_1.length c0_1]) (t := 27) ?_; intro gb105 hg w6 hbox hb; have n0_ := hs HB hb; have n1_ := am (hbox); have n2_ := gs hg (bz HB.out); have n3_ := gs hg (bz HB.out); clear HB; revert n0_ n1_ n2_ n3_; intro HB BK105 GW105 GE105; clear hb hbox hg; have hz7 := zf2 BK105.out)); go_ret; exact ⟨by first | rfl | (simp [errW_none, errW_some] <;> rfl) | (simp [*, errW_none, errW_some] <;> rfl), by exact bw HB.out⟩
  ·rw [if_neg c5] at H; have c5b0 : decide (4 < a0_0) = false := decide_eq_false c5; clear c5; by_cases c8 : (l0_1.length : Int) = (wrap64 (a0_0 * a0_0))
   ·rw [if_pos c8] at H; have c8b0 : ((l0_1.length : Int) == (wrap64 (a0_0 * a0_0))) = true := beq_iff_eq.mpr c8; have c8b1 : ((l0_1.length : Int) != (wrap64 (a0_0 * a0_0))) = false := bne_eq_false_iff_eq.mpr c8; clear c8; replace H := Option.bind_eq_some_iff.mp H; obtain ⟨t106, A90, H⟩ := H; (try dsimp only at H); have A9 := am A90; clear A90; obtain rfl := Option.some.inj H; go_enter Try.func17, Try.ntmps17; go_wp2_with (first | ((with_reducible refine gx 1 rfl ?_); (try (refine gate_guard (by rfl) ?_; dsimp only)); refine be (cs := #[.int .i64 a0_0, .slice A0_1 l0_1.length c0_1]) (t := 27) ?_; intro gb105 hg w10 hbox hb; have n0_ := hs HB hb; have n1_ := am (hbox); have n2_ := gs hg (bz HB.out); have n3_ := gs hg (bz HB.out); clear HB; revert n0_ n1_ n2_ n3_; intro HB BK105 GW105 GE105; clear hb hbox hg; have hz11 := zf2 BK105.out) | ((with_reducible refine gy 42 rfl ?_); refine gl Try.func42 #[.slice A0_1 l0_1.length c0_1, .func (.func 43) #[] #[]] ?_; (with_reducible refine (slices_ContainsFunc_int_int_at_impl_MatrixValid_1.calls k _ _ l0_1 t106 _ ?side1 ?side2 A9.out).mono ?_); (case side1 => exact cc (Kd.C_below HR0_1.out HB.out)); (case side2 => exact HC0_1.out); rintro e w' ⟨rfl, ⟨nd, rfl⟩⟩; refine ⟨_, rfl, ?_⟩)); go_ret; exact ⟨by first | rfl | (simp [errW_none, errW_some] <;> rfl) | (simp [*, errW_none, errW_some] <;> rfl), by exact bw HB.out⟩
   ·rw [if_neg c8] at H; have c8b0 : ((l0_1.length : Int) == (wrap64 (a0_0 * a0_0))) = false := beq_eq_false_iff_ne.mpr c8; have c8b1 : ((l0_1.length : Int) != (wrap64 (a0_0 * a0_0))) = true := bne_iff_ne.mpr c8; obtain rfl := Option.some.inj H; go_enter Try.func17, Try.ntmps17; go_wp2_with (first | ((with_reducible refine gx 1 rfl ?_); (try (refine gate_guard (by rfl) ?_; dsimp only)); refine be (cs := #[.int .i64 a0_0, .slice A0_1 l0_1.length c0_1]) (t := 27) ?_; intro gb105 hg w12 hbox hb; have n0_ := hs HB hb; have n1_ := am (hbox); have n2_ := gs hg (bz HB.out); have n3_ := gs hg (bz HB.out); clear HB; revert n0_ n1_ n2_ n3_; intro HB BK105 GW105 GE105; clear hb hbox hg; have hz13 := zf2 BK105.out)); go_ret; exact ⟨by first | rfl | (simp [errW_none, errW_some] <;> rfl) | (simp [*, errW_none, errW_some] <;> rfl), by exact bw HB.out⟩

-- NOT PRINTED: function 47 (impl_filled)

/-! ### impl_UnitMatrix_1: function 48 -/
def impl_UnitMatrix_1.f (a0 : Int) (a1 : Int) : Option (Int) := if a0 = a1 then (some 0) else (some 1000000)
set_option maxHeartbeats 8000000 in
set_option maxRecDepth 100000 in
theorem impl_UnitMatrix_1.calls (a0 : Int) (a1 : Int) (r : Int) (w : World) (h : impl_UnitMatrix_1.f a0 a1 = some r) :
  Calls Try.prog 48 #[.int .i64 a0, .int .i64 a1] w fun e w' => e = .returned (.int .i64 r) ∧ Drawn0 w w' := by
 have H : (if a0 = a1 then (some 0) else (some 1000000)) = some r := h; clear h; by_cases c3 : a0 = a1
 ·rw [if_pos c3] at H; have c3b0 : (a0 == a1) = true := beq_iff_eq.mpr c3; have c3b1 : (a0 != a1) = false := bne_eq_false_iff_eq.mpr c3; clear c3; obtain rfl := Option.some.inj H; go_enter Try.func48, Try.ntmps48; go_wp2; go_ret; exact ⟨by first | rfl | (simp; done) | (simp [*]; done), by repeat (first | exact Drawn0.refl _ | apply Drawn0.step)⟩
 ·rw [if_neg c3] at H; have c3b0 : (a0 == a1) = false := beq_eq_false_iff_ne.mpr c3; have c3b1 : (a0 != a1) = true := bne_iff_ne.mpr c3; obtain rfl := Option.some.inj H; go_enter Try.func48, Try.ntmps48; go_wp2; go_ret; exact ⟨by first | rfl | (simp; done) | (simp [*]; done), by repeat (first | exact Drawn0.refl _ | apply Drawn0.step)⟩

/-! ### impl_filled_at_impl_UnitMatrix_1: function 200002 -/
mutual
def impl_filled_at_impl_UnitMatrix_1.l0 : Nat → Int → Int → Int → Int → List Int → Option (Int × List Int)
 | 0, _, _, _, _, _ => none
 | k + 1, x0, x10, x11, x109000, x109001 => if x11 < x10 then (impl_filled_at_impl_UnitMatrix_1.l1 k x0 x11 x10 x11 x0 0 x109000 x109001) else (some (x109000, x109001))
def impl_filled_at_impl_UnitMatrix_1.l1 : Nat → Int → Int → Int → Int → Int → Int → Int → List Int → Option (Int × List Int)
 | 0, _, _, _, _, _, _, _, _ => none
 | k + 1, x0, x6, x10, x11, x14, x15, x109000, x109001 => if x15 < x14 then ((impl_UnitMatrix_1.f x6 x15).bind fun t109 => (if x109001.length < 17592186044416 then (impl_filled_at_impl_UnitMatrix_1.l1 k x0 x6 x10 x11 x14 (wrap64 (x15 + 1)) x109000 (x109001 ++ [t109])) else (none))) else (impl_filled_at_impl_UnitMatrix_1.l0 k x0 x10 (wrap64 (x11 + 1)) x109000 x109001)
end
def impl_filled_at_impl_UnitMatrix_1.f (k : Nat) (a0 : Int) : Option (Int × List Int) := impl_filled_at_impl_UnitMatrix_1.l0 k a0 a0 0 a0 ([] : List Int)
theorem impl_filled_at_impl_UnitMatrix_1.mono_l : ∀ k, (∀ y0 y1 y2 y3 y4, LeO (impl_filled_at_impl_UnitMatrix_1.l0 k y0 y1 y2 y3 y4) (impl_filled_at_impl_UnitMatrix_1.l0 (k + 1) y0 y1 y2 y3 y4)) ∧ (∀ y0 y1 y2 y3 y4 y5 y6 y7, LeO (impl_filled_at_impl_UnitMatrix_1.l1 k y0 y1 y2 y3 y4 y5 y6 y7) (impl_filled_at_impl_UnitMatrix_1.l1 (k + 1) y0 y1 y2 y3 y4 y5 y6 y7))
 | 0 => ⟨fun _ _ _ _ _ r h => by simp [impl_filled_at_impl_UnitMatrix_1.l0] at h, fun _ _ _ _ _ _ _ _ r h => by simp [impl_filled_at_impl_UnitMatrix_1.l1] at h⟩
 | k + 1 => by
  obtain ⟨ih0, ih1⟩ := impl_filled_at_impl_UnitMatrix_1.mono_l k; refine ⟨?_, ?_⟩
  ·intro y0 y1 y2 y3 y4; unfold impl_filled_at_impl_UnitMatrix_1.l0; repeat' first
   | (with_reducible exact ih0 _ _ _ _ _)
   | (with_reducible exact ih1 _ _ _ _ _ _ _ _)
   | (with_reducible exact LeO.refl _)
   | (with_reducible exact LeO.none _)
   | (with_reducible refine LeO.ite ?_ ?_)
   | (with_reducible refine LeO.bind ?_ (fun _ => ?_))
   | exact ih0 _ _ _ _ _
   | exact ih1 _ _ _ _ _ _ _ _
   | exact LeO.none _
   | refine LeO.ite ?_ ?_
   | refine LeO.bind ?_ (fun _ => ?_)
  ·intro y0 y1 y2 y3 y4 y5 y6 y7; unfold impl_filled_at_impl_UnitMatrix_1.l1; repeat' first
   | (with_reducible exact ih0 _ _ _ _ _)
   | (with_reducible exact ih1 _ _ _ _ _ _ _ _)
   | (with_reducible exact LeO.refl _)
   | (with_reducible exact LeO.none _)
   | (with_reducible refine LeO.ite ?_ ?_)
   | (with_reducible refine LeO.bind ?_ (fun _ => ?_))
   | exact ih0 _ _ _ _ _
   | exact ih1 _ _ _ _ _ _ _ _
   | exact LeO.none _
   | refine LeO.ite ?_ ?_
   | refine LeO.bind ?_ (fun _ => ?_)
theorem impl_filled_at_impl_UnitMatrix_1.mono : ∀ a0 k, LeO (impl_filled_at_impl_UnitMatrix_1.f k a0) (impl_filled_at_impl_UnitMatrix_1.f (k + 1) a0) := by
 intro a0 k; obtain ⟨ih0, ih1⟩ := impl_filled_at_impl_UnitMatrix_1.mono_l k; unfold impl_filled_at_impl_UnitMatrix_1.f; repeat' first
   | (with_reducible exact ih0 _ _ _ _ _)
   | (with_reducible exact ih1 _ _ _ _ _ _ _ _)
   | (with_reducible exact LeO.refl _)
   | (with_reducible exact LeO.none _)
   | (with_reducible refine LeO.ite ?_ ?_)
   | (with_reducible refine LeO.bind ?_ (fun _ => ?_))
   | exact ih0 _ _ _ _ _
   | exact ih1 _ _ _ _ _ _ _ _
   | exact LeO.none _
   | refine LeO.ite ?_ ?_
   | refine LeO.bind ?_ (fun _ => ?_)
def impl_filled_at_impl_UnitMatrix_1.T8 : Bool × List (List Nat × List Nat) := (true, [([], []), ([0], [0]), ([], []), ([], []), ([], []), ([2, 3, 4], [2, 3, 4]), ([5], [5]), ([1, 6, 5], [1, 6]), ([0, 1, 2, 3, 4, 5, 6, 7], []), ([8, 7, 7, 0, 1, 2, 3, 4, 5, 6, 7], [7, 8])])
def impl_filled_at_impl_UnitMatrix_1.B8 : List Nat := [0, 1, 0, 0, 0, 28, 60, 127, 255, 511]
theorem impl_filled_at_impl_UnitMatrix_1.tab8 : rtab .any (opsOf Try.f47 8) = impl_filled_at_impl_UnitMatrix_1.T8 := by kernel_rfl
theorem impl_filled_at_impl_UnitMatrix_1.bits8 : waitsOk impl_filled_at_impl_UnitMatrix_1.T8.2 impl_filled_at_impl_UnitMatrix_1.B8 = true := by kernel_rfl
set_option maxHeartbeats 8000000 in
set_option maxRecDepth 100000 in
theorem impl_filled_at_impl_UnitMatrix_1.calls (k : Nat) (a0 : Int) (r1 : Int) (r2 : List Int) (w : World) (h : impl_filled_at_impl_UnitMatrix_1.f k a0 = some (r1, r2)) :
  Calls Try.prog 47 #[.int .i64 a0, .func (.func 48) #[] #[]] w fun e w' => ∃ v1_ : Value, e = .returned (.agg #[.int .i64 r1, v1_]) ∧ Kd.R (Kd.int .i64) 3 w' w.heap.size (fun _ => True) v1_ r2 ∧ Below w.heap.size w w' := by
 have hu27 := Try.underlying27; have HB := am (Below.refl w.heap.size w); have H : (impl_filled_at_impl_UnitMatrix_1.l0 k a0 a0 0 a0 ([] : List Int)) = some (r1, r2) := h; clear h; have H' := am H; clear H; go_enter Try.func47, Try.ntmps47; go_wp2_with (first | ((with_reducible refine gx 4 rfl ?_); refine be (cs := #[.int .i64 0, .slice none 0 0]) (t := 27) ?_; intro gb107 hg w2 hbox hb; have n0_ := hs HB hb; have n1_ := am (hbox); have n2_ := gs hg (bz HB.out); have n3_ := gs hg (bz HB.out); clear HB; revert n0_ n1_ n2_ n3_; intro HB BK107 GW107 GE107; clear hb hbox hg) | ((with_reducible refine gx 5 rfl ?_); refine be (cs := #[.int .i64 0, .slice none 0 0]) (t := 27) ?_; intro gb108 hg w3 hbox hb; have n0_ := bk BK107 hb; have n1_ := hs HB hb; have n2_ := am (hbox); have n3_ := gs hg (bw HB.out); have n4_ := gs hg (bw HB.out); have n5_ := nl hg (kz BK107.out); have n6_ := nr hg (kz BK107.out); clear BK107 HB; revert n0_ n1_ n2_ n3_ n4_ n5_ n6_; intro BK107 HB BK108 GW108 GE108 NB107_108 NB108_107; clear hb hbox hg; have hnb4 := NB108_107.out; have hnc4 := NB107_108.out; have hz5 := zf2 BK108.out)); go_loopg [11] k (fun kq v11 w' => ∃ (x11_1 : Int) (x109001_1 : List Int) (u109001 : Value), v11 = .int .i64 x11_1 ∧ Aside0 (impl_filled_at_impl_UnitMatrix_1.l0 kq a0 a0 x11_1 a0 x109001_1 = some (r1, r2)) ∧ Aside0 (kq ≤ k) ∧ Aside0 (Kd.R (Kd.int .i64) 3 w' w.heap.size (fun _ => True) u109001 x109001_1) ∧ Aside0 (w'.heap[gb107]? = some (.cells #[.int .i64 0, (.slice none 0 0)] 27 (0, 0))) ∧ Aside0 (w'.heap[gb108]? = some (.cells #[.int .i64 a0, u109001] 27 (0, 0))) ∧ Aside0 (Below w.heap.size w w'))
 case atStart => exact ⟨(0), (([] : List Int)), (.slice none 0 0), (by first | rfl | (simp; done) | (simp [*]; done)), H', ⟨Nat.le_refl _⟩, ⟨by first | exact Kd.R_nil _ _ _ _ _ | exact Kd.N_nil _ _ _ _ _ | exact Kd.V_nil _ _ _ _ _ | exact Kd.Q_nil _ _ _ _ _ | exact Kd.S_nil _ _ _ _ _⟩, ⟨kp BK107.out⟩, ⟨kp BK108.out⟩, ⟨by exact bw HB.out⟩⟩
 case round =>
  clear H'; (try clear c2); (try clear p2); (try clear c4); obtain ⟨x11_1, x109001_1, u109001, rfl, HA, HK1, HO_109001, BK107, BK108, HB⟩ := hrel
  cases gk with
  | zero => exact absurd HA.out (by simp [impl_filled_at_impl_UnitMatrix_1.l0])
  | succ k1 =>
   have H := HA.out; clear HA; simp only [impl_filled_at_impl_UnitMatrix_1.l0] at H; by_cases c6 : x11_1 < a0
   ·rw [if_pos c6] at H; have c6b0 : decide (x11_1 < a0) = true := decide_eq_true c6; clear c6; have H' := am H; clear H; go_wp2; go_loopg [15] k1 (fun kq v15 w' => ∃ (x15_2 : Int) (x109001_2 : List Int) (u109001 : Value), v15 = .int .i64 x15_2 ∧ Aside0 (impl_filled_at_impl_UnitMatrix_1.l1 kq a0 x11_1 a0 x11_1 a0 x15_2 a0 x109001_2 = some (r1, r2)) ∧ Aside0 (kq ≤ k1) ∧ Aside0 (Kd.R (Kd.int .i64) 3 w' w.heap.size (fun _ => True) u109001 x109001_2) ∧ Aside0 (w'.heap[gb107]? = some (.cells #[.int .i64 0, (.slice none 0 0)] 27 (0, 0))) ∧ Aside0 (w'.heap[gb108]? = some (.cells #[.int .i64 a0, u109001] 27 (0, 0))) ∧ Aside0 (Below w.heap.size w w'))
    case atStart => exact ⟨(0), (x109001_1), (u109001), (by first | rfl | (simp; done) | (simp [*]; done)), H', ⟨Nat.le_refl _⟩, ⟨rz HO_109001.out⟩, ⟨kz BK107.out⟩, ⟨kz BK108.out⟩, ⟨by exact bw HB.out⟩⟩
    case round =>
     clear H'; (try clear c2); (try clear p2); (try clear c4); (try clear c6); (try clear c6b0); (try clear p2); obtain ⟨x15_2, x109001_2, u109001, rfl, HA, HK2, HO_109001, BK107, BK108, HB⟩ := hrel
     cases gk with
     | zero => exact absurd HA.out (by simp [impl_filled_at_impl_UnitMatrix_1.l1])
     | succ k2 =>
      have H := HA.out; clear HA; simp only [impl_filled_at_impl_UnitMatrix_1.l1] at H; by_cases c7 : x15_2 < a0
      ·rw [if_pos c7] at H; have c7b0 : decide (x15_2 < a0) = true := decide_eq_true c7; clear c7; replace H := Option.bind_eq_some_iff.mp H; obtain ⟨t109, A80, H⟩ := H; (try dsimp only at H); have A8 := am A80; clear A80; by_cases c9 : x109001_2.length < 17592186044416
       ·rw [if_pos c9] at H; have LMc9 := am c9; clear c9; obtain ⟨y110, hy110⟩ : ∃ y_ : List Int, y_ = (x109001_2 ++ [t109]) := ⟨_, rfl⟩
        replace H : (impl_filled_at_impl_UnitMatrix_1.l1 k2 a0 x11_1 a0 x11_1 a0 (wrap64 (x15_2 + 1)) a0 y110) = some (r1, r2) := by first | (rw [hy110]; with_reducible exact H) | (have H2_ := (Option.bind_some _ _).symm.trans H; rw [hy110]; with_reducible exact H2_) | (have H2_ := (Option.bind_some _ _).symm.trans H; with_reducible exact H2_) | with_reducible exact H | (rw [hy110]; exact H) | exact H
        have Ny110 := am hy110; clear hy110; have H' := am H; clear H; (try go_wp2); have n0_ := am (Kd.R_drew HO_109001.out); have n1_ := am (blk_drew BK107.out); have n2_ := am (blk_drew BK108.out); have n3_ := am (below_drew1 HB.out); clear HO_109001 BK107 BK108 HB; revert n0_ n1_ n2_ n3_; intro HO_109001 BK107 BK108 HB; refine start_ (n := 10) (S := fun w' => w'.cell? ⟨gb108, 0, none⟩ = some (.int .i64 a0) ∧ w'.cell? ⟨gb108, 1, none⟩ = some (u109001)) (ds := [9]) (mkp 10 0) (by kernel_rfl) rfl rfl ⟨bl BK108.out 0, bl BK108.out 1⟩ (fun hHeld => ?_); refine with_tabW impl_filled_at_impl_UnitMatrix_1.tab8 impl_filled_at_impl_UnitMatrix_1.bits8 (fun HT_ HW_ => ?_); generalize wr.drew = w10 at HO_109001 BK107 BK108 HB hHeld ⊢; refine qv HT_ ?_; refine pv 2 20 10 5 HT_ ?_; refine pv 3 21 10 13 HT_ ?_; refine pv 4 22 10 29 HT_ ?_; refine tkm 1 19 (mkp 10 5) HT_ HW_ hHeld ?_; refine on 5 (mkp 10 6) HT_ (fun K hK => ?_); refine goesV Try.func48 (by kernel_rfl) rfl #[.int .i64 x11_1, .int .i64 x15_2] #[] #[.int .i64 x11_1, .int .i64 x15_2] (by rfl) rfl rfl rfl (by (try simp only [List.map_toArray, List.map_cons, List.map_nil]); first | done | rfl | (simp only [List.length_drop, List.length_take]; rfl)) rfl ?_
        with_reducible refine (impl_UnitMatrix_1.calls x11_1 x15_2 t109 _ A8.out).mono ?_
        rintro e w' ⟨rfl, ⟨nd, rfl⟩⟩; refine ⟨_, rfl, ?_⟩; refine hK.out _ _ ⟨bl BK108.out 0, bl BK108.out 1⟩ (fun hHeld => ?_); clear hK K; refine norm_ (a' := ?_) ?_ ?_; rotate_left
        ·show Act.put _ (some 23) _ = _; simp only [Act.put, List.setIfInBounds_toArray, List.set_cons_zero, List.set_cons_succ, i64_w, i32_w]; rfl
        refine on 6 (mkp 10 7) HT_ (fun K hK => ?_); refine value_ (w1 := ?_) (v := ?_) (by rfl) rfl ?_ ?_; rotate_left 2
        ·go_simp; constructor
         ·rfl
         ·rfl
        refine hK.out _ _ ⟨(blk_cell (blk_alloc BK108.out _) 0).trans rfl, (blk_cell (blk_alloc BK108.out _) 1).trans rfl⟩ (fun hHeld => ?_); clear hK K; refine norm_ (a' := ?_) ?_ ?_; rotate_left
        ·show Act.put _ (some 24) _ = _; simp only [Act.put, List.setIfInBounds_toArray, List.set_cons_zero, List.set_cons_succ, i64_w, i32_w]; rfl
        refine on 7 (mkp 10 8) HT_ (fun K hK => ?_); refine Kd.R_append_step (Kd.int .i64) (w0 := w) w.heap.size (by rfl) (.tmp 19) (.tmp 24) 22 3 (.int .i64 0) 8 rfl Try.underlying22 info3 rfl (by decide) (by omega) u109001 x109001_2 t109 [.int .i64 t109] (fun _ => True) (fun _ => False) rfl rfl ?aP (fun _ hk => hk.elim) ?aF ?aO ?aB ?aS ?aL ?_; (case aP => exact rfl); (case aB => exact (bw HB.out)); (case aF => exact (fun _ _ => trivial)); (case aO => exact (rz HO_109001.out)); (case aS => exact (below_size (bw HB.out))); (case aL => have := LMc9.out; omega); intro v111 w11 ho hb hg hat; rw [← Ny110.out] at ho; have n0_ := am (blk_grown (kz BK107.out) hg (Kd.R_ne HO_109001.out BK107.out (by decide))); have n1_ := am (blk_grown (kz BK108.out) hg (Kd.R_ne HO_109001.out BK108.out (by decide))); have n2_ := am (hb); have n3_ := am (ho); clear BK107 BK108 HB HO_109001; revert n0_ n1_ n2_ n3_; intro BK107 BK108 HB HO112; clear ho hb hg hat; obtain ⟨Ao12, co12, eo12⟩ := Kd.R_slice HO112.out; (first | subst eo12 | (injection eo12 with f1_ f2_ f3_; have f4_ := f1_.symm; have f5_ := f3_.symm; clear f1_ f2_ f3_; subst f4_; subst f5_)); refine hK.out _ _ ⟨bl BK108.out 0, bl BK108.out 1⟩ (fun hHeld => ?_); clear hK K; refine norm_ (a' := ?_) ?_ ?_; rotate_left
        ·show Act.put _ (some 25) _ = _; simp only [Act.put, List.setIfInBounds_toArray, List.set_cons_zero, List.set_cons_succ, i64_w, i32_w]; rfl
        refine qv HT_ ?_; refine last_ (i := 9) (N := none) (mkp 10 10) rfl rfl (one_of HT_.out (by kernel_rfl)) (by decide) (fun K hK => ?_); have hs13 : w11.cell? ⟨gb108, 1, none⟩ = some (u109001) := bl BK108.out 1; have hfs13 := blk_frozen BK108.out 1; have hns13_0 := NB107_108.out; have hms13_0 := NB108_107.out; refine skip_ (w1 := ?_) (by rfl) rfl ?_ ?_; rotate_left
        ·go_simp; rfl
        refine hK.out _ _ ?_; clear hK K; refine done_ (done_of HT_.out (by kernel_rfl)) ?_; (try go_wp2); go_roundg k2
        case measure => have := HK1.out; have := HK2.out; omega
        case rel => exact ⟨(wrap64 (x15_2 + 1)), (y110), (.slice Ao12 y110.length co12), (by first | rfl | (simp; done) | (simp [*]; done)), H', ⟨by have := HK1.out; have := HK2.out; omega⟩, ⟨rq (Kd.R_mono (q1 HO112.out BK108.out (by decide)) (fun _ hk => trivial))⟩, ⟨kp BK107.out⟩, ⟨kp BK108.out⟩, ⟨by exact bw HB.out⟩⟩
       ·rw [if_neg c9] at H; exact absurd H (by simp)
      ·rw [if_neg c7] at H; have c7b0 : decide (x15_2 < a0) = false := decide_eq_false c7; clear c7; have H' := am H; clear H; go_wp2; go_roundg k2
       case measure => have := HK1.out; have := HK2.out; omega
       case rel => exact ⟨(wrap64 (x11_1 + 1)), (x109001_2), (u109001), (by first | rfl | (simp; done) | (simp [*]; done)), H', ⟨by have := HK1.out; have := HK2.out; omega⟩, ⟨rz HO_109001.out⟩, ⟨kz BK107.out⟩, ⟨kz BK108.out⟩, ⟨by exact bw HB.out⟩⟩
   ·rw [if_neg c6] at H; have c6b0 : decide (x11_1 < a0) = false := decide_eq_false c6; clear c6; simp only [Option.some.injEq, Prod.mk.injEq] at H; obtain ⟨rfl, rfl⟩ := H; have hnb14 := NB108_107.out; have hnc14 := NB107_108.out; have hz15 := zf2 BK108.out; have hz16 := zf2 BK107.out; obtain ⟨Ao17, co17, eo17⟩ := Kd.R_slice HO_109001.out; subst eo17; go_wp2; refine bodyPost_ret (results_cell_row rfl _ _ gb107 27 #[.int .i64 a0, .slice Ao17 x109001_1.length co17] (0, 0) _ rfl (kp BK107.out) Try.underlying27 rfl (by kernel_rfl)) rfl ?_; exact ⟨_, by first | rfl | (simp [errW_none, errW_some] <;> rfl) | (simp [*, errW_none, errW_some] <;> rfl), rq (Kd.R_mono (q2 HO_109001.out BK107.out (by decide)) (fun _ hk => trivial)), by exact bw HB.out⟩

/-! ### impl_UnitMatrix: function 20 -/
def impl_UnitMatrix.f (k : Nat) (a0 : Int) : Option (Int × List Int × Bool) := if a0 < 1 then (some (0, ([] : List Int), false)) else (if a0 > 4 then (some (0, ([] : List Int), false)) else ((impl_filled_at_impl_UnitMatrix_1.f k a0).bind fun bt114 => (some (bt114.1, bt114.2, true))))
theorem impl_UnitMatrix.mono : ∀ a0 k, LeO (impl_UnitMatrix.f k a0) (impl_UnitMatrix.f (k + 1) a0) := by
 intro a0 k; unfold impl_UnitMatrix.f; repeat' first
   | (with_reducible exact impl_filled_at_impl_UnitMatrix_1.mono _ _)
   | (with_reducible exact LeO.refl _)
   | (with_reducible exact LeO.none _)
   | (with_reducible refine LeO.ite ?_ ?_)
   | (with_reducible refine LeO.bind ?_ (fun _ => ?_))
   | exact impl_filled_at_impl_UnitMatrix_1.mono _ _
   | exact LeO.none _
   | refine LeO.ite ?_ ?_
   | refine LeO.bind ?_ (fun _ => ?_)
set_option maxHeartbeats 8000000 in
set_option maxRecDepth 100000 in
theorem impl_UnitMatrix.calls (k : Nat) (a0 : Int) (r1 : Int) (r2 : List Int) (r3 : Bool) (w : World) (h : impl_UnitMatrix.f k a0 = some (r1, r2, r3)) :
  Calls Try.prog 20 #[.int .i64 a0] w fun e w' => ∃ v1_ : Value, e = .returned (.tuple #[.agg #[.int .i64 r1, v1_], .bool r3]) ∧ Kd.R (Kd.int .i64) 3 w' w.heap.size (fun _ => True) v1_ r2 ∧ Below w.heap.size w w' := by
 have hu27 := Try.underlying27; have HB := am (Below.refl w.heap.size w); have H : (if a0 < 1 then (some (0, ([] : List Int), false)) else (if a0 > 4 then (some (0, ([] : List Int), false)) else ((impl_filled_at_impl_UnitMatrix_1.f k a0).bind fun bt114 => (some (bt114.1, bt114.2, true))))) = some (r1, r2, r3) := h; clear h; by_cases c2 : a0 < 1
 ·rw [if_pos c2] at H; have c2b0 : decide (a0 < 1) = true := decide_eq_true c2; clear c2; simp only [Option.some.injEq, Prod.mk.injEq] at H; obtain ⟨rfl, rfl, rfl⟩ := H; go_enter Try.func20, Try.ntmps20; go_wp2_with (first | ((with_reducible refine gx 2 rfl ?_); refine be (cs := #[.int .i64 0, .slice none 0 0]) (t := 27) ?_; intro gb113 hg w3 hbox hb; have n0_ := hs HB hb; have n1_ := am (hbox); have n2_ := gs hg (bz HB.out); have n3_ := gs hg (bz HB.out); clear HB; revert n0_ n1_ n2_ n3_; intro HB BK113 GW113 GE113; clear hb hbox hg; have hz4 := zf2 BK113.out)); refine bodyPost_ret (results_ct rfl _ _ gb113 27 #[.int .i64 0, .slice none 0 0] (0, 0) _ rfl (kp BK113.out) Try.underlying27 rfl (by kernel_rfl)) rfl ?_; exact ⟨_, by first | rfl | (simp [errW_none, errW_some] <;> rfl) | (simp [*, errW_none, errW_some] <;> rfl), by first | exact Kd.R_nil _ _ _ _ _ | exact Kd.N_nil _ _ _ _ _ | exact Kd.V_nil _ _ _ _ _ | exact Kd.Q_nil _ _ _ _ _ | exact Kd.S_nil _ _ _ _ _, by exact bw HB.out⟩
 ·rw [if_neg c2] at H; have c2b0 : decide (a0 < 1) = false := decide_eq_false c2; clear c2; by_cases c5 : a0 > 4
  ·rw [if_pos c5] at H; have c5b0 : decide (4 < a0) = true := decide_eq_true c5; clear c5; simp only [Option.some.injEq, Prod.mk.injEq] at H; obtain ⟨rfl, rfl, rfl⟩ := H; go_enter Try.func20, Try.ntmps20; go_wp2_with (first | ((with_reducible refine gx 2 rfl ?_); refine be (cs := #[.int .i64 0, .slice none 0 0]) (t := 27) ?_; intro gb113 hg w6 hbox hb; have n0_ := hs HB hb; have n1_ := am (hbox); have n2_ := gs hg (bz HB.out); have n3_ := gs hg (bz HB.out); clear HB; revert n0_ n1_ n2_ n3_; intro HB BK113 GW113 GE113; clear hb hbox hg; have hz7 := zf2 BK113.out)); refine bodyPost_ret (results_ct rfl _ _ gb113 27 #[.int .i64 0, .slice none 0 0] (0, 0) _ rfl (kp BK113.out) Try.underlying27 rfl (by kernel_rfl)) rfl ?_; exact ⟨_, by first | rfl | (simp [errW_none, errW_some] <;> rfl) | (simp [*, errW_none, errW_some] <;> rfl), by first | exact Kd.R_nil _ _ _ _ _ | exact Kd.N_nil _ _ _ _ _ | exact Kd.V_nil _ _ _ _ _ | exact Kd.Q_nil _ _ _ _ _ | exact Kd.S_nil _ _ _ _ _, by exact bw HB.out⟩
  ·rw [if_neg c5] at H; have c5b0 : decide (4 < a0) = false := decide_eq_false c5; clear c5; replace H := Option.bind_eq_some_iff.mp H; obtain ⟨⟨t114, t115⟩, A80, H⟩ := H; (try dsimp only at H); have A8 := am A80; clear A80; simp only [Option.some.injEq, Prod.mk.injEq] at H; obtain ⟨rfl, rfl, rfl⟩ := H; go_enter Try.func20, Try.ntmps20; go_wp2_with (first | ((with_reducible refine gx 2 rfl ?_); refine be (cs := #[.int .i64 0, .slice none 0 0]) (t := 27) ?_; intro gb113 hg w9 hbox hb; have n0_ := hs HB hb; have n1_ := am (hbox); have n2_ := gs hg (bz HB.out); have n3_ := gs hg (bz HB.out); clear HB; revert n0_ n1_ n2_ n3_; intro HB BK113 GW113 GE113; clear hb hbox hg) | ((with_reducible refine gy 47 rfl ?_); refine gl Try.func47 #[.int .i64 a0, .func (.func 48) #[] #[]] ?_; (with_reducible refine (impl_filled_at_impl_UnitMatrix_1.calls k a0 t114 t115 _ A8.out).mono ?_); rintro e w10 ⟨v116, rfl, ho0, hb⟩; refine ⟨_, rfl, ?_⟩; have n0_ := am (Kd.R_lower ho0 (below_size (bw HB.out))); have n1_ := bk BK113 hb; have n2_ := hs HB hb; clear BK113 HB; revert n0_ n1_ n2_; intro HO117 BK113 HB; (try clear hb); (try clear hb2); (try clear hk); (try clear hi); (try clear ho0); have hz11 := zf2 BK113.out; obtain ⟨Ao12, co12, eo12⟩ := Kd.R_slice HO117.out; subst eo12)); refine bodyPost_ret (results_ct rfl _ _ gb113 27 #[.int .i64 t114, .slice Ao12 t115.length co12] (0, 0) _ rfl (kp BK113.out) Try.underlying27 rfl (by kernel_rfl)) rfl ?_; exact ⟨_, by first | rfl | (simp [errW_none, errW_some] <;> rfl) | (simp [*, errW_none, errW_some] <;> rfl), rq (Kd.R_mono (q2 HO117.out BK113.out (by decide)) (fun _ hk => trivial)), by exact bw HB.out⟩

/-! ### impl_Matrix_at: function 52 -/
def impl_Matrix_at.f (a0_0 : Int) (l0_1 : List Int) (a1 : Int) (a2 : Int) : Option (Int) := if 0 ≤ (wrap64 ((wrap64 (a1 * a0_0)) + a2)) then (if (wrap64 ((wrap64 (a1 * a0_0)) + a2)) < (l0_1.length : Int) then (some (rd l0_1 (wrap64 ((wrap64 (a1 * a0_0)) + a2)))) else (none)) else (none)
set_option maxHeartbeats 8000000 in
set_option maxRecDepth 100000 in
theorem impl_Matrix_at.calls (a0_0 : Int) (A0_1 : Option Addr) (c0_1 : Nat) (l0_1 : List Int) (a1 : Int) (a2 : Int) (r : Int) (w : World) (hr0_1 : Kd.C (Kd.int .i64) w A0_1 l0_1.length l0_1) (hc0_1 : l0_1.length ≤ c0_1) (h : impl_Matrix_at.f a0_0 l0_1 a1 a2 = some r) :
  Calls Try.prog 52 #[.agg #[.int .i64 a0_0, .slice A0_1 l0_1.length c0_1], .int .i64 a1, .int .i64 a2] w fun e w' => e = .returned (.int .i64 r) ∧ Below w.heap.size w w' := by
 have hu27 := Try.underlying27; have HR0_1 := am hr0_1; have HC0_1 := am hc0_1; clear hr0_1 hc0_1; have HB := am (Below.refl w.heap.size w); have H : (if 0 ≤ (wrap64 ((wrap64 (a1 * a0_0)) + a2)) then (if (wrap64 ((wrap64 (a1 * a0_0)) + a2)) < (l0_1.length : Int) then (some (rd l0_1 (wrap64 ((wrap64 (a1 * a0_0)) + a2)))) else (none)) else (none)) = some r := h; clear h; obtain ⟨ji4, hji4⟩ : ∃ j_ : Int, (wrap64 ((wrap64 (a1 * a0_0)) + a2)) = j_ := ⟨_, rfl⟩
 replace H : (if 0 ≤ (ji4) then (if (ji4) < (l0_1.length : Int) then (some (rd l0_1 (ji4))) else (none)) else (none)) = some r := by first | (rw [hji4] at H; exact H) | (simp only [hji4] at H ⊢; exact H)
 have hji4w : (IntKind.i64.wrap ((wrap64 (a1 * a0_0)) + a2)) = ji4 := (i64_w _).trans hji4; by_cases c5 : 0 ≤ (ji4)
 ·rw [if_pos c5] at H; have c5b0 : decide (0 ≤ (ji4)) = true := decide_eq_true c5; clear c5; by_cases c6 : (ji4) < (l0_1.length : Int)
  ·rw [if_pos c6] at H; have c6b0 : decide ((ji4) < (l0_1.length : Int)) = true := decide_eq_true c6; clear c6; obtain rfl := Option.some.inj H; go_enter Try.func52, Try.ntmps52; go_wp2_with (first | ((with_reducible refine gx 3 rfl ?_); refine be (cs := #[.int .i64 a0_0, .slice A0_1 l0_1.length c0_1]) (t := 27) ?_; intro gb118 hg w7 hbox hb; have n0_ := hs HB hb; have n1_ := am (hbox); have n2_ := gs hg (bz HB.out); have n3_ := gs hg (bz HB.out); clear HB; revert n0_ n1_ n2_ n3_; intro HB BK118 GW118 GE118; clear hb hbox hg; have hz8 := zf2 BK118.out; have p119 : 0 ≤ ((ji4) : Int) := da; have q119 : (ji4) < (l0_1.length : Int) := da; obtain ⟨ad119, e119, hx119_0⟩ := Kd.at_int HR0_1.out (ji4) p119 q119; cases e119; replace hx119_0 := lx (bw HB.out) hx119_0; replace p119 := eq_true p119; replace q119 := eq_true q119)); go_ret; exact ⟨by first | rfl | (simp [errW_none, errW_some] <;> rfl) | (simp only [← hji4]; first | rfl | (simp [errW_none, errW_some] <;> rfl)) | (simp [*, errW_none, errW_some] <;> rfl), by exact bw HB.out⟩
  ·rw [if_neg c6] at H; exact absurd H (by simp)
 ·rw [if_neg c5] at H; exact absurd H (by simp)

/-! ### impl_TurnMatrix_1: function 51 -/
def impl_TurnMatrix_1.f (a0 : Int) (a1 : Int) (a2_0 : Int) (l2_1 : List Int) : Option (Int) := (impl_Matrix_at.f a2_0 l2_1 a1 a0).bind fun t121 => (some t121)
set_option maxHeartbeats 8000000 in
set_option maxRecDepth 100000 in
theorem impl_TurnMatrix_1.calls (a0 : Int) (a1 : Int) (a2_0 : Int) (A2_1 : Option Addr) (c2_1 : Nat) (l2_1 : List Int) (r : Int) (w : World) (hr2_1 : Kd.C (Kd.int .i64) w A2_1 l2_1.length l2_1) (hc2_1 : l2_1.length ≤ c2_1) (h : impl_TurnMatrix_1.f a0 a1 a2_0 l2_1 = some r) (gb120 : Nat) (hk0_ : w.heap[gb120]? = some (.cells #[.int .i64 a2_0, .slice A2_1 l2_1.length c2_1] 27 (0, 0))) :
  Calls Try.prog 51 #[.int .i64 a0, .int .i64 a1, .pointer (some ⟨gb120, 0, none⟩)] w fun e w' => e = .returned (.int .i64 r) ∧ Below w.heap.size w w' := by
 have hu27 := Try.underlying27; have HR2_1 := am hr2_1; have HC2_1 := am hc2_1; clear hr2_1 hc2_1; have BK120 := am hk0_; clear hk0_; have hcz120_0_ := cz20 BK120.out; have hfz120_0_ := blk_frozen BK120.out 0; have hcz120_1_ := cz21 BK120.out; have hfz120_1_ := blk_frozen BK120.out 1; have HB := am (Below.refl w.heap.size w); have H : ((impl_Matrix_at.f a2_0 l2_1 a1 a0).bind fun t121 => (some t121)) = some r := h; clear h; replace H := Option.bind_eq_some_iff.mp H; obtain ⟨t121, A40, H⟩ := H; (try dsimp only at H); have A4 := am A40; clear A40; obtain rfl := Option.some.inj H; go_enter Try.func51, Try.ntmps51; go_wp2_with (first | ((with_reducible refine gx 2 rfl ?_); refine be (cs := #[.int .i64 a2_0, .slice A2_1 l2_1.length c2_1]) (t := 27) ?_; intro gb120 hg w hbox hb; have n0_ := hs HB hb; have n1_ := am (hbox); have n2_ := gs hg (bz HB.out); have n3_ := gs hg (bz HB.out); clear HB; revert n0_ n1_ n2_ n3_; intro HB BK120 GW120 GE120; clear hb hbox hg; have hz6 := zf2 BK120.out) | ((with_reducible refine gy 52 rfl ?_); refine gl Try.func52 #[.agg #[.int .i64 a2_0, .slice A2_1 l2_1.length c2_1], .int .i64 a1, .int .i64 a0] ?_; (with_reducible refine (impl_Matrix_at.calls a2_0 _ _ l2_1 a1 a0 t121 _ ?side1 ?side2 A4.out).mono ?_); (case side1 => exact cc (Kd.C_below HR2_1.out HB.out)); (case side2 => exact HC2_1.out); rintro e w7 ⟨rfl, hb⟩; refine ⟨_, rfl, ?_⟩; have n0_ := bk BK120 hb; have n1_ := hs HB hb; clear BK120 HB; revert n0_ n1_; intro BK120 HB; (try clear hb); (try clear hb2); (try clear hk); (try clear hi))); go_ret; exact ⟨by first | rfl | (simp [errW_none, errW_some] <;> rfl) | (simp [*, errW_none, errW_some] <;> rfl), by exact bw HB.out⟩

/-! ### impl_filled_at_impl_TurnMatrix_1: function 200003 -/
mutual
def impl_filled_at_impl_TurnMatrix_1.l0 : Nat → Int → Int → Int → Int → List Int → Int → List Int → Option (Int × List Int)
 | 0, _, _, _, _, _, _, _ => none
 | k + 1, x0, x10, x11, x123000, x123001, x125000, x125001 => if x11 < x10 then (impl_filled_at_impl_TurnMatrix_1.l1 k x0 x11 x10 x11 x0 0 x123000 x123001 x125000 x125001) else (some (x125000, x125001))
def impl_filled_at_impl_TurnMatrix_1.l1 : Nat → Int → Int → Int → Int → Int → Int → Int → List Int → Int → List Int → Option (Int × List Int)
 | 0, _, _, _, _, _, _, _, _, _, _ => none
 | k + 1, x0, x6, x10, x11, x14, x15, x123000, x123001, x125000, x125001 => if x15 < x14 then ((impl_TurnMatrix_1.f x6 x15 x123000 x123001).bind fun t125 => (if x125001.length < 17592186044416 then (impl_filled_at_impl_TurnMatrix_1.l1 k x0 x6 x10 x11 x14 (wrap64 (x15 + 1)) x123000 x123001 x125000 (x125001 ++ [t125])) else (none))) else (impl_filled_at_impl_TurnMatrix_1.l0 k x0 x10 (wrap64 (x11 + 1)) x123000 x123001 x125000 x125001)
end
def impl_filled_at_impl_TurnMatrix_1.f (k : Nat) (a0 : Int) (a1_0 : Int) (l1_1 : List Int) : Option (Int × List Int) := impl_filled_at_impl_TurnMatrix_1.l0 k a0 a0 0 a1_0 l1_1 a0 ([] : List Int)
theorem impl_filled_at_impl_TurnMatrix_1.mono_l : ∀ k, (∀ y0 y1 y2 y3 y4 y5 y6, LeO (impl_filled_at_impl_TurnMatrix_1.l0 k y0 y1 y2 y3 y4 y5 y6) (impl_filled_at_impl_TurnMatrix_1.l0 (k + 1) y0 y1 y2 y3 y4 y5 y6)) ∧ (∀ y0 y1 y2 y3 y4 y5 y6 y7 y8 y9, LeO (impl_filled_at_impl_TurnMatrix_1.l1 k y0 y1 y2 y3 y4 y5 y6 y7 y8 y9) (impl_filled_at_impl_TurnMatrix_1.l1 (k + 1) y0 y1 y2 y3 y4 y5 y6 y7 y8 y9))
 | 0 => ⟨fun _ _ _ _ _ _ _ r h => by simp [impl_filled_at_impl_TurnMatrix_1.l0] at h, fun _ _ _ _ _ _ _ _ _ _ r h => by simp [impl_filled_at_impl_TurnMatrix_1.l1] at h⟩
 | k + 1 => by
  obtain ⟨ih0, ih1⟩ := impl_filled_at_impl_TurnMatrix_1.mono_l k; refine ⟨?_, ?_⟩
  ·intro y0 y1 y2 y3 y4 y5 y6; unfold impl_filled_at_impl_TurnMatrix_1.l0; repeat' first
   | (with_reducible exact ih0 _ _ _ _ _ _ _)
   | (with_reducible exact ih1 _ _ _ _ _ _ _ _ _ _)
   | (with_reducible exact LeO.refl _)
   | (with_reducible exact LeO.none _)
   | (with_reducible refine LeO.ite ?_ ?_)
   | (with_reducible refine LeO.bind ?_ (fun _ => ?_))
   | exact ih0 _ _ _ _ _ _ _
   | exact ih1 _ _ _ _ _ _ _ _ _ _
   | exact LeO.none _
   | refine LeO.ite ?_ ?_
   | refine LeO.bind ?_ (fun _ => ?_)
  ·intro y0 y1 y2 y3 y4 y5 y6 y7 y8 y9; unfold impl_filled_at_impl_TurnMatrix_1.l1; repeat' first
   | (with_reducible exact ih0 _ _ _ _ _ _ _)
   | (with_reducible exact ih1 _ _ _ _ _ _ _ _ _ _)
   | (with_reducible exact LeO.refl _)
   | (with_reducible exact LeO.none _)
   | (with_reducible refine LeO.ite ?_ ?_)
   | (with_reducible refine LeO.bind ?_ (fun _ => ?_))
   | exact ih0 _ _ _ _ _ _ _
   | exact ih1 _ _ _ _ _ _ _ _ _ _
   | exact LeO.none _
   | refine LeO.ite ?_ ?_
   | refine LeO.bind ?_ (fun _ => ?_)
theorem impl_filled_at_impl_TurnMatrix_1.mono : ∀ a0 a1 a2 k, LeO (impl_filled_at_impl_TurnMatrix_1.f k a0 a1 a2) (impl_filled_at_impl_TurnMatrix_1.f (k + 1) a0 a1 a2) := by
 intro a0 a1 a2 k; obtain ⟨ih0, ih1⟩ := impl_filled_at_impl_TurnMatrix_1.mono_l k; unfold impl_filled_at_impl_TurnMatrix_1.f; repeat' first
   | (with_reducible exact ih0 _ _ _ _ _ _ _)
   | (with_reducible exact ih1 _ _ _ _ _ _ _ _ _ _)
   | (with_reducible exact LeO.refl _)
   | (with_reducible exact LeO.none _)
   | (with_reducible refine LeO.ite ?_ ?_)
   | (with_reducible refine LeO.bind ?_ (fun _ => ?_))
   | exact ih0 _ _ _ _ _ _ _
   | exact ih1 _ _ _ _ _ _ _ _ _ _
   | exact LeO.none _
   | refine LeO.ite ?_ ?_
   | refine LeO.bind ?_ (fun _ => ?_)
def impl_filled_at_impl_TurnMatrix_1.T8 : Bool × List (List Nat × List Nat) := (true, [([], []), ([0], [0]), ([], []), ([], []), ([], []), ([2, 3, 4], [2, 3, 4]), ([5], [5]), ([1, 6, 5], [1, 6]), ([0, 1, 2, 3, 4, 5, 6, 7], []), ([8, 7, 7, 0, 1, 2, 3, 4, 5, 6, 7], [7, 8])])
def impl_filled_at_impl_TurnMatrix_1.B8 : List Nat := [0, 1, 0, 0, 0, 28, 60, 127, 255, 511]
theorem impl_filled_at_impl_TurnMatrix_1.tab8 : rtab .any (opsOf Try.f47 8) = impl_filled_at_impl_TurnMatrix_1.T8 := by kernel_rfl
theorem impl_filled_at_impl_TurnMatrix_1.bits8 : waitsOk impl_filled_at_impl_TurnMatrix_1.T8.2 impl_filled_at_impl_TurnMatrix_1.B8 = true := by kernel_rfl
set_option maxHeartbeats 8000000 in
set_option maxRecDepth 100000 in
theorem impl_filled_at_impl_TurnMatrix_1.calls (k : Nat) (a0 : Int) (a1_0 : Int) (A1_1 : Option Addr) (c1_1 : Nat) (l1_1 : List Int) (r1 : Int) (r2 : List Int) (w : World) (hr1_1 : Kd.C (Kd.int .i64) w A1_1 l1_1.length l1_1) (hc1_1 : l1_1.length ≤ c1_1) (h : impl_filled_at_impl_TurnMatrix_1.f k a0 a1_0 l1_1 = some (r1, r2)) (gb122 : Nat) (hk0_ : w.heap[gb122]? = some (.cells #[.int .i64 a1_0, .slice A1_1 l1_1.length c1_1] 27 (0, 0))) :
  Calls Try.prog 47 #[.int .i64 a0, .func (.func 51) #[] #[.pointer (some ⟨gb122, 0, none⟩)]] w fun e w' => ∃ v1_ : Value, e = .returned (.agg #[.int .i64 r1, v1_]) ∧ Kd.R (Kd.int .i64) 3 w' w.heap.size (fun _ => True) v1_ r2 ∧ Below w.heap.size w w' := by
 have hu27 := Try.underlying27; have HR1_1 := am hr1_1; have HC1_1 := am hc1_1; clear hr1_1 hc1_1; have BK122 := am hk0_; clear hk0_; have hcz122_0_ := cz20 BK122.out; have hfz122_0_ := blk_frozen BK122.out 0; have hcz122_1_ := cz21 BK122.out; have hfz122_1_ := blk_frozen BK122.out 1; have HB := am (Below.refl w.heap.size w); have H : (impl_filled_at_impl_TurnMatrix_1.l0 k a0 a0 0 a1_0 l1_1 a0 ([] : List Int)) = some (r1, r2) := h; clear h; have H' := am H; clear H; go_enter Try.func47, Try.ntmps47; go_wp2_with (first | ((with_reducible refine gx 1 rfl ?_); refine be (cs := #[.int .i64 a1_0, .slice A1_1 l1_1.length c1_1]) (t := 27) ?_; intro gb122 hg w hbox hb; have n0_ := hs HB hb; have n1_ := am (hbox); have n2_ := gs hg (bz HB.out); have n3_ := gs hg (bz HB.out); clear HB; revert n0_ n1_ n2_ n3_; intro HB BK122 GW122 GE122; clear hb hbox hg) | ((with_reducible refine gx 4 rfl ?_); refine be (cs := #[.int .i64 0, .slice none 0 0]) (t := 27) ?_; intro gb123 hg w4 hbox hb; have n0_ := bk BK122 hb; have n1_ := hs HB hb; have n2_ := am (hbox); have n3_ := gs hg (bw HB.out); have n4_ := gs hg (bw HB.out); have n5_ := nl hg (kz BK122.out); have n6_ := nr hg (kz BK122.out); clear BK122 HB; revert n0_ n1_ n2_ n3_ n4_ n5_ n6_; intro BK122 HB BK123 GW123 GE123 NB122_123 NB123_122; clear hb hbox hg) | ((with_reducible refine gx 5 rfl ?_); refine be (cs := #[.int .i64 0, .slice none 0 0]) (t := 27) ?_; intro gb124 hg w5 hbox hb; have n0_ := bk BK122 hb; have n1_ := bk BK123 hb; have n2_ := hs HB hb; have n3_ := am (hbox); have n4_ := gs hg (bw HB.out); have n5_ := gs hg (bw HB.out); have n6_ := nl hg (kz BK122.out); have n7_ := nr hg (kz BK122.out); have n8_ := nl hg (kz BK123.out); have n9_ := nr hg (kz BK123.out); clear BK122 BK123 HB; revert n0_ n1_ n2_ n3_ n4_ n5_ n6_ n7_ n8_ n9_; intro BK122 BK123 HB BK124 GW124 GE124 NB122_124 NB124_122 NB123_124 NB124_123; clear hb hbox hg; have hnb6 := NB124_122.out; have hnc6 := NB122_124.out; have hnb7 := NB124_123.out; have hnc7 := NB123_124.out; have hz8 := zf2 BK124.out)); go_loopg [11] k (fun kq v11 w' => ∃ (x11_1 : Int) (x125001_1 : List Int) (u125001 : Value), v11 = .int .i64 x11_1 ∧ Aside0 (impl_filled_at_impl_TurnMatrix_1.l0 kq a0 a0 x11_1 a1_0 l1_1 a0 x125001_1 = some (r1, r2)) ∧ Aside0 (kq ≤ k) ∧ Aside0 (Kd.R (Kd.int .i64) 3 w' w.heap.size (fun _ => True) u125001 x125001_1) ∧ Aside0 (w'.heap[gb122]? = some (.cells #[.int .i64 a1_0, (.slice A1_1 l1_1.length c1_1)] 27 (0, 0))) ∧ Aside0 (w'.heap[gb123]? = some (.cells #[.int .i64 0, (.slice none 0 0)] 27 (0, 0))) ∧ Aside0 (w'.heap[gb124]? = some (.cells #[.int .i64 a0, u125001] 27 (0, 0))) ∧ Aside0 (Below w.heap.size w w'))
 case atStart => exact ⟨(0), (([] : List Int)), (.slice none 0 0), (by first | rfl | (simp; done) | (simp [*]; done)), H', ⟨Nat.le_refl _⟩, ⟨by first | exact Kd.R_nil _ _ _ _ _ | exact Kd.N_nil _ _ _ _ _ | exact Kd.V_nil _ _ _ _ _ | exact Kd.Q_nil _ _ _ _ _ | exact Kd.S_nil _ _ _ _ _⟩, ⟨kp BK122.out⟩, ⟨kp BK123.out⟩, ⟨kp BK124.out⟩, ⟨by exact bw HB.out⟩⟩
 case round =>
  clear H'; (try clear c1); (try clear c2); (try clear p2); (try clear c6); (try clear c7); obtain ⟨x11_1, x125001_1, u125001, rfl, HA, HK1, HO_125001, BK122, BK123, BK124, HB⟩ := hrel
  cases gk with
  | zero => exact absurd HA.out (by simp [impl_filled_at_impl_TurnMatrix_1.l0])
  | succ k1 =>
   have H := HA.out; clear HA; simp only [impl_filled_at_impl_TurnMatrix_1.l0] at H; by_cases c9 : x11_1 < a0
   ·rw [if_pos c9] at H; have c9b0 : decide (x11_1 < a0) = true := decide_eq_true c9; clear c9; have H' := am H; clear H; go_wp2; go_loopg [15] k1 (fun kq v15 w' => ∃ (x15_2 : Int) (x125001_2 : List Int) (u125001 : Value), v15 = .int .i64 x15_2 ∧ Aside0 (impl_filled_at_impl_TurnMatrix_1.l1 kq a0 x11_1 a0 x11_1 a0 x15_2 a1_0 l1_1 a0 x125001_2 = some (r1, r2)) ∧ Aside0 (kq ≤ k1) ∧ Aside0 (Kd.R (Kd.int .i64) 3 w' w.heap.size (fun _ => True) u125001 x125001_2) ∧ Aside0 (w'.heap[gb122]? = some (.cells #[.int .i64 a1_0, (.slice A1_1 l1_1.length c1_1)] 27 (0, 0))) ∧ Aside0 (w'.heap[gb123]? = some (.cells #[.int .i64 0, (.slice none 0 0)] 27 (0, 0))) ∧ Aside0 (w'.heap[gb124]? = some (.cells #[.int .i64 a0, u125001] 27 (0, 0))) ∧ Aside0 (Below w.heap.size w w'))
    case atStart => exact ⟨(0), (x125001_1), (u125001), (by first | rfl | (simp; done) | (simp [*]; done)), H', ⟨Nat.le_refl _⟩, ⟨rz HO_125001.out⟩, ⟨kz BK122.out⟩, ⟨kz BK123.out⟩, ⟨kz BK124.out⟩, ⟨by exact bw HB.out⟩⟩
    case round =>
     clear H'; (try clear c1); (try clear c2); (try clear p2); (try clear c6); (try clear c7); (try clear c9); (try clear c9b0); (try clear p2); obtain ⟨x15_2, x125001_2, u125001, rfl, HA, HK2, HO_125001, BK122, BK123, BK124, HB⟩ := hrel
     cases gk with
     | zero => exact absurd HA.out (by simp [impl_filled_at_impl_TurnMatrix_1.l1])
     | succ k2 =>
      have H := HA.out; clear HA; simp only [impl_filled_at_impl_TurnMatrix_1.l1] at H; by_cases c10 : x15_2 < a0
      ·rw [if_pos c10] at H; have c10b0 : decide (x15_2 < a0) = true := decide_eq_true c10; clear c10; replace H := Option.bind_eq_some_iff.mp H; obtain ⟨t125, A110, H⟩ := H; (try dsimp only at H); have A11 := am A110; clear A110; by_cases c12 : x125001_2.length < 17592186044416
       ·rw [if_pos c12] at H; have LMc12 := am c12; clear c12; obtain ⟨y126, hy126⟩ : ∃ y_ : List Int, y_ = (x125001_2 ++ [t125]) := ⟨_, rfl⟩
        replace H : (impl_filled_at_impl_TurnMatrix_1.l1 k2 a0 x11_1 a0 x11_1 a0 (wrap64 (x15_2 + 1)) a1_0 l1_1 a0 y126) = some (r1, r2) := by first | (rw [hy126]; with_reducible exact H) | (have H2_ := (Option.bind_some _ _).symm.trans H; rw [hy126]; with_reducible exact H2_) | (have H2_ := (Option.bind_some _ _).symm.trans H; with_reducible exact H2_) | with_reducible exact H | (rw [hy126]; exact H) | exact H
        have Ny126 := am hy126; clear hy126; have H' := am H; clear H; (try go_wp2); have n0_ := am (Kd.R_drew HO_125001.out); have n1_ := am (blk_drew BK122.out); have n2_ := am (blk_drew BK123.out); have n3_ := am (blk_drew BK124.out); have n4_ := am (below_drew1 HB.out); clear HO_125001 BK122 BK123 BK124 HB; revert n0_ n1_ n2_ n3_ n4_; intro HO_125001 BK122 BK123 BK124 HB; refine start_ (n := 10) (S := fun w' => w'.cell? ⟨gb124, 0, none⟩ = some (.int .i64 a0) ∧ w'.cell? ⟨gb124, 1, none⟩ = some (u125001)) (ds := [9]) (mkp 10 0) (by kernel_rfl) rfl rfl ⟨bl BK124.out 0, bl BK124.out 1⟩ (fun hHeld => ?_); refine with_tabW impl_filled_at_impl_TurnMatrix_1.tab8 impl_filled_at_impl_TurnMatrix_1.bits8 (fun HT_ HW_ => ?_); generalize wr.drew = w13 at HO_125001 BK122 BK123 BK124 HB hHeld ⊢; refine qv HT_ ?_; refine pv 2 20 10 5 HT_ ?_; refine pv 3 21 10 13 HT_ ?_; refine pv 4 22 10 29 HT_ ?_; refine tkm 1 19 (mkp 10 5) HT_ HW_ hHeld ?_; refine on 5 (mkp 10 6) HT_ (fun K hK => ?_); refine goesV Try.func51 (by kernel_rfl) rfl #[.int .i64 x11_1, .int .i64 x15_2] #[.pointer (some ⟨gb122, 0, none⟩)] #[.int .i64 x11_1, .int .i64 x15_2, .pointer (some ⟨gb122, 0, none⟩)] (by rfl) rfl rfl rfl (by (try simp only [List.map_toArray, List.map_cons, List.map_nil]); first | done | rfl | (simp only [List.length_drop, List.length_take]; rfl)) rfl ?_
        with_reducible refine (impl_TurnMatrix_1.calls x11_1 x15_2 a1_0 _ _ l1_1 t125 _ ?side1 ?side2 A11.out gb122 (kz BK122.out)).mono ?_
        (case side1 => exact cc (Kd.C_below HR1_1.out HB.out)); (case side2 => exact HC1_1.out); rintro e w14 ⟨rfl, hb⟩; refine ⟨_, rfl, ?_⟩; have n0_ := rb HO_125001 hb; have n1_ := bk BK122 hb; have n2_ := bk BK123 hb; have n3_ := bk BK124 hb; have n4_ := hs HB hb; clear HO_125001 BK122 BK123 BK124 HB; revert n0_ n1_ n2_ n3_ n4_; intro HO_125001 BK122 BK123 BK124 HB; (try clear hb); (try clear hb2); (try clear hk); (try clear hi); refine hK.out _ _ ⟨bl BK124.out 0, bl BK124.out 1⟩ (fun hHeld => ?_); clear hK K; refine norm_ (a' := ?_) ?_ ?_; rotate_left
        ·show Act.put _ (some 23) _ = _; simp only [Act.put, List.setIfInBounds_toArray, List.set_cons_zero, List.set_cons_succ, i64_w, i32_w]; rfl
        refine on 6 (mkp 10 7) HT_ (fun K hK => ?_); refine value_ (w1 := ?_) (v := ?_) (by rfl) rfl ?_ ?_; rotate_left 2
        ·go_simp; constructor
         ·rfl
         ·rfl
        refine hK.out _ _ ⟨(blk_cell (blk_alloc BK124.out _) 0).trans rfl, (blk_cell (blk_alloc BK124.out _) 1).trans rfl⟩ (fun hHeld => ?_); clear hK K; refine norm_ (a' := ?_) ?_ ?_; rotate_left
        ·show Act.put _ (some 24) _ = _; simp only [Act.put, List.setIfInBounds_toArray, List.set_cons_zero, List.set_cons_succ, i64_w, i32_w]; rfl
        refine on 7 (mkp 10 8) HT_ (fun K hK => ?_); refine Kd.R_append_step (Kd.int .i64) (w0 := w) w.heap.size (by rfl) (.tmp 19) (.tmp 24) 22 3 (.int .i64 0) 8 rfl Try.underlying22 info3 rfl (by decide) (by omega) u125001 x125001_2 t125 [.int .i64 t125] (fun _ => True) (fun _ => False) rfl rfl ?aP (fun _ hk => hk.elim) ?aF ?aO ?aB ?aS ?aL ?_; (case aP => exact rfl); (case aB => exact (bw HB.out)); (case aF => exact (fun _ _ => trivial)); (case aO => exact (rz HO_125001.out)); (case aS => exact (below_size (bw HB.out))); (case aL => have := LMc12.out; omega); intro v127 w15 ho hb hg hat; rw [← Ny126.out] at ho; have n0_ := am (blk_grown (kz BK122.out) hg (Kd.R_ne HO_125001.out BK122.out (by decide))); have n1_ := am (blk_grown (kz BK123.out) hg (Kd.R_ne HO_125001.out BK123.out (by decide))); have n2_ := am (blk_grown (kz BK124.out) hg (Kd.R_ne HO_125001.out BK124.out (by decide))); have n3_ := am (hb); have n4_ := am (ho); clear BK122 BK123 BK124 HB HO_125001; revert n0_ n1_ n2_ n3_ n4_; intro BK122 BK123 BK124 HB HO128; clear ho hb hg hat; obtain ⟨Ao16, co16, eo16⟩ := Kd.R_slice HO128.out; (first | subst eo16 | (injection eo16 with f1_ f2_ f3_; have f4_ := f1_.symm; have f5_ := f3_.symm; clear f1_ f2_ f3_; subst f4_; subst f5_)); refine hK.out _ _ ⟨bl BK124.out 0, bl BK124.out 1⟩ (fun hHeld => ?_); clear hK K; refine norm_ (a' := ?_) ?_ ?_; rotate_left
        ·show Act.put _ (some 25) _ = _; simp only [Act.put, List.setIfInBounds_toArray, List.set_cons_zero, List.set_cons_succ, i64_w, i32_w]; rfl
        refine qv HT_ ?_; refine last_ (i := 9) (N := none) (mkp 10 10) rfl rfl (one_of HT_.out (by kernel_rfl)) (by decide) (fun K hK => ?_); have hs17 : w15.cell? ⟨gb124, 1, none⟩ = some (u125001) := bl BK124.out 1; have hfs17 := blk_frozen BK124.out 1; have hns17_0 := NB122_124.out; have hns17_1 := NB123_124.out; have hms17_0 := NB124_122.out; have hms17_1 := NB124_123.out; refine skip_ (w1 := ?_) (by rfl) rfl ?_ ?_; rotate_left
        ·go_simp; rfl
        refine hK.out _ _ ?_; clear hK K; refine done_ (done_of HT_.out (by kernel_rfl)) ?_; (try go_wp2); go_roundg k2
        case measure => have := HK1.out; have := HK2.out; omega
        case rel => exact ⟨(wrap64 (x15_2 + 1)), (y126), (.slice Ao16 y126.length co16), (by first | rfl | (simp; done) | (simp [*]; done)), H', ⟨by have := HK1.out; have := HK2.out; omega⟩, ⟨rq (Kd.R_mono (q1 HO128.out BK124.out (by decide)) (fun _ hk => trivial))⟩, ⟨kp BK122.out⟩, ⟨kp BK123.out⟩, ⟨kp BK124.out⟩, ⟨by exact bw HB.out⟩⟩
       ·rw [if_neg c12] at H; exact absurd H (by simp)
      ·rw [if_neg c10] at H; have c10b0 : decide (x15_2 < a0) = false := decide_eq_false c10; clear c10; have H' := am H; clear H; go_wp2; go_roundg k2
       case measure => have := HK1.out; have := HK2.out; omega
       case rel => exact ⟨(wrap64 (x11_1 + 1)), (x125001_2), (u125001), (by first | rfl | (simp; done) | (simp [*]; done)), H', ⟨by have := HK1.out; have := HK2.out; omega⟩, ⟨rz HO_125001.out⟩, ⟨kz BK122.out⟩, ⟨kz BK123.out⟩, ⟨kz BK124.out⟩, ⟨by exact bw HB.out⟩⟩
   ·rw [if_neg c9] at H; have c9b0 : decide (x11_1 < a0) = false := decide_eq_false c9; clear c9; simp only [Option.some.injEq, Prod.mk.injEq] at H; obtain ⟨rfl, rfl⟩ := H; have hnb18 := NB124_122.out; have hnc18 := NB122_124.out; have hnb19 := NB124_123.out; have hnc19 := NB123_124.out; have hz20 := zf2 BK124.out; have hnb21 := NB123_122.out; have hnc21 := NB122_123.out; have hz22 := zf2 BK123.out; obtain ⟨Ao23, co23, eo23⟩ := Kd.R_slice HO_125001.out; subst eo23; go_wp2; refine bodyPost_ret (results_cell_row rfl _ _ gb123 27 #[.int .i64 a0, .slice Ao23 x125001_1.length co23] (0, 0) _ rfl (kp BK123.out) Try.underlying27 rfl (by kernel_rfl)) rfl ?_; exact ⟨_, by first | rfl | (simp [errW_none, errW_some] <;> rfl) | (simp [*, errW_none, errW_some] <;> rfl), rq (Kd.R_mono (q2 HO_125001.out BK123.out (by decide)) (fun _ hk => trivial)), by exact bw HB.out⟩

/-! ### impl_TurnMatrix: function 24 -/
def impl_TurnMatrix.f (k : Nat) (a0_0 : Int) (l0_1 : List Int) : Option (Int × List Int × Bool) := (impl_MatrixValid.f k a0_0 l0_1).bind fun t131 => (if t131 = true then ((impl_filled_at_impl_TurnMatrix_1.f k a0_0 a0_0 l0_1).bind fun bt132 => (some (bt132.1, bt132.2, true))) else (some (0, ([] : List Int), false)))
theorem impl_TurnMatrix.mono : ∀ a0 a1 k, LeO (impl_TurnMatrix.f k a0 a1) (impl_TurnMatrix.f (k + 1) a0 a1) := by
 intro a0 a1 k; unfold impl_TurnMatrix.f; repeat' first
   | (with_reducible exact impl_MatrixValid.mono _ _ _)
   | (with_reducible exact impl_filled_at_impl_TurnMatrix_1.mono _ _ _ _)
   | (with_reducible exact LeO.refl _)
   | (with_reducible exact LeO.none _)
   | (with_reducible refine LeO.ite ?_ ?_)
   | (with_reducible refine LeO.bind ?_ (fun _ => ?_))
   | exact impl_MatrixValid.mono _ _ _
   | exact impl_filled_at_impl_TurnMatrix_1.mono _ _ _ _
   | exact LeO.none _
   | refine LeO.ite ?_ ?_
   | refine LeO.bind ?_ (fun _ => ?_)
set_option maxHeartbeats 8000000 in
set_option maxRecDepth 100000 in
theorem impl_TurnMatrix.calls (k : Nat) (a0_0 : Int) (A0_1 : Option Addr) (c0_1 : Nat) (l0_1 : List Int) (r1 : Int) (r2 : List Int) (r3 : Bool) (w : World) (hr0_1 : Kd.C (Kd.int .i64) w A0_1 l0_1.length l0_1) (hc0_1 : l0_1.length ≤ c0_1) (h : impl_TurnMatrix.f k a0_0 l0_1 = some (r1, r2, r3)) :
  Calls Try.prog 24 #[.agg #[.int .i64 a0_0, .slice A0_1 l0_1.length c0_1]] w fun e w' => ∃ v1_ : Value, e = .returned (.tuple #[.agg #[.int .i64 r1, v1_], .bool r3]) ∧ Kd.R (Kd.int .i64) 3 w' w.heap.size (fun _ => True) v1_ r2 ∧ Below w.heap.size w w' := by
 have hu27 := Try.underlying27; have HR0_1 := am hr0_1; have HC0_1 := am hc0_1; clear hr0_1 hc0_1; have HB := am (Below.refl w.heap.size w); have H : ((impl_MatrixValid.f k a0_0 l0_1).bind fun t131 => (if t131 = true then ((impl_filled_at_impl_TurnMatrix_1.f k a0_0 a0_0 l0_1).bind fun bt132 => (some (bt132.1, bt132.2, true))) else (some (0, ([] : List Int), false)))) = some (r1, r2, r3) := h; clear h; replace H := Option.bind_eq_some_iff.mp H; obtain ⟨t131, A20, H⟩ := H; (try dsimp only at H); have A2 := am A20; clear A20; by_cases c3 : t131 = true
 ·subst c3
  have H1 : ((impl_filled_at_impl_TurnMatrix_1.f k a0_0 a0_0 l0_1).bind fun bt132 => (some (bt132.1, bt132.2, true))) = some (r1, r2, r3) := by rw [if_pos rfl] at H; exact H
  clear H; have H := H1; clear H1; replace H := Option.bind_eq_some_iff.mp H; obtain ⟨⟨t132, t133⟩, A40, H⟩ := H; (try dsimp only at H); have A4 := am A40; clear A40; simp only [Option.some.injEq, Prod.mk.injEq] at H; obtain ⟨rfl, rfl, rfl⟩ := H; go_enter Try.func24, Try.ntmps24; go_wp2_with (first | ((with_reducible refine gx 1 rfl ?_); refine be (cs := #[.int .i64 a0_0, .slice A0_1 l0_1.length c0_1]) (t := 27) ?_; intro gb129 hg w5 hbox hb; have n0_ := hs HB hb; have n1_ := am (hbox); have n2_ := gs hg (bz HB.out); have n3_ := gs hg (bz HB.out); clear HB; revert n0_ n1_ n2_ n3_; intro HB BK129 GW129 GE129; clear hb hbox hg) | ((with_reducible refine gx 2 rfl ?_); refine be (cs := #[.int .i64 0, .slice none 0 0]) (t := 27) ?_; intro gb130 hg w6 hbox hb; have n0_ := bk BK129 hb; have n1_ := hs HB hb; have n2_ := am (hbox); have n3_ := gs hg (bw HB.out); have n4_ := gs hg (bw HB.out); have n5_ := nl hg (kz BK129.out); have n6_ := nr hg (kz BK129.out); clear BK129 HB; revert n0_ n1_ n2_ n3_ n4_ n5_ n6_; intro BK129 HB BK130 GW130 GE130 NB129_130 NB130_129; clear hb hbox hg; have hnb7 := NB129_130.out; have hnc7 := NB130_129.out; have hz8 := zf2 BK129.out) | ((with_reducible refine gy 17 rfl ?_); refine gl Try.func17 #[.agg #[.int .i64 a0_0, .slice A0_1 l0_1.length c0_1]] ?_; (with_reducible refine (impl_MatrixValid.calls k a0_0 _ _ l0_1 true _ ?side1 ?side2 A2.out).mono ?_); (case side1 => exact cc (Kd.C_below HR0_1.out HB.out)); (case side2 => exact HC0_1.out); rintro e w9 ⟨rfl, hb⟩; refine ⟨_, rfl, ?_⟩; have n0_ := bk BK129 hb; have n1_ := bk BK130 hb; have n2_ := hs HB hb; clear BK129 BK130 HB; revert n0_ n1_ n2_; intro BK129 BK130 HB; (try clear hb); (try clear hb2); (try clear hk); (try clear hi); have hz10 := zf2 BK129.out) | ((with_reducible refine gy 47 rfl ?_); refine gl Try.func47 #[.int .i64 a0_0, .func (.func 51) #[] #[.pointer (some ⟨gb129, 0, none⟩)]] ?_; (with_reducible refine (impl_filled_at_impl_TurnMatrix_1.calls k a0_0 a0_0 _ _ l0_1 t132 t133 _ ?side1 ?side2 A4.out gb129 (kz BK129.out)).mono ?_); (case side1 => exact cc (Kd.C_below HR0_1.out HB.out)); (case side2 => exact HC0_1.out); rintro e w11 ⟨v134, rfl, ho0, hb⟩; refine ⟨_, rfl, ?_⟩; have n0_ := am (Kd.R_lower ho0 (below_size (bw HB.out))); have n1_ := bk BK129 hb; have n2_ := bk BK130 hb; have n3_ := hs HB hb; clear BK129 BK130 HB; revert n0_ n1_ n2_ n3_; intro HO135 BK129 BK130 HB; (try clear hb); (try clear hb2); (try clear hk); (try clear hi); (try clear ho0); have hz12 := zf2 BK130.out; obtain ⟨Ao13, co13, eo13⟩ := Kd.R_slice HO135.out; subst eo13)); refine bodyPost_ret (results_ct rfl _ _ gb130 27 #[.int .i64 t132, .slice Ao13 t133.length co13] (0, 0) _ rfl (kp BK130.out) Try.underlying27 rfl (by kernel_rfl)) rfl ?_; exact ⟨_, by first | rfl | (simp [errW_none, errW_some] <;> rfl) | (simp [*, errW_none, errW_some] <;> rfl), rq (Kd.R_mono (q2 HO135.out BK130.out (by decide)) (fun _ hk => trivial)), by exact bw HB.out⟩
 ·replace c3 := Bool.eq_false_iff.mpr c3; subst c3
  have H1 : (some (0, ([] : List Int), false)) = some (r1, r2, r3) := by rw [if_neg (show ¬ (false = true) by decide)] at H; exact H
  clear H; have H := H1; clear H1; simp only [Option.some.injEq, Prod.mk.injEq] at H; obtain ⟨rfl, rfl, rfl⟩ := H; go_enter Try.func24, Try.ntmps24; go_wp2_with (first | ((with_reducible refine gx 1 rfl ?_); refine be (cs := #[.int .i64 a0_0, .slice A0_1 l0_1.length c0_1]) (t := 27) ?_; intro gb129 hg w14 hbox hb; have n0_ := hs HB hb; have n1_ := am (hbox); have n2_ := gs hg (bz HB.out); have n3_ := gs hg (bz HB.out); clear HB; revert n0_ n1_ n2_ n3_; intro HB BK129 GW129 GE129; clear hb hbox hg) | ((with_reducible refine gx 2 rfl ?_); refine be (cs := #[.int .i64 0, .slice none 0 0]) (t := 27) ?_; intro gb130 hg w15 hbox hb; have n0_ := bk BK129 hb; have n1_ := hs HB hb; have n2_ := am (hbox); have n3_ := gs hg (bw HB.out); have n4_ := gs hg (bw HB.out); have n5_ := nl hg (kz BK129.out); have n6_ := nr hg (kz BK129.out); clear BK129 HB; revert n0_ n1_ n2_ n3_ n4_ n5_ n6_; intro BK129 HB BK130 GW130 GE130 NB129_130 NB130_129; clear hb hbox hg; have hnb16 := NB129_130.out; have hnc16 := NB130_129.out; have hz17 := zf2 BK129.out) | ((with_reducible refine gy 17 rfl ?_); refine gl Try.func17 #[.agg #[.int .i64 a0_0, .slice A0_1 l0_1.length c0_1]] ?_; (with_reducible refine (impl_MatrixValid.calls k a0_0 _ _ l0_1 false _ ?side1 ?side2 A2.out).mono ?_); (case side1 => exact cc (Kd.C_below HR0_1.out HB.out)); (case side2 => exact HC0_1.out); rintro e w18 ⟨rfl, hb⟩; refine ⟨_, rfl, ?_⟩; have n0_ := bk BK129 hb; have n1_ := bk BK130 hb; have n2_ := hs HB hb; clear BK129 BK130 HB; revert n0_ n1_ n2_; intro BK129 BK130 HB; (try clear hb); (try clear hb2); (try clear hk); (try clear hi); have hz19 := zf2 BK130.out)); refine bodyPost_ret (results_ct rfl _ _ gb130 27 #[.int .i64 0, .slice none 0 0] (0, 0) _ rfl (kp BK130.out) Try.underlying27 rfl (by kernel_rfl)) rfl ?_; exact ⟨_, by first | rfl | (simp [errW_none, errW_some] <;> rfl) | (simp [*, errW_none, errW_some] <;> rfl), by first | exact Kd.R_nil _ _ _ _ _ | exact Kd.N_nil _ _ _ _ _ | exact Kd.V_nil _ _ _ _ _ | exact Kd.Q_nil _ _ _ _ _ | exact Kd.S_nil _ _ _ _ _, by exact bw HB.out⟩

/-! ### spec_l1In: function 39 -/
def spec_l1In.f (a0 : Int) (a1 : Int) (a2 : Int) : Option (Bool) := if a0 ≥ a1 then (some (decide (a0 ≤ a2))) else (some false)
set_option maxHeartbeats 8000000 in
set_option maxRecDepth 100000 in
theorem spec_l1In.calls (a0 : Int) (a1 : Int) (a2 : Int) (r : Bool) (w : World) (h : spec_l1In.f a0 a1 a2 = some r) :
  Calls Try.prog 39 #[.int .i64 a0, .int .i64 a1, .int .i64 a2] w fun e w' => e = .returned (.bool r) ∧ Drawn0 w w' := by
 have H : (if a0 ≥ a1 then (some (decide (a0 ≤ a2))) else (some false)) = some r := h; clear h; by_cases c4 : a0 ≥ a1
 ·rw [if_pos c4] at H; have c4b0 : decide (a1 ≤ a0) = true := decide_eq_true c4; clear c4; obtain rfl := Option.some.inj H; go_enter Try.func39, Try.ntmps39; go_wp2; go_ret; exact ⟨by first | rfl | (simp; done) | (simp [*]; done), by repeat (first | exact Drawn0.refl _ | apply Drawn0.step)⟩
 ·rw [if_neg c4] at H; have c4b0 : decide (a1 ≤ a0) = false := decide_eq_false c4; clear c4; obtain rfl := Option.some.inj H; go_enter Try.func39, Try.ntmps39; go_wp2; go_ret; exact ⟨by first | rfl | (simp; done) | (simp [*]; done), by repeat (first | exact Drawn0.refl _ | apply Drawn0.step)⟩

/-! ### spec_CostValid: function 66 -/
def spec_CostValid.f (a0 : Int) : Option (Bool) := (spec_l1In.f a0 0 1000000).bind fun t136 => (some t136)
set_option maxHeartbeats 8000000 in
set_option maxRecDepth 100000 in
theorem spec_CostValid.calls (a0 : Int) (r : Bool) (w : World) (h : spec_CostValid.f a0 = some r) :
  Calls Try.prog 66 #[.int .i64 a0] w fun e w' => e = .returned (.bool r) ∧ Drawn0 w w' := by
 have H : ((spec_l1In.f a0 0 1000000).bind fun t136 => (some t136)) = some r := h; clear h; replace H := Option.bind_eq_some_iff.mp H; obtain ⟨t136, A20, H⟩ := H; (try dsimp only at H); have A2 := am A20; clear A20; obtain rfl := Option.some.inj H; go_enter Try.func66, Try.ntmps66; go_wp2_with (first | ((with_reducible refine gy 39 rfl ?_); refine gl Try.func39 #[.int .i64 a0, .int .i64 0, .int .i64 1000000] ?_; (with_reducible refine (spec_l1In.calls a0 0 1000000 t136 _ A2.out).mono ?_); rintro e w' ⟨rfl, ⟨nd, rfl⟩⟩; refine ⟨_, rfl, ?_⟩)); go_ret; exact ⟨by first | rfl | (simp; done) | (simp [*]; done), by repeat (first | exact Drawn0.refl _ | apply Drawn0.step)⟩

/-! ### spec_l1All: function 40 -/
def spec_l1All.l0 : Nat → List Int → Int → Int → Option (Bool)
 | 0, _, _, _ => none
 | k + 1, x5, x6, x7 => if x7 < x6 then (if 0 ≤ x7 then (if x7 < (x5.length : Int) then ((spec_CostValid.f (rd x5 x7)).bind fun t138 => (if t138 = true then (spec_l1All.l0 k x5 x6 (wrap64 (x7 + 1))) else (some false))) else (none)) else (none)) else (some true)
def spec_l1All.f (k : Nat) (l0 : List Int) : Option (Bool) := spec_l1All.l0 k l0 (l0.length : Int) 0
theorem spec_l1All.mono_l : ∀ k, (∀ y0 y1 y2, LeO (spec_l1All.l0 k y0 y1 y2) (spec_l1All.l0 (k + 1) y0 y1 y2))
 | 0 => fun _ _ _ r h => by simp [spec_l1All.l0] at h
 | k + 1 => by
  have ih0 := spec_l1All.mono_l k
  ·intro y0 y1 y2; unfold spec_l1All.l0; repeat' first
   | (with_reducible exact ih0 _ _ _)
   | (with_reducible exact LeO.refl _)
   | (with_reducible exact LeO.none _)
   | (with_reducible refine LeO.ite ?_ ?_)
   | (with_reducible refine LeO.bind ?_ (fun _ => ?_))
   | exact ih0 _ _ _
   | exact LeO.none _
   | refine LeO.ite ?_ ?_
   | refine LeO.bind ?_ (fun _ => ?_)
theorem spec_l1All.mono : ∀ a0 k, LeO (spec_l1All.f k a0) (spec_l1All.f (k + 1) a0) := by
 intro a0 k; have ih0 := spec_l1All.mono_l k; unfold spec_l1All.f; repeat' first
   | (with_reducible exact ih0 _ _ _)
   | (with_reducible exact LeO.refl _)
   | (with_reducible exact LeO.none _)
   | (with_reducible refine LeO.ite ?_ ?_)
   | (with_reducible refine LeO.bind ?_ (fun _ => ?_))
   | exact ih0 _ _ _
   | exact LeO.none _
   | refine LeO.ite ?_ ?_
   | refine LeO.bind ?_ (fun _ => ?_)
set_option maxHeartbeats 8000000 in
set_option maxRecDepth 100000 in
theorem spec_l1All.calls (k : Nat) (A0 : Option Addr) (c0 : Nat) (l0 : List Int) (r : Bool) (w : World) (hr0 : Kd.C (Kd.int .i64) w A0 l0.length l0) (hc0 : l0.length ≤ c0) (h : spec_l1All.f k l0 = some r) :
  Calls Try.prog 40 #[.slice A0 l0.length c0] w fun e w' => e = .returned (.bool r) ∧ Drawn0 w w' := by
 have HR0 := am hr0; have HC0 := am hc0; clear hr0 hc0; have H : (spec_l1All.l0 k l0 (l0.length : Int) 0) = some r := h; clear h; have H' := am H; clear H; go_enter Try.func40, Try.ntmps40; go_wp2; go_loopg [7] k (fun kq v7 w' => ∃ (x7_1 : Int), v7 = .int .i64 x7_1 ∧ Aside0 (spec_l1All.l0 kq l0 (l0.length : Int) x7_1 = some r) ∧ Aside0 (kq ≤ k) ∧ Drawn0 w w')
 case atStart => exact ⟨(0), (by first | rfl | (simp; done) | (simp [*]; done)), H', ⟨Nat.le_refl _⟩, by repeat (first | exact Drawn0.refl _ | apply Drawn0.step)⟩
 case round =>
  clear H'; obtain ⟨x7_1, rfl, HA, HK1, ⟨m1, rfl⟩⟩ := hrel
  cases gk with
  | zero => exact absurd HA.out (by simp [spec_l1All.l0])
  | succ k1 =>
   have H := HA.out; clear HA; simp only [spec_l1All.l0] at H; by_cases c2 : x7_1 < (l0.length : Int)
   ·rw [if_pos c2] at H; have c2b0 : decide (x7_1 < (l0.length : Int)) = true := decide_eq_true c2; clear c2; by_cases c3 : 0 ≤ x7_1
    ·rw [if_pos c3] at H; have c3b0 : decide (0 ≤ x7_1) = true := decide_eq_true c3; clear c3; by_cases c4 : x7_1 < (l0.length : Int)
     ·rw [if_pos c4] at H; have c4b0 : decide (x7_1 < (l0.length : Int)) = true := decide_eq_true c4; clear c4; replace H := Option.bind_eq_some_iff.mp H; obtain ⟨t138, A50, H⟩ := H; (try dsimp only at H); have A5 := am A50; clear A50; by_cases c6 : t138 = true
      ·subst c6
       have H1 : (spec_l1All.l0 k1 l0 (l0.length : Int) (wrap64 (x7_1 + 1))) = some r := by rw [if_pos rfl] at H; exact H
       clear H; have H := H1; clear H1; have H' := am H; clear H; have p137 : 0 ≤ (x7_1 : Int) := da; have q137 : x7_1 < (l0.length : Int) := da; obtain ⟨ad137, e137, hx137_0⟩ := Kd.at_int HR0.out x7_1 p137 q137; cases e137; replace p137 := eq_true p137; replace q137 := eq_true q137; go_wp2_with (first | ((with_reducible refine gy 66 rfl ?_); refine gl Try.func66 #[.int .i64 (rd l0 x7_1)] ?_; (with_reducible refine (spec_CostValid.calls (rd l0 x7_1) true _ A5.out).mono ?_); rintro e w' ⟨rfl, ⟨nd, rfl⟩⟩; refine ⟨_, rfl, ?_⟩)); go_roundg k1
       case measure => have := HK1.out; omega
       case rel => exact ⟨(wrap64 (x7_1 + 1)), (by first | rfl | (simp; done) | (simp [*]; done)), H', ⟨by have := HK1.out; omega⟩, by repeat (first | exact Drawn0.refl _ | apply Drawn0.step)⟩
      ·replace c6 := Bool.eq_false_iff.mpr c6; subst c6
       have H1 : (some false) = some r := by rw [if_neg (show ¬ (false = true) by decide)] at H; exact H
       clear H; have H := H1; clear H1; obtain rfl := Option.some.inj H; have p137 : 0 ≤ (x7_1 : Int) := da; have q137 : x7_1 < (l0.length : Int) := da; obtain ⟨ad137, e137, hx137_0⟩ := Kd.at_int HR0.out x7_1 p137 q137; cases e137; replace p137 := eq_true p137; replace q137 := eq_true q137; go_wp2_with (first | ((with_reducible refine gy 66 rfl ?_); refine gl Try.func66 #[.int .i64 (rd l0 x7_1)] ?_; (with_reducible refine (spec_CostValid.calls (rd l0 x7_1) false _ A5.out).mono ?_); rintro e w' ⟨rfl, ⟨nd, rfl⟩⟩; refine ⟨_, rfl, ?_⟩)); go_ret; exact ⟨by first | rfl | (simp; done) | (simp [*]; done), by repeat (first | exact Drawn0.refl _ | apply Drawn0.step)⟩
     ·rw [if_neg c4] at H; exact absurd H (by simp)
    ·rw [if_neg c3] at H; exact absurd H (by simp)
   ·rw [if_neg c2] at H; have c2b0 : decide (x7_1 < (l0.length : Int)) = false := decide_eq_false c2; clear c2; obtain rfl := Option.some.inj H; go_wp2; go_ret; exact ⟨by first | rfl | (simp; done) | (simp [*]; done), by repeat (first | exact Drawn0.refl _ | apply Drawn0.step)⟩

/-! ### spec_MatrixValid: function 15 -/
def spec_MatrixValid.f (k : Nat) (a0_0 : Int) (l0_1 : List Int) : Option (Bool) := (spec_l1In.f a0_0 1 4).bind fun t140 => (if t140 = true then (if (l0_1.length : Int) = (wrap64 (a0_0 * a0_0)) then ((spec_l1All.f k l0_1).bind fun t141 => (some t141)) else (some false)) else (some false))
theorem spec_MatrixValid.mono : ∀ a0 a1 k, LeO (spec_MatrixValid.f k a0 a1) (spec_MatrixValid.f (k + 1) a0 a1) := by
 intro a0 a1 k; unfold spec_MatrixValid.f; repeat' first
   | (with_reducible exact spec_l1All.mono _ _)
   | (with_reducible exact LeO.refl _)
   | (with_reducible exact LeO.none _)
   | (with_reducible refine LeO.ite ?_ ?_)
   | (with_reducible refine LeO.bind ?_ (fun _ => ?_))
   | exact spec_l1All.mono _ _
   | exact LeO.none _
   | refine LeO.ite ?_ ?_
   | refine LeO.bind ?_ (fun _ => ?_)
set_option maxHeartbeats 8000000 in
set_option maxRecDepth 100000 in
theorem spec_MatrixValid.calls (k : Nat) (a0_0 : Int) (A0_1 : Option Addr) (c0_1 : Nat) (l0_1 : List Int) (r : Bool) (w : World) (hr0_1 : Kd.C (Kd.int .i64) w A0_1 l0_1.length l0_1) (hc0_1 : l0_1.length ≤ c0_1) (h : spec_MatrixValid.f k a0_0 l0_1 = some r) :
  Calls Try.prog 15 #[.agg #[.int .i64 a0_0, .slice A0_1 l0_1.length c0_1]] w fun e w' => e = .returned (.bool r) ∧ Below w.heap.size w w' := by
 have hu27 := Try.underlying27; have HR0_1 := am hr0_1; have HC0_1 := am hc0_1; clear hr0_1 hc0_1; have HB := am (Below.refl w.heap.size w); have H : ((spec_l1In.f a0_0 1 4).bind fun t140 => (if t140 = true then (if (l0_1.length : Int) = (wrap64 (a0_0 * a0_0)) then ((spec_l1All.f k l0_1).bind fun t141 => (some t141)) else (some false)) else (some false))) = some r := h; clear h; replace H := Option.bind_eq_some_iff.mp H; obtain ⟨t140, A20, H⟩ := H; (try dsimp only at H); have A2 := am A20; clear A20; by_cases c3 : t140 = true
 ·subst c3
  have H1 : (if (l0_1.length : Int) = (wrap64 (a0_0 * a0_0)) then ((spec_l1All.f k l0_1).bind fun t141 => (some t141)) else (some false)) = some r := by rw [if_pos rfl] at H; exact H
  clear H; have H := H1; clear H1; by_cases c4 : (l0_1.length : Int) = (wrap64 (a0_0 * a0_0))
  ·rw [if_pos c4] at H; have c4b0 : ((l0_1.length : Int) == (wrap64 (a0_0 * a0_0))) = true := beq_iff_eq.mpr c4; have c4b1 : ((l0_1.length : Int) != (wrap64 (a0_0 * a0_0))) = false := bne_eq_false_iff_eq.mpr c4; clear c4; replace H := Option.bind_eq_some_iff.mp H; obtain ⟨t141, A50, H⟩ := H; (try dsimp only at H); have A5 := am A50; clear A50; obtain rfl := Option.some.inj H; go_enter Try.func15, Try.ntmps15; go_wp2_with (first | ((with_reducible refine gx 1 rfl ?_); (try (refine gate_guard (by rfl) ?_; dsimp only)); refine be (cs := #[.int .i64 a0_0, .slice A0_1 l0_1.length c0_1]) (t := 27) ?_; intro gb139 hg w6 hbox hb; have n0_ := hs HB hb; have n1_ := am (hbox); have n2_ := gs hg (bz HB.out); have n3_ := gs hg (bz HB.out); clear HB; revert n0_ n1_ n2_ n3_; intro HB BK139 GW139 GE139; clear hb hbox hg; have hz7 := zf2 BK139.out) | ((with_reducible refine gy 39 rfl ?_); refine gl Try.func39 #[.int .i64 a0_0, .int .i64 1, .int .i64 4] ?_; (with_reducible refine (spec_l1In.calls a0_0 1 4 true _ A2.out).mono ?_); rintro e w' ⟨rfl, ⟨nd, rfl⟩⟩; refine ⟨_, rfl, ?_⟩) | (go_at_call 40; (with_reducible refine (spec_l1All.calls k _ _ l0_1 t141 _ ?side1 ?side2 A5.out).mono ?_); (case side1 => exact cc (Kd.C_below HR0_1.out (bw HB.out))); (case side2 => exact HC0_1.out); rintro e w' ⟨rfl, ⟨nd, rfl⟩⟩)); go_ret; exact ⟨by first | rfl | (simp [errW_none, errW_some] <;> rfl) | (simp [*, errW_none, errW_some] <;> rfl), by exact bw HB.out⟩
  ·rw [if_neg c4] at H; have c4b0 : ((l0_1.length : Int) == (wrap64 (a0_0 * a0_0))) = false := beq_eq_false_iff_ne.mpr c4; have c4b1 : ((l0_1.length : Int) != (wrap64 (a0_0 * a0_0))) = true := bne_iff_ne.mpr c4; obtain rfl := Option.some.inj H; go_enter Try.func15, Try.ntmps15; go_wp2_with (first | ((with_reducible refine gx 1 rfl ?_); (try (refine gate_guard (by rfl) ?_; dsimp only)); refine be (cs := #[.int .i64 a0_0, .slice A0_1 l0_1.length c0_1]) (t := 27) ?_; intro gb139 hg w8 hbox hb; have n0_ := hs HB hb; have n1_ := am (hbox); have n2_ := gs hg (bz HB.out); have n3_ := gs hg (bz HB.out); clear HB; revert n0_ n1_ n2_ n3_; intro HB BK139 GW139 GE139; clear hb hbox hg; have hz9 := zf2 BK139.out) | ((with_reducible refine gy 39 rfl ?_); refine gl Try.func39 #[.int .i64 a0_0, .int .i64 1, .int .i64 4] ?_; (with_reducible refine (spec_l1In.calls a0_0 1 4 true _ A2.out).mono ?_); rintro e w' ⟨rfl, ⟨nd, rfl⟩⟩; refine ⟨_, rfl, ?_⟩)); go_ret; exact ⟨by first | rfl | (simp [errW_none, errW_some] <;> rfl) | (simp [*, errW_none, errW_some] <;> rfl), by exact bw HB.out⟩
 ·replace c3 := Bool.eq_false_iff.mpr c3; subst c3
  have H1 : (some false) = some r := by rw [if_neg (show ¬ (false = true) by decide)] at H; exact H
  clear H; have H := H1; clear H1; obtain rfl := Option.some.inj H; go_enter Try.func15, Try.ntmps15; go_wp2_with (first | ((with_reducible refine gx 1 rfl ?_); (try (refine gate_guard (by rfl) ?_; dsimp only)); refine be (cs := #[.int .i64 a0_0, .slice A0_1 l0_1.length c0_1]) (t := 27) ?_; intro gb139 hg w10 hbox hb; have n0_ := hs HB hb; have n1_ := am (hbox); have n2_ := gs hg (bz HB.out); have n3_ := gs hg (bz HB.out); clear HB; revert n0_ n1_ n2_ n3_; intro HB BK139 GW139 GE139; clear hb hbox hg; have hz11 := zf2 BK139.out) | ((with_reducible refine gy 39 rfl ?_); refine gl Try.func39 #[.int .i64 a0_0, .int .i64 1, .int .i64 4] ?_; (with_reducible refine (spec_l1In.calls a0_0 1 4 false _ A2.out).mono ?_); rintro e w' ⟨rfl, ⟨nd, rfl⟩⟩; refine ⟨_, rfl, ?_⟩)); go_ret; exact ⟨by first | rfl | (simp [errW_none, errW_some] <;> rfl) | (simp [*, errW_none, errW_some] <;> rfl), by exact bw HB.out⟩

/-! ### spec_l2Two: function 53 -/
def spec_l2Two.f (k : Nat) (a0_0 : Int) (l0_1 : List Int) (a1_0 : Int) (l1_1 : List Int) : Option (Bool) := (spec_MatrixValid.f k a0_0 l0_1).bind fun t144 => (if t144 = true then ((spec_MatrixValid.f k a1_0 l1_1).bind fun t145 => (if t145 = true then (some (a0_0 == a1_0)) else (some false))) else (some false))
theorem spec_l2Two.mono : ∀ a0 a1 a2 a3 k, LeO (spec_l2Two.f k a0 a1 a2 a3) (spec_l2Two.f (k + 1) a0 a1 a2 a3) := by
 intro a0 a1 a2 a3 k; unfold spec_l2Two.f; repeat' first
   | (with_reducible exact spec_MatrixValid.mono _ _ _)
   | (with_reducible exact LeO.refl _)
   | (with_reducible exact LeO.none _)
   | (with_reducible refine LeO.ite ?_ ?_)
   | (with_reducible refine LeO.bind ?_ (fun _ => ?_))
   | exact spec_MatrixValid.mono _ _ _
   | exact LeO.none _
   | refine LeO.ite ?_ ?_
   | refine LeO.bind ?_ (fun _ => ?_)
set_option maxHeartbeats 8000000 in
set_option maxRecDepth 100000 in
theorem spec_l2Two.calls (k : Nat) (a0_0 : Int) (A0_1 : Option Addr) (c0_1 : Nat) (l0_1 : List Int) (a1_0 : Int) (A1_1 : Option Addr) (c1_1 : Nat) (l1_1 : List Int) (r : Bool) (w : World) (hr0_1 : Kd.C (Kd.int .i64) w A0_1 l0_1.length l0_1) (hc0_1 : l0_1.length ≤ c0_1) (hr1_1 : Kd.C (Kd.int .i64) w A1_1 l1_1.length l1_1) (hc1_1 : l1_1.length ≤ c1_1) (h : spec_l2Two.f k a0_0 l0_1 a1_0 l1_1 = some r) :
  Calls Try.prog 53 #[.agg #[.int .i64 a0_0, .slice A0_1 l0_1.length c0_1], .agg #[.int .i64 a1_0, .slice A1_1 l1_1.length c1_1]] w fun e w' => e = .returned (.bool r) ∧ Below w.heap.size w w' := by
 have hu27 := Try.underlying27; have HR0_1 := am hr0_1; have HC0_1 := am hc0_1; clear hr0_1 hc0_1; have HR1_1 := am hr1_1; have HC1_1 := am hc1_1; clear hr1_1 hc1_1; have HB := am (Below.refl w.heap.size w); have H : ((spec_MatrixValid.f k a0_0 l0_1).bind fun t144 => (if t144 = true then ((spec_MatrixValid.f k a1_0 l1_1).bind fun t145 => (if t145 = true then (some (a0_0 == a1_0)) else (some false))) else (some false))) = some r := h; clear h; replace H := Option.bind_eq_some_iff.mp H; obtain ⟨t144, A30, H⟩ := H; (try dsimp only at H); have A3 := am A30; clear A30; by_cases c4 : t144 = true
 ·subst c4
  have H1 : ((spec_MatrixValid.f k a1_0 l1_1).bind fun t145 => (if t145 = true then (some (a0_0 == a1_0)) else (some false))) = some r := by rw [if_pos rfl] at H; exact H
  clear H; have H := H1; clear H1; replace H := Option.bind_eq_some_iff.mp H; obtain ⟨t145, A50, H⟩ := H; (try dsimp only at H); have A5 := am A50; clear A50; by_cases c6 : t145 = true
  ·subst c6
   have H1 : (some (a0_0 == a1_0)) = some r := by rw [if_pos rfl] at H; exact H
   clear H; have H := H1; clear H1; obtain rfl := Option.some.inj H; go_enter Try.func53, Try.ntmps53; go_wp2_with (first | ((with_reducible refine gx 2 rfl ?_); refine be (cs := #[.int .i64 a0_0, .slice A0_1 l0_1.length c0_1]) (t := 27) ?_; intro gb142 hg w7 hbox hb; have n0_ := hs HB hb; have n1_ := am (hbox); have n2_ := gs hg (bz HB.out); have n3_ := gs hg (bz HB.out); clear HB; revert n0_ n1_ n2_ n3_; intro HB BK142 GW142 GE142; clear hb hbox hg) | ((with_reducible refine gx 3 rfl ?_); refine be (cs := #[.int .i64 a1_0, .slice A1_1 l1_1.length c1_1]) (t := 27) ?_; intro gb143 hg w8 hbox hb; have n0_ := bk BK142 hb; have n1_ := hs HB hb; have n2_ := am (hbox); have n3_ := gs hg (bw HB.out); have n4_ := gs hg (bw HB.out); have n5_ := nl hg (kz BK142.out); have n6_ := nr hg (kz BK142.out); clear BK142 HB; revert n0_ n1_ n2_ n3_ n4_ n5_ n6_; intro BK142 HB BK143 GW143 GE143 NB142_143 NB143_142; clear hb hbox hg; have hnb9 := NB142_143.out; have hnc9 := NB143_142.out; have hz10 := zf2 BK142.out) | ((with_reducible refine gy 15 rfl ?_); refine gl Try.func15 #[.agg #[.int .i64 a0_0, .slice A0_1 l0_1.length c0_1]] ?_; (with_reducible refine (spec_MatrixValid.calls k a0_0 _ _ l0_1 true _ ?side1 ?side2 A3.out).mono ?_); (case side1 => exact cc (Kd.C_below HR0_1.out HB.out)); (case side2 => exact HC0_1.out); rintro e w11 ⟨rfl, hb⟩; refine ⟨_, rfl, ?_⟩; have n0_ := bk BK142 hb; have n1_ := bk BK143 hb; have n2_ := hs HB hb; clear BK142 BK143 HB; revert n0_ n1_ n2_; intro BK142 BK143 HB; (try clear hb); (try clear hb2); (try clear hk); (try clear hi); have hz12 := zf2 BK143.out) | (go_at_call 15; (with_reducible refine (spec_MatrixValid.calls k a1_0 _ _ l1_1 true _ ?side1 ?side2 A5.out).mono ?_); (case side1 => exact cc (Kd.C_below HR1_1.out HB.out)); (case side2 => exact HC1_1.out); rintro e w13 ⟨rfl, hb⟩; have n0_ := bk BK142 hb; have n1_ := bk BK143 hb; have n2_ := hs HB hb; clear BK142 BK143 HB; revert n0_ n1_ n2_; intro BK142 BK143 HB; (try clear hb); (try clear hb2); (try clear hk); (try clear hi); have hz14 := zf2 BK142.out; have hz15 := zf2 BK143.out)); go_ret; exact ⟨by first | rfl | (simp [errW_none, errW_some] <;> rfl) | (simp [*, errW_none, errW_some] <;> rfl), by exact bw HB.out⟩
  ·replace c6 := Bool.eq_false_iff.mpr c6; subst c6
   have H1 : (some false) = some r := by rw [if_neg (show ¬ (false = true) by decide)] at H; exact H
   clear H; have H := H1; clear H1; obtain rfl := Option.some.inj H; go_enter Try.func53, Try.ntmps53; go_wp2_with (first | ((with_reducible refine gx 2 rfl ?_); refine be (cs := #[.int .i64 a0_0, .slice A0_1 l0_1.length c0_1]) (t := 27) ?_; intro gb142 hg w16 hbox hb; have n0_ := hs HB hb; have n1_ := am (hbox); have n2_ := gs hg (bz HB.out); have n3_ := gs hg (bz HB.out); clear HB; revert n0_ n1_ n2_ n3_; intro HB BK142 GW142 GE142; clear hb hbox hg) | ((with_reducible refine gx 3 rfl ?_); refine be (cs := #[.int .i64 a1_0, .slice A1_1 l1_1.length c1_1]) (t := 27) ?_; intro gb143 hg w17 hbox hb; have n0_ := bk BK142 hb; have n1_ := hs HB hb; have n2_ := am (hbox); have n3_ := gs hg (bw HB.out); have n4_ := gs hg (bw HB.out); have n5_ := nl hg (kz BK142.out); have n6_ := nr hg (kz BK142.out); clear BK142 HB; revert n0_ n1_ n2_ n3_ n4_ n5_ n6_; intro BK142 HB BK143 GW143 GE143 NB142_143 NB143_142; clear hb hbox hg; have hnb18 := NB142_143.out; have hnc18 := NB143_142.out; have hz19 := zf2 BK142.out) | ((with_reducible refine gy 15 rfl ?_); refine gl Try.func15 #[.agg #[.int .i64 a0_0, .slice A0_1 l0_1.length c0_1]] ?_; (with_reducible refine (spec_MatrixValid.calls k a0_0 _ _ l0_1 true _ ?side1 ?side2 A3.out).mono ?_); (case side1 => exact cc (Kd.C_below HR0_1.out HB.out)); (case side2 => exact HC0_1.out); rintro e w20 ⟨rfl, hb⟩; refine ⟨_, rfl, ?_⟩; have n0_ := bk BK142 hb; have n1_ := bk BK143 hb; have n2_ := hs HB hb; clear BK142 BK143 HB; revert n0_ n1_ n2_; intro BK142 BK143 HB; (try clear hb); (try clear hb2); (try clear hk); (try clear hi); have hz21 := zf2 BK143.out) | (go_at_call 15; (with_reducible refine (spec_MatrixValid.calls k a1_0 _ _ l1_1 false _ ?side1 ?side2 A5.out).mono ?_); (case side1 => exact cc (Kd.C_below HR1_1.out HB.out)); (case side2 => exact HC1_1.out); rintro e w22 ⟨rfl, hb⟩; have n0_ := bk BK142 hb; have n1_ := bk BK143 hb; have n2_ := hs HB hb; clear BK142 BK143 HB; revert n0_ n1_ n2_; intro BK142 BK143 HB; (try clear hb); (try clear hb2); (try clear hk); (try clear hi))); go_ret; exact ⟨by first | rfl | (simp [errW_none, errW_some] <;> rfl) | (simp [*, errW_none, errW_some] <;> rfl), by exact bw HB.out⟩
 ·replace c4 := Bool.eq_false_iff.mpr c4; subst c4
  have H1 : (some false) = some r := by rw [if_neg (show ¬ (false = true) by decide)] at H; exact H
  clear H; have H := H1; clear H1; obtain rfl := Option.some.inj H; go_enter Try.func53, Try.ntmps53; go_wp2_with (first | ((with_reducible refine gx 2 rfl ?_); refine be (cs := #[.int .i64 a0_0, .slice A0_1 l0_1.length c0_1]) (t := 27) ?_; intro gb142 hg w23 hbox hb; have n0_ := hs HB hb; have n1_ := am (hbox); have n2_ := gs hg (bz HB.out); have n3_ := gs hg (bz HB.out); clear HB; revert n0_ n1_ n2_ n3_; intro HB BK142 GW142 GE142; clear hb hbox hg) | ((with_reducible refine gx 3 rfl ?_); refine be (cs := #[.int .i64 a1_0, .slice A1_1 l1_1.length c1_1]) (t := 27) ?_; intro gb143 hg w24 hbox hb; have n0_ := bk BK142 hb; have n1_ := hs HB hb; have n2_ := am (hbox); have n3_ := gs hg (bw HB.out); have n4_ := gs hg (bw HB.out); have n5_ := nl hg (kz BK142.out); have n6_ := nr hg (kz BK142.out); clear BK142 HB; revert n0_ n1_ n2_ n3_ n4_ n5_ n6_; intro BK142 HB BK143 GW143 GE143 NB142_143 NB143_142; clear hb hbox hg; have hnb25 := NB142_143.out; have hnc25 := NB143_142.out; have hz26 := zf2 BK142.out) | ((with_reducible refine gy 15 rfl ?_); refine gl Try.func15 #[.agg #[.int .i64 a0_0, .slice A0_1 l0_1.length c0_1]] ?_; (with_reducible refine (spec_MatrixValid.calls k a0_0 _ _ l0_1 false _ ?side1 ?side2 A3.out).mono ?_); (case side1 => exact cc (Kd.C_below HR0_1.out HB.out)); (case side2 => exact HC0_1.out); rintro e w27 ⟨rfl, hb⟩; refine ⟨_, rfl, ?_⟩; have n0_ := bk BK142 hb; have n1_ := bk BK143 hb; have n2_ := hs HB hb; clear BK142 BK143 HB; revert n0_ n1_ n2_; intro BK142 BK143 HB; (try clear hb); (try clear hb2); (try clear hk); (try clear hi))); go_ret; exact ⟨by first | rfl | (simp [errW_none, errW_some] <;> rfl) | (simp [*, errW_none, errW_some] <;> rfl), by exact bw HB.out⟩

/-! ### spec_l1Add: function 68 -/
def spec_l1Add.f (a0 : Int) (a1 : Int) : Option (Int) := some (mn (wrap64 (a0 + a1)) 1000000)
set_option maxHeartbeats 8000000 in
set_option maxRecDepth 100000 in
theorem spec_l1Add.calls (a0 : Int) (a1 : Int) (r : Int) (w : World) (h : spec_l1Add.f a0 a1 = some r) :
  Calls Try.prog 68 #[.int .i64 a0, .int .i64 a1] w fun e w' => e = .returned (.int .i64 r) ∧ Below w.heap.size w w' := by
 have HB := am (Below.refl w.heap.size w); have H : (some (mn (wrap64 (a0 + a1)) 1000000)) = some r := h; clear h; obtain ⟨ji3, hji3⟩ : ∃ j_ : Int, (mn (wrap64 (a0 + a1)) 1000000) = j_ := ⟨_, rfl⟩
 replace H : (some ji3) = some r := by first | (rw [hji3] at H; exact H) | (simp only [hji3] at H ⊢; exact H)
 (try (have hji3h : ji3 ≤ 1000000 := by (rw [← hji3]; unfold mn; (repeat' split) <;> omega))); (try (have hji3g : ji3 ≤ 64 := by omega)); have hji3_ : (if 1000000 < (wrap64 (a0 + a1)) then 1000000 else (wrap64 (a0 + a1))) = ji3 := hji3; obtain rfl := Option.some.inj H; go_enter Try.func68, Try.ntmps68; go_wp2; go_ret; exact ⟨by first | rfl | (simp [errW_none, errW_some] <;> rfl) | (simp only [← hji3]; first | rfl | (simp [errW_none, errW_some] <;> rfl)) | (simp [*, errW_none, errW_some] <;> rfl), by exact bz HB.out⟩

/-! ### spec_l2Mul: function 57 -/
mutual
def spec_l2Mul.l0 : Nat → Int → Int → Int → List Int → Int → List Int → Int → List Int → Option (Int × List Int)
 | 0, _, _, _, _, _, _, _, _ => none
 | k + 1, x18, x19, x147000, x147001, x148000, x148001, x150000, x150001 => if x19 < x18 then (if x147000 = 0 then (none) else (spec_l2Mul.l1 k (wrap64 (Int.tdiv x19 x147000)) (Int.tmod x19 x147000) 1000000 x18 x19 x147000 0 x147000 x147001 x148000 x148001 x150000 x150001)) else (some (x150000, x150001))
def spec_l2Mul.l1 : Nat → Int → Int → Int → Int → Int → Int → Int → Int → List Int → Int → List Int → Int → List Int → Option (Int × List Int)
 | 0, _, _, _, _, _, _, _, _, _, _, _, _, _ => none
 | k + 1, x7, x8, x9, x18, x19, x31, x32, x147000, x147001, x148000, x148001, x150000, x150001 => if x32 < x31 then (if 0 ≤ (wrap64 ((wrap64 (x7 * x147000)) + x32)) then (if (wrap64 ((wrap64 (x7 * x147000)) + x32)) < (x147001.length : Int) then (if 0 ≤ (wrap64 ((wrap64 (x32 * x147000)) + x8)) then (if (wrap64 ((wrap64 (x32 * x147000)) + x8)) < (x148001.length : Int) then ((spec_l1Add.f (rd x147001 (wrap64 ((wrap64 (x7 * x147000)) + x32))) (rd x148001 (wrap64 ((wrap64 (x32 * x147000)) + x8)))).bind fun t152 => (spec_l2Mul.l1 k x7 x8 (mn x9 t152) x18 x19 x31 (wrap64 (x32 + 1)) x147000 x147001 x148000 x148001 x150000 x150001)) else (none)) else (none)) else (none)) else (none)) else (if x150001.length < 17592186044416 then (spec_l2Mul.l0 k x18 (wrap64 (x19 + 1)) x147000 x147001 x148000 x148001 x150000 (x150001 ++ [x9])) else (none))
end
def spec_l2Mul.f (k : Nat) (a0_0 : Int) (l0_1 : List Int) (a1_0 : Int) (l1_1 : List Int) : Option (Int × List Int) := spec_l2Mul.l0 k (wrap64 (a0_0 * a0_0)) 0 a0_0 l0_1 a1_0 l1_1 a0_0 ([] : List Int)
theorem spec_l2Mul.mono_l : ∀ k, (∀ y0 y1 y2 y3 y4 y5 y6 y7, LeO (spec_l2Mul.l0 k y0 y1 y2 y3 y4 y5 y6 y7) (spec_l2Mul.l0 (k + 1) y0 y1 y2 y3 y4 y5 y6 y7)) ∧ (∀ y0 y1 y2 y3 y4 y5 y6 y7 y8 y9 y10 y11 y12, LeO (spec_l2Mul.l1 k y0 y1 y2 y3 y4 y5 y6 y7 y8 y9 y10 y11 y12) (spec_l2Mul.l1 (k + 1) y0 y1 y2 y3 y4 y5 y6 y7 y8 y9 y10 y11 y12))
 | 0 => ⟨fun _ _ _ _ _ _ _ _ r h => by simp [spec_l2Mul.l0] at h, fun _ _ _ _ _ _ _ _ _ _ _ _ _ r h => by simp [spec_l2Mul.l1] at h⟩
 | k + 1 => by
  obtain ⟨ih0, ih1⟩ := spec_l2Mul.mono_l k; refine ⟨?_, ?_⟩
  ·intro y0 y1 y2 y3 y4 y5 y6 y7; unfold spec_l2Mul.l0; repeat' first
   | (with_reducible exact ih0 _ _ _ _ _ _ _ _)
   | (with_reducible exact ih1 _ _ _ _ _ _ _ _ _ _ _ _ _)
   | (with_reducible exact LeO.refl _)
   | (with_reducible exact LeO.none _)
   | (with_reducible refine LeO.ite ?_ ?_)
   | (with_reducible refine LeO.bind ?_ (fun _ => ?_))
   | exact ih0 _ _ _ _ _ _ _ _
   | exact ih1 _ _ _ _ _ _ _ _ _ _ _ _ _
   | exact LeO.none _
   | refine LeO.ite ?_ ?_
   | refine LeO.bind ?_ (fun _ => ?_)
  ·intro y0 y1 y2 y3 y4 y5 y6 y7 y8 y9 y10 y11 y12; unfold spec_l2Mul.l1; repeat' first
   | (with_reducible exact ih0 _ _ _ _ _ _ _ _)
   | (with_reducible exact ih1 _ _ _ _ _ _ _ _ _ _ _ _ _)
   | (with_reducible exact LeO.refl _)
   | (with_reducible exact LeO.none _)
   | (with_reducible refine LeO.ite ?_ ?_)
   | (with_reducible refine LeO.bind ?_ (fun _ => ?_))
   | exact ih0 _ _ _ _ _ _ _ _
   | exact ih1 _ _ _ _ _ _ _ _ _ _ _ _ _
   | exact LeO.none _
   | refine LeO.ite ?_ ?_
   | refine LeO.bind ?_ (fun _ => ?_)
theorem spec_l2Mul.mono : ∀ a0 a1 a2 a3 k, LeO (spec_l2Mul.f k a0 a1 a2 a3) (spec_l2Mul.f (k + 1) a0 a1 a2 a3) := by
 intro a0 a1 a2 a3 k; obtain ⟨ih0, ih1⟩ := spec_l2Mul.mono_l k; unfold spec_l2Mul.f; repeat' first
   | (with_reducible exact ih0 _ _ _ _ _ _ _ _)
   | (with_reducible exact ih1 _ _ _ _ _ _ _ _ _ _ _ _ _)
   | (with_reducible exact LeO.refl _)
   | (with_reducible exact LeO.none _)
   | (with_reducible refine LeO.ite ?_ ?_)
   | (with_reducible refine LeO.bind ?_ (fun _ => ?_))
   | exact ih0 _ _ _ _ _ _ _ _
   | exact ih1 _ _ _ _ _ _ _ _ _ _ _ _ _
   | exact LeO.none _
   | refine LeO.ite ?_ ?_
   | refine LeO.bind ?_ (fun _ => ?_)
def spec_l2Mul.T5 : Bool × List (List Nat × List Nat) := (true, [([], []), ([], []), ([1], [1]), ([0, 2], [0, 2]), ([], []), ([], []), ([5], [5]), ([4, 6], [4, 6]), ([3, 0, 1, 2, 3], [3]), ([7, 8, 0, 1, 2, 3, 4, 5, 6, 7, 8], [7])])
def spec_l2Mul.B5 : List Nat := [0, 0, 2, 7, 0, 0, 32, 112, 15, 511]
theorem spec_l2Mul.tab5 : rtab .any (opsOf Try.f57 5) = spec_l2Mul.T5 := by kernel_rfl
theorem spec_l2Mul.bits5 : waitsOk spec_l2Mul.T5.2 spec_l2Mul.B5 = true := by kernel_rfl
def spec_l2Mul.T10 : Bool × List (List Nat × List Nat) := (true, [([], []), ([], []), ([1], [1]), ([], []), ([], []), ([4], [4]), ([3, 5], [3, 5]), ([], []), ([6, 7], [6, 7]), ([2, 8], [2, 8]), ([9], [9]), ([], []), ([11], [11]), ([], []), ([], []), ([14], [14]), ([13, 15], [13, 15]), ([], []), ([16, 17], [16, 17]), ([12, 18], [12, 18]), ([19], [19]), ([10, 20], [10, 20]), ([0, 21], [0, 21]), ([22, 21, 0, 1, 2, 3, 4, 5, 6, 7, 8, 9, 10, 11, 12, 13, 14, 15, 16, 17, 18, 19, 20, 21, 22], [0, 22])])
def spec_l2Mul.B10 : List Nat := [0, 0, 2, 0, 0, 16, 56, 0, 248, 510, 1022, 0, 2048, 0, 0, 16384, 57344, 0, 253952, 522240, 1046528, 2097150, 4194303, 8388607]
theorem spec_l2Mul.tab10 : rtab .any (opsOf Try.f57 10) = spec_l2Mul.T10 := by kernel_rfl
theorem spec_l2Mul.bits10 : waitsOk spec_l2Mul.T10.2 spec_l2Mul.B10 = true := by kernel_rfl
set_option maxHeartbeats 8000000 in
set_option maxRecDepth 100000 in
theorem spec_l2Mul.calls (k : Nat) (a0_0 : Int) (A0_1 : Option Addr) (c0_1 : Nat) (l0_1 : List Int) (a1_0 : Int) (A1_1 : Option Addr) (c1_1 : Nat) (l1_1 : List Int) (r1 : Int) (r2 : List Int) (w : World) (hr0_1 : Kd.C (Kd.int .i64) w A0_1 l0_1.length l0_1) (hc0_1 : l0_1.length ≤ c0_1) (hr1_1 : Kd.C (Kd.int .i64) w A1_1 l1_1.length l1_1) (hc1_1 : l1_1.length ≤ c1_1) (h : spec_l2Mul.f k a0_0 l0_1 a1_0 l1_1 = some (r1, r2)) :
  Calls Try.prog 57 #[.agg #[.int .i64 a0_0, .slice A0_1 l0_1.length c0_1], .agg #[.int .i64 a1_0, .slice A1_1 l1_1.length c1_1]] w fun e w' => ∃ v1_ : Value, e = .returned (.agg #[.int .i64 r1, v1_]) ∧ Kd.R (Kd.int .i64) 3 w' w.heap.size (fun _ => True) v1_ r2 ∧ Below w.heap.size w w' := by
 have hu27 := Try.underlying27; have HR0_1 := am hr0_1; have HC0_1 := am hc0_1; clear hr0_1 hc0_1; have HR1_1 := am hr1_1; have HC1_1 := am hc1_1; clear hr1_1 hc1_1; have HB := am (Below.refl w.heap.size w); have H : (spec_l2Mul.l0 k (wrap64 (a0_0 * a0_0)) 0 a0_0 l0_1 a1_0 l1_1 a0_0 ([] : List Int)) = some (r1, r2) := h; clear h; have H' := am H; clear H; go_enter Try.func57, Try.ntmps57; go_wp2_with (first | ((with_reducible refine gx 2 rfl ?_); refine be (cs := #[.int .i64 a0_0, .slice A0_1 l0_1.length c0_1]) (t := 27) ?_; intro gb146 hg w3 hbox hb; have n0_ := hs HB hb; have n1_ := am (hbox); have n2_ := gs hg (bz HB.out); have n3_ := gs hg (bz HB.out); clear HB; revert n0_ n1_ n2_ n3_; intro HB BK146 GW146 GE146; clear hb hbox hg) | ((with_reducible refine gx 3 rfl ?_); refine be (cs := #[.int .i64 a1_0, .slice A1_1 l1_1.length c1_1]) (t := 27) ?_; intro gb147 hg w4 hbox hb; have n0_ := bk BK146 hb; have n1_ := hs HB hb; have n2_ := am (hbox); have n3_ := gs hg (bw HB.out); have n4_ := gs hg (bw HB.out); have n5_ := nl hg (kz BK146.out); have n6_ := nr hg (kz BK146.out); clear BK146 HB; revert n0_ n1_ n2_ n3_ n4_ n5_ n6_; intro BK146 HB BK147 GW147 GE147 NB146_147 NB147_146; clear hb hbox hg) | ((with_reducible refine gx 4 rfl ?_); refine be (cs := #[.int .i64 0, .slice none 0 0]) (t := 27) ?_; intro gb148 hg w5 hbox hb; have n0_ := bk BK146 hb; have n1_ := bk BK147 hb; have n2_ := hs HB hb; have n3_ := am (hbox); have n4_ := gs hg (bw HB.out); have n5_ := gs hg (bw HB.out); have n6_ := nl hg (kz BK146.out); have n7_ := nr hg (kz BK146.out); have n8_ := nl hg (kz BK147.out); have n9_ := nr hg (kz BK147.out); clear BK146 BK147 HB; revert n0_ n1_ n2_ n3_ n4_ n5_ n6_ n7_ n8_ n9_; intro BK146 BK147 HB BK148 GW148 GE148 NB146_148 NB148_146 NB147_148 NB148_147; clear hb hbox hg; have hnb6 := NB146_147.out; have hnc6 := NB147_146.out; have hnb7 := NB146_148.out; have hnc7 := NB148_146.out; have hz8 := zf2 BK146.out) | ((with_reducible refine gx 5 rfl ?_); refine be (cs := #[.int .i64 0, .slice none 0 0]) (t := 27) ?_; intro gb149 hg w9 hbox hb; have n0_ := bk BK146 hb; have n1_ := bk BK147 hb; have n2_ := bk BK148 hb; have n3_ := hs HB hb; have n4_ := am (hbox); have n5_ := gs hg (bw HB.out); have n6_ := gs hg (bw HB.out); have n7_ := nl hg (kz BK146.out); have n8_ := nr hg (kz BK146.out); have n9_ := nl hg (kz BK147.out); have n10_ := nr hg (kz BK147.out); have n11_ := nl hg (kz BK148.out); have n12_ := nr hg (kz BK148.out); clear BK146 BK147 BK148 HB; revert n0_ n1_ n2_ n3_ n4_ n5_ n6_ n7_ n8_ n9_ n10_ n11_ n12_; intro BK146 BK147 BK148 HB BK149 GW149 GE149 NB146_149 NB149_146 NB147_149 NB149_147 NB148_149 NB149_148; clear hb hbox hg; have hnb10 := NB149_146.out; have hnc10 := NB146_149.out; have hnb11 := NB149_147.out; have hnc11 := NB147_149.out; have hnb12 := NB149_148.out; have hnc12 := NB148_149.out; have hz13 := zf2 BK149.out; have hz14 := zf2 BK146.out)); go_loopg [19] k (fun kq v19 w' => ∃ (x19_1 : Int) (x150001_1 : List Int) (u150001 : Value), v19 = .int .i64 x19_1 ∧ Aside0 (spec_l2Mul.l0 kq (wrap64 (a0_0 * a0_0)) x19_1 a0_0 l0_1 a1_0 l1_1 a0_0 x150001_1 = some (r1, r2)) ∧ Aside0 (kq ≤ k) ∧ Aside0 (Kd.R (Kd.int .i64) 3 w' w.heap.size (fun _ => True) u150001 x150001_1) ∧ Aside0 (w'.heap[gb146]? = some (.cells #[.int .i64 a0_0, (.slice A0_1 l0_1.length c0_1)] 27 (0, 0))) ∧ Aside0 (w'.heap[gb147]? = some (.cells #[.int .i64 a1_0, (.slice A1_1 l1_1.length c1_1)] 27 (0, 0))) ∧ Aside0 (w'.heap[gb148]? = some (.cells #[.int .i64 0, (.slice none 0 0)] 27 (0, 0))) ∧ Aside0 (w'.heap[gb149]? = some (.cells #[.int .i64 a0_0, u150001] 27 (0, 0))) ∧ Aside0 (Below w.heap.size w w'))
 case atStart => exact ⟨(0), (([] : List Int)), (.slice none 0 0), (by first | rfl | (simp; done) | (simp [*]; done)), H', ⟨Nat.le_refl _⟩, ⟨by first | exact Kd.R_nil _ _ _ _ _ | exact Kd.N_nil _ _ _ _ _ | exact Kd.V_nil _ _ _ _ _ | exact Kd.Q_nil _ _ _ _ _ | exact Kd.S_nil _ _ _ _ _⟩, ⟨kp BK146.out⟩, ⟨kp BK147.out⟩, ⟨kp BK148.out⟩, ⟨kp BK149.out⟩, ⟨by exact bw HB.out⟩⟩
 case round =>
  clear H'; (try clear c1); (try clear p2); (try clear c5); (try clear c6); (try clear p6); (try clear c7); (try clear c10); (try clear c11); (try clear c12); obtain ⟨x19_1, x150001_1, u150001, rfl, HA, HK1, HO_150001, BK146, BK147, BK148, BK149, HB⟩ := hrel
  cases gk with
  | zero => exact absurd HA.out (by simp [spec_l2Mul.l0])
  | succ k1 =>
   have H := HA.out; clear HA; simp only [spec_l2Mul.l0] at H; by_cases c15 : x19_1 < (wrap64 (a0_0 * a0_0))
   ·rw [if_pos c15] at H; have c15b0 : decide (x19_1 < (wrap64 (a0_0 * a0_0))) = true := decide_eq_true c15; clear c15; by_cases c16 : a0_0 = 0
    ·rw [if_pos c16] at H; exact absurd H (by simp)
    ·rw [if_neg c16] at H; have c16b0 : (a0_0 == 0) = false := beq_eq_false_iff_ne.mpr c16; have c16b1 : (a0_0 != 0) = true := bne_iff_ne.mpr c16; have H' := am H; clear H; (try go_wp2); have n0_ := am (Kd.R_drew HO_150001.out); have n1_ := am (blk_drew BK146.out); have n2_ := am (blk_drew BK147.out); have n3_ := am (blk_drew BK148.out); have n4_ := am (blk_drew BK149.out); have n5_ := am (below_drew1 HB.out); clear HO_150001 BK146 BK147 BK148 BK149 HB; revert n0_ n1_ n2_ n3_ n4_ n5_; intro HO_150001 BK146 BK147 BK148 BK149 HB; refine start_ (n := 10) (S := fun w' => w'.cell? ⟨gb146, 0, none⟩ = some (.int .i64 a0_0) ∧ w'.cell? ⟨gb146, 1, none⟩ = some (.slice A0_1 l0_1.length c0_1)) (ds := []) (mkp 10 0) (by kernel_rfl) rfl rfl ⟨bl BK146.out 0, bl BK146.out 1⟩ (fun hHeld => ?_); refine with_tabW spec_l2Mul.tab5 spec_l2Mul.bits5 (fun HT_ HW_ => ?_); generalize wr.drew = w17 at HO_150001 BK146 BK147 BK148 BK149 HB hHeld ⊢; (iterate 2 refine qv HT_ ?_); refine pv 4 26 10 19 HT_ ?_; refine pv 5 27 10 51 HT_ ?_; refine tkm 2 24 (mk 10 55) HT_ HW_ hHeld ?_; refine pvp 3 25 10 6 HT_ ?_; refine pv 8 7 10 319 HT_ ?_; refine tkm 6 28 (mk 10 383) HT_ HW_ hHeld ?_; refine pvp 7 29 10 9 HT_ ?_; refine qv HT_ ?_; refine done_ (done_of HT_.out (by kernel_rfl)) ?_; have hnb18 := NB146_147.out; have hnc18 := NB147_146.out; have hnb19 := NB146_148.out; have hnc19 := NB148_146.out; have hnb20 := NB146_149.out; have hnc20 := NB149_146.out; have hz21 := zf2 BK146.out; (try go_wp2); go_loopg [9, 32] k1 (fun kq v9 v32 w' => ∃ (x9_2 : Int) (x32_2 : Int), v9 = .int .i64 x9_2 ∧ v32 = .int .i64 x32_2 ∧ Aside0 (spec_l2Mul.l1 kq (wrap64 (Int.tdiv x19_1 a0_0)) (Int.tmod x19_1 a0_0) x9_2 (wrap64 (a0_0 * a0_0)) x19_1 a0_0 x32_2 a0_0 l0_1 a1_0 l1_1 a0_0 x150001_1 = some (r1, r2)) ∧ Aside0 (kq ≤ k1) ∧ Aside0 (Kd.R (Kd.int .i64) 3 w' w.heap.size (fun _ => True) u150001 x150001_1) ∧ Aside0 (w'.heap[gb146]? = some (.cells #[.int .i64 a0_0, (.slice A0_1 l0_1.length c0_1)] 27 (0, 0))) ∧ Aside0 (w'.heap[gb147]? = some (.cells #[.int .i64 a1_0, (.slice A1_1 l1_1.length c1_1)] 27 (0, 0))) ∧ Aside0 (w'.heap[gb148]? = some (.cells #[.int .i64 0, (.slice none 0 0)] 27 (0, 0))) ∧ Aside0 (w'.heap[gb149]? = some (.cells #[.int .i64 a0_0, u150001] 27 (0, 0))) ∧ Aside0 (Below w.heap.size w w'))
     case atStart => exact ⟨(1000000), (0), (by first | rfl | (simp; done) | (simp [*]; done)), (by first | rfl | (simp; done) | (simp [*]; done)), H', ⟨Nat.le_refl _⟩, ⟨rz HO_150001.out⟩, ⟨kz BK146.out⟩, ⟨kz BK147.out⟩, ⟨kz BK148.out⟩, ⟨kz BK149.out⟩, ⟨by exact bw HB.out⟩⟩
     case round =>
      clear H'; (try clear c1); (try clear c2); (try clear p2); (try clear c5); (try clear c6); (try clear p6); (try clear c7); (try clear c10); (try clear c11); (try clear c12); (try clear c15); (try clear c15b0); (try clear c16); (try clear c16b0); (try clear c16b1); (try clear c18); (try clear c19); (try clear c20); (try clear p2); (try clear p6); obtain ⟨x9_2, x32_2, rfl, rfl, HA, HK2, HO_150001, BK146, BK147, BK148, BK149, HB⟩ := hrel
      cases gk with
      | zero => exact absurd HA.out (by simp [spec_l2Mul.l1])
      | succ k2 =>
       have H := HA.out; clear HA; simp only [spec_l2Mul.l1] at H; by_cases c22 : x32_2 < a0_0
       ·rw [if_pos c22] at H; have c22b0 : decide (x32_2 < a0_0) = true := decide_eq_true c22; clear c22; obtain ⟨ji23, hji23⟩ : ∃ j_ : Int, (wrap64 ((wrap64 ((wrap64 (Int.tdiv x19_1 a0_0)) * a0_0)) + x32_2)) = j_ := ⟨_, rfl⟩
        replace H : (if 0 ≤ (ji23) then (if (ji23) < (l0_1.length : Int) then (if 0 ≤ (wrap64 ((wrap64 (x32_2 * a0_0)) + (Int.tmod x19_1 a0_0))) then (if (wrap64 ((wrap64 (x32_2 * a0_0)) + (Int.tmod x19_1 a0_0))) < (l1_1.length : Int) then ((spec_l1Add.f (rd l0_1 (ji23)) (rd l1_1 (wrap64 ((wrap64 (x32_2 * a0_0)) + (Int.tmod x19_1 a0_0))))).bind fun t152 => (spec_l2Mul.l1 k2 (wrap64 (Int.tdiv x19_1 a0_0)) (Int.tmod x19_1 a0_0) (mn x9_2 t152) (wrap64 (a0_0 * a0_0)) x19_1 a0_0 (wrap64 (x32_2 + 1)) a0_0 l0_1 a1_0 l1_1 a0_0 x150001_1)) else (none)) else (none)) else (none)) else (none)) = some (r1, r2) := by first | (rw [hji23] at H; exact H) | (simp only [hji23] at H ⊢; exact H)
        have hji23w : (IntKind.i64.wrap ((wrap64 ((wrap64 (Int.tdiv x19_1 a0_0)) * a0_0)) + x32_2)) = ji23 := (i64_w _).trans hji23; by_cases c24 : 0 ≤ (ji23)
        ·rw [if_pos c24] at H; have c24b0 : decide (0 ≤ (ji23)) = true := decide_eq_true c24; clear c24; by_cases c25 : (ji23) < (l0_1.length : Int)
         ·rw [if_pos c25] at H; have c25b0 : decide ((ji23) < (l0_1.length : Int)) = true := decide_eq_true c25; clear c25; obtain ⟨ji26, hji26⟩ : ∃ j_ : Int, (wrap64 ((wrap64 (x32_2 * a0_0)) + (Int.tmod x19_1 a0_0))) = j_ := ⟨_, rfl⟩
          replace H : (if 0 ≤ (ji26) then (if (ji26) < (l1_1.length : Int) then ((spec_l1Add.f (rd l0_1 (ji23)) (rd l1_1 (ji26))).bind fun t152 => (spec_l2Mul.l1 k2 (wrap64 (Int.tdiv x19_1 a0_0)) (Int.tmod x19_1 a0_0) (mn x9_2 t152) (wrap64 (a0_0 * a0_0)) x19_1 a0_0 (wrap64 (x32_2 + 1)) a0_0 l0_1 a1_0 l1_1 a0_0 x150001_1)) else (none)) else (none)) = some (r1, r2) := by first | (rw [hji26] at H; exact H) | (simp only [hji26] at H ⊢; exact H)
          have hji26w : (IntKind.i64.wrap ((wrap64 (x32_2 * a0_0)) + (Int.tmod x19_1 a0_0))) = ji26 := (i64_w _).trans hji26; by_cases c27 : 0 ≤ (ji26)
          ·rw [if_pos c27] at H; have c27b0 : decide (0 ≤ (ji26)) = true := decide_eq_true c27; clear c27; by_cases c28 : (ji26) < (l1_1.length : Int)
           ·rw [if_pos c28] at H; have c28b0 : decide ((ji26) < (l1_1.length : Int)) = true := decide_eq_true c28; clear c28; replace H := Option.bind_eq_some_iff.mp H; obtain ⟨t152, A290, H⟩ := H; (try dsimp only at H); have A29 := am A290; clear A290; obtain ⟨ji30, hji30⟩ : ∃ j_ : Int, (mn x9_2 t152) = j_ := ⟨_, rfl⟩
            replace H : (spec_l2Mul.l1 k2 (wrap64 (Int.tdiv x19_1 a0_0)) (Int.tmod x19_1 a0_0) ji30 (wrap64 (a0_0 * a0_0)) x19_1 a0_0 (wrap64 (x32_2 + 1)) a0_0 l0_1 a1_0 l1_1 a0_0 x150001_1) = some (r1, r2) := by first | (rw [hji30] at H; exact H) | (simp only [hji30] at H ⊢; exact H)
            (try rw [hji30] at A29); have hji30_ : (if t152 < x9_2 then t152 else x9_2) = ji30 := hji30; have H' := am H; clear H; (try go_wp2); have n0_ := am (Kd.R_drew HO_150001.out); have n1_ := am (blk_drew BK146.out); have n2_ := am (blk_drew BK147.out); have n3_ := am (blk_drew BK148.out); have n4_ := am (blk_drew BK149.out); have n5_ := am (below_drew1 HB.out); clear HO_150001 BK146 BK147 BK148 BK149 HB; revert n0_ n1_ n2_ n3_ n4_ n5_; intro HO_150001 BK146 BK147 BK148 BK149 HB; have p150 : 0 ≤ ((ji23) : Int) := da; have q150 : (ji23) < (l0_1.length : Int) := da; obtain ⟨ad150, e150, hx150_0⟩ := Kd.at_int HR0_1.out (ji23) p150 q150; have hw150_0 := hx150_0; cases e150; replace hx150_0 := lx (bw HB.out) hx150_0; replace p150 := eq_true p150; replace q150 := eq_true q150; have p151 : 0 ≤ ((ji26) : Int) := da; have q151 : (ji26) < (l1_1.length : Int) := da; obtain ⟨ad151, e151, hx151_0⟩ := Kd.at_int HR1_1.out (ji26) p151 q151; have hw151_0 := hx151_0; cases e151; replace hx151_0 := lx (bw HB.out) hx151_0; replace p151 := eq_true p151; replace q151 := eq_true q151; refine start_ (n := 24) (S := fun w' => w'.cell? ⟨gb146, 0, none⟩ = some (.int .i64 a0_0) ∧ w'.cell? ⟨gb146, 1, none⟩ = some (.slice (some ad150) l0_1.length c0_1) ∧ w'.cell? ⟨gb147, 0, none⟩ = some (.int .i64 a1_0) ∧ w'.cell? ⟨gb147, 1, none⟩ = some (.slice (some ad151) l1_1.length c1_1) ∧ w'.cell? (ad150.add ((ji23)).toNat) = some (.int .i64 (rd l0_1 (ji23))) ∧ w'.cell? (ad151.add ((ji26)).toNat) = some (.int .i64 (rd l1_1 (ji26)))) (ds := []) (mkp 24 0) (by kernel_rfl) rfl rfl ⟨bl BK146.out 0, bl BK146.out 1, bl BK147.out 0, bl BK147.out 1, (lx (bw HB.out) hw150_0), (lx (bw HB.out) hw151_0)⟩ (fun hHeld => ?_); refine with_tabW spec_l2Mul.tab10 spec_l2Mul.bits10 (fun HT_ HW_ => ?_); generalize wr.drew = w31 at HO_150001 BK146 BK147 BK148 BK149 HB hx150_0 hx151_0 hHeld ⊢; (iterate 2 refine qv HT_ ?_); refine pv 3 38 24 11 HT_ ?_; refine pv 4 39 24 27 HT_ ?_; refine pv 7 42 24 155 HT_ ?_; refine pv 11 46 24 2203 HT_ ?_; refine pv 13 48 24 10395 HT_ ?_; refine pv 14 49 24 26779 HT_ ?_; refine pv 17 52 24 157851 HT_ ?_; refine tkm 2 37 (mk 24 157855) HT_ HW_ hHeld ?_; refine tkm 5 40 (mk 24 157887) HT_ HW_ hHeld ?_; refine pv 6 41 24 157951 HT_ ?_; refine pv 8 43 24 158207 HT_ ?_; refine pv 9 44 24 158719 HT_ ?_; refine tkm 10 45 (mk 24 159743) HT_ HW_ hHeld ?_; refine tkm 12 47 (mk 24 163839) HT_ HW_ hHeld ?_; refine tkm 15 50 (mk 24 196607) HT_ HW_ hHeld ?_; refine pvp 16 51 24 18 HT_ ?_; (iterate 3 (first | refine qv HT_ ?_ | refine tk HT_ HW_ hHeld ?_)); refine on 21 (mkp 24 22) HT_ (fun K hK => ?_); refine goes_ Try.func68 (by kernel_rfl) rfl #[.int .i64 (rd l0_1 (ji23)), .int .i64 (rd l1_1 (ji26))] (by rfl) rfl rfl (by (try simp only [List.map_toArray, List.map_cons, List.map_nil]); first | done | (simp only [hji23, hji26]; rfl) | rfl | (simp only [List.length_drop, List.length_take]; rfl)) ?_
            with_reducible refine (spec_l1Add.calls (rd l0_1 (ji23)) (rd l1_1 (ji26)) t152 _ A29.out).mono ?_
            rintro e w32 ⟨rfl, hb⟩; refine ⟨_, rfl, ?_⟩; have n0_ := rb HO_150001 hb; have n1_ := bk BK146 hb; have n2_ := bk BK147 hb; have n3_ := bk BK148 hb; have n4_ := bk BK149 hb; have n5_ := hs HB hb; clear HO_150001 BK146 BK147 BK148 BK149 HB; revert n0_ n1_ n2_ n3_ n4_ n5_; intro HO_150001 BK146 BK147 BK148 BK149 HB; (try clear hb); (try clear hb2); (try clear hk); (try clear hi); refine hK.out _ _ ⟨bl BK146.out 0, bl BK146.out 1, bl BK147.out 0, bl BK147.out 1, (lx (bw HB.out) hw150_0), (lx (bw HB.out) hw151_0)⟩ (fun hHeld => ?_); clear hK K; refine norm_ (a' := ?_) ?_ ?_; rotate_left
            ·show Act.put _ (some 56) _ = _; simp only [Act.put, List.setIfInBounds_toArray, List.set_cons_zero, List.set_cons_succ, i64_w, i32_w]; rfl
            (iterate 2 refine qv HT_ ?_); refine done_ (done_of HT_.out (by kernel_rfl)) ?_; (try go_wp2); go_roundg k2
            case measure => have := HK1.out; have := HK2.out; omega
            case rel => exact ⟨(ji30), (wrap64 (x32_2 + 1)), (by first | rfl | (simp; done) | (simp only [← hji30] <;> (first | rfl | simp)) | (simp [*]; done)), (by first | rfl | (simp; done) | (simp [*]; done)), H', ⟨by have := HK1.out; have := HK2.out; omega⟩, ⟨rz HO_150001.out⟩, ⟨kz BK146.out⟩, ⟨kz BK147.out⟩, ⟨kz BK148.out⟩, ⟨kz BK149.out⟩, ⟨by exact bw HB.out⟩⟩
           ·rw [if_neg c28] at H; exact absurd H (by simp)
          ·rw [if_neg c27] at H; exact absurd H (by simp)
         ·rw [if_neg c25] at H; exact absurd H (by simp)
        ·rw [if_neg c24] at H; exact absurd H (by simp)
       ·rw [if_neg c22] at H; have c22b0 : decide (x32_2 < a0_0) = false := decide_eq_false c22; clear c22; by_cases c33 : x150001_1.length < 17592186044416
        ·rw [if_pos c33] at H; have LMc33 := am c33; clear c33; obtain ⟨y153, hy153⟩ : ∃ y_ : List Int, y_ = (x150001_1 ++ [x9_2]) := ⟨_, rfl⟩
         replace H : (spec_l2Mul.l0 k2 (wrap64 (a0_0 * a0_0)) (wrap64 (x19_1 + 1)) a0_0 l0_1 a1_0 l1_1 a0_0 y153) = some (r1, r2) := by first | (rw [hy153]; with_reducible exact H) | (have H2_ := (Option.bind_some _ _).symm.trans H; rw [hy153]; with_reducible exact H2_) | (have H2_ := (Option.bind_some _ _).symm.trans H; with_reducible exact H2_) | with_reducible exact H | (rw [hy153]; exact H) | exact H
         have Ny153 := am hy153; clear hy153; have H' := am H; clear H; have hnb34 := NB149_146.out; have hnc34 := NB146_149.out; have hnb35 := NB149_147.out; have hnc35 := NB147_149.out; have hnb36 := NB149_148.out; have hnc36 := NB148_149.out; have hz37 := zf2 BK149.out; go_wp2_with (first | ((with_reducible refine gate_builtin (b := .append) (xs := #[.tmp 60, .tmp 62]) rfl ?_); at_builtin; refine Kd.R_append (Kd.int .i64) (w0 := w) w.heap.size rfl (.tmp 60) (.tmp 62) 22 3 (.int .i64 0) 8 rfl Try.underlying22 info3 rfl (by decide) (by omega) u150001 x150001_1 x9_2 [.int .i64 x9_2] (fun _ => True) (fun _ => False) rfl rfl ?aP (fun _ hk => hk.elim) ?aF ?aO ?aB ?aS ?aL ?_; (case aP => exact rfl); (case aB => exact (bw HB.out)); (case aF => exact (fun _ _ => trivial)); (case aO => exact (rz HO_150001.out)); (case aS => exact (below_size (bw HB.out))); (case aL => have := LMc33.out; omega); intro v154 w38 ho hb hg hat; rw [← Ny153.out] at ho; have n0_ := am (blk_grown (kz BK146.out) hg (Kd.R_ne HO_150001.out BK146.out (by decide))); have n1_ := am (blk_grown (kz BK147.out) hg (Kd.R_ne HO_150001.out BK147.out (by decide))); have n2_ := am (blk_grown (kz BK148.out) hg (Kd.R_ne HO_150001.out BK148.out (by decide))); have n3_ := am (blk_grown (kz BK149.out) hg (Kd.R_ne HO_150001.out BK149.out (by decide))); have n4_ := am (hb); have n5_ := am (ho); clear BK146 BK147 BK148 BK149 HB HO_150001; revert n0_ n1_ n2_ n3_ n4_ n5_; intro BK146 BK147 BK148 BK149 HB HO155; clear ho hb hg hat; obtain ⟨Ao39, co39, eo39⟩ := Kd.R_slice HO155.out; subst eo39; have hz40 := zf2 BK149.out)); go_roundg k2
         case measure => have := HK1.out; have := HK2.out; omega
         case rel => exact ⟨(wrap64 (x19_1 + 1)), (y153), (.slice Ao39 y153.length co39), (by first | rfl | (simp; done) | (simp [*]; done)), H', ⟨by have := HK1.out; have := HK2.out; omega⟩, ⟨rq (Kd.R_mono (q1 HO155.out BK149.out (by decide)) (fun _ hk => trivial))⟩, ⟨kp BK146.out⟩, ⟨kp BK147.out⟩, ⟨kp BK148.out⟩, ⟨kp BK149.out⟩, ⟨by exact bw HB.out⟩⟩
        ·rw [if_neg c33] at H; exact absurd H (by simp)
   ·rw [if_neg c15] at H; have c15b0 : decide (x19_1 < (wrap64 (a0_0 * a0_0))) = false := decide_eq_false c15; clear c15; simp only [Option.some.injEq, Prod.mk.injEq] at H; obtain ⟨rfl, rfl⟩ := H; have hnb41 := NB149_146.out; have hnc41 := NB146_149.out; have hnb42 := NB149_147.out; have hnc42 := NB147_149.out; have hnb43 := NB149_148.out; have hnc43 := NB148_149.out; have hz44 := zf2 BK149.out; have hnb45 := NB148_146.out; have hnc45 := NB146_148.out; have hnb46 := NB148_147.out; have hnc46 := NB147_148.out; have hz47 := zf2 BK148.out; obtain ⟨Ao48, co48, eo48⟩ := Kd.R_slice HO_150001.out; subst eo48; go_wp2; refine bodyPost_ret (results_cell_row rfl _ _ gb148 27 #[.int .i64 a0_0, .slice Ao48 x150001_1.length co48] (0, 0) _ rfl (kp BK148.out) Try.underlying27 rfl (by kernel_rfl)) rfl ?_; exact ⟨_, by first | rfl | (simp [errW_none, errW_some] <;> rfl) | (simp [*, errW_none, errW_some] <;> rfl), rq (Kd.R_mono (q2 HO_150001.out BK148.out (by decide)) (fun _ hk => trivial)), by exact bw HB.out⟩

/-! ### spec_MulMatrix: function 27 -/
def spec_MulMatrix.f (k : Nat) (a0_0 : Int) (l0_1 : List Int) (a1_0 : Int) (l1_1 : List Int) : Option (Int × List Int × Bool) := (spec_l2Two.f k a0_0 l0_1 a1_0 l1_1).bind fun t159 => (if t159 = true then ((spec_l2Mul.f k a0_0 l0_1 a1_0 l1_1).bind fun bt160 => (some (bt160.1, bt160.2, true))) else (some (0, ([] : List Int), false)))
theorem spec_MulMatrix.mono : ∀ a0 a1 a2 a3 k, LeO (spec_MulMatrix.f k a0 a1 a2 a3) (spec_MulMatrix.f (k + 1) a0 a1 a2 a3) := by
 intro a0 a1 a2 a3 k; unfold spec_MulMatrix.f; repeat' first
   | (with_reducible exact spec_l2Mul.mono _ _ _ _ _)
   | (with_reducible exact spec_l2Two.mono _ _ _ _ _)
   | (with_reducible exact LeO.refl _)
   | (with_reducible exact LeO.none _)
   | (with_reducible refine LeO.ite ?_ ?_)
   | (with_reducible refine LeO.bind ?_ (fun _ => ?_))
   | exact spec_l2Mul.mono _ _ _ _ _
   | exact spec_l2Two.mono _ _ _ _ _
   | exact LeO.none _
   | refine LeO.ite ?_ ?_
   | refine LeO.bind ?_ (fun _ => ?_)
set_option maxHeartbeats 8000000 in
set_option maxRecDepth 100000 in
theorem spec_MulMatrix.calls (k : Nat) (a0_0 : Int) (A0_1 : Option Addr) (c0_1 : Nat) (l0_1 : List Int) (a1_0 : Int) (A1_1 : Option Addr) (c1_1 : Nat) (l1_1 : List Int) (r1 : Int) (r2 : List Int) (r3 : Bool) (w : World) (hr0_1 : Kd.C (Kd.int .i64) w A0_1 l0_1.length l0_1) (hc0_1 : l0_1.length ≤ c0_1) (hr1_1 : Kd.C (Kd.int .i64) w A1_1 l1_1.length l1_1) (hc1_1 : l1_1.length ≤ c1_1) (h : spec_MulMatrix.f k a0_0 l0_1 a1_0 l1_1 = some (r1, r2, r3)) :
  Calls Try.prog 27 #[.agg #[.int .i64 a0_0, .slice A0_1 l0_1.length c0_1], .agg #[.int .i64 a1_0, .slice A1_1 l1_1.length c1_1]] w fun e w' => ∃ v1_ : Value, e = .returned (.tuple #[.agg #[.int .i64 r1, v1_], .bool r3]) ∧ Kd.R (Kd.int .i64) 3 w' w.heap.size (fun _ => True) v1_ r2 ∧ Below w.heap.size w w' := by
 have hu27 := Try.underlying27; have HR0_1 := am hr0_1; have HC0_1 := am hc0_1; clear hr0_1 hc0_1; have HR1_1 := am hr1_1; have HC1_1 := am hc1_1; clear hr1_1 hc1_1; have HB := am (Below.refl w.heap.size w); have H : ((spec_l2Two.f k a0_0 l0_1 a1_0 l1_1).bind fun t159 => (if t159 = true then ((spec_l2Mul.f k a0_0 l0_1 a1_0 l1_1).bind fun bt160 => (some (bt160.1, bt160.2, true))) else (some (0, ([] : List Int), false)))) = some (r1, r2, r3) := h; clear h; replace H := Option.bind_eq_some_iff.mp H; obtain ⟨t159, A30, H⟩ := H; (try dsimp only at H); have A3 := am A30; clear A30; by_cases c4 : t159 = true
 ·subst c4
  have H1 : ((spec_l2Mul.f k a0_0 l0_1 a1_0 l1_1).bind fun bt160 => (some (bt160.1, bt160.2, true))) = some (r1, r2, r3) := by rw [if_pos rfl] at H; exact H
  clear H; have H := H1; clear H1; replace H := Option.bind_eq_some_iff.mp H; obtain ⟨⟨t160, t161⟩, A50, H⟩ := H; (try dsimp only at H); have A5 := am A50; clear A50; simp only [Option.some.injEq, Prod.mk.injEq] at H; obtain ⟨rfl, rfl, rfl⟩ := H; go_enter Try.func27, Try.ntmps27; go_wp2_with (first | ((with_reducible refine gx 2 rfl ?_); refine be (cs := #[.int .i64 a0_0, .slice A0_1 l0_1.length c0_1]) (t := 27) ?_; intro gb156 hg w6 hbox hb; have n0_ := hs HB hb; have n1_ := am (hbox); have n2_ := gs hg (bz HB.out); have n3_ := gs hg (bz HB.out); clear HB; revert n0_ n1_ n2_ n3_; intro HB BK156 GW156 GE156; clear hb hbox hg) | ((with_reducible refine gx 3 rfl ?_); refine be (cs := #[.int .i64 a1_0, .slice A1_1 l1_1.length c1_1]) (t := 27) ?_; intro gb157 hg w7 hbox hb; have n0_ := bk BK156 hb; have n1_ := hs HB hb; have n2_ := am (hbox); have n3_ := gs hg (bw HB.out); have n4_ := gs hg (bw HB.out); have n5_ := nl hg (kz BK156.out); have n6_ := nr hg (kz BK156.out); clear BK156 HB; revert n0_ n1_ n2_ n3_ n4_ n5_ n6_; intro BK156 HB BK157 GW157 GE157 NB156_157 NB157_156; clear hb hbox hg) | ((with_reducible refine gx 4 rfl ?_); refine be (cs := #[.int .i64 0, .slice none 0 0]) (t := 27) ?_; intro gb158 hg w8 hbox hb; have n0_ := bk BK156 hb; have n1_ := bk BK157 hb; have n2_ := hs HB hb; have n3_ := am (hbox); have n4_ := gs hg (bw HB.out); have n5_ := gs hg (bw HB.out); have n6_ := nl hg (kz BK156.out); have n7_ := nr hg (kz BK156.out); have n8_ := nl hg (kz BK157.out); have n9_ := nr hg (kz BK157.out); clear BK156 BK157 HB; revert n0_ n1_ n2_ n3_ n4_ n5_ n6_ n7_ n8_ n9_; intro BK156 BK157 HB BK158 GW158 GE158 NB156_158 NB158_156 NB157_158 NB158_157; clear hb hbox hg; have hnb9 := NB156_157.out; have hnc9 := NB157_156.out; have hnb10 := NB156_158.out; have hnc10 := NB158_156.out; have hz11 := zf2 BK156.out; have hnb12 := NB157_158.out; have hnc12 := NB158_157.out; have hz13 := zf2 BK157.out) | ((with_reducible refine gy 53 rfl ?_); refine gl Try.func53 #[.agg #[.int .i64 a0_0, .slice A0_1 l0_1.length c0_1], .agg #[.int .i64 a1_0, .slice A1_1 l1_1.length c1_1]] ?_; (with_reducible refine (spec_l2Two.calls k a0_0 _ _ l0_1 a1_0 _ _ l1_1 true _ ?side1 ?side2 ?side3 ?side4 A3.out).mono ?_); (case side1 => exact cc (Kd.C_below HR0_1.out HB.out)); (case side2 => exact HC0_1.out); (case side3 => exact cc (Kd.C_below HR1_1.out HB.out)); (case side4 => exact HC1_1.out); rintro e w14 ⟨rfl, hb⟩; refine ⟨_, rfl, ?_⟩; have n0_ := bk BK156 hb; have n1_ := bk BK157 hb; have n2_ := bk BK158 hb; have n3_ := hs HB hb; clear BK156 BK157 BK158 HB; revert n0_ n1_ n2_ n3_; intro BK156 BK157 BK158 HB; (try clear hb); (try clear hb2); (try clear hk); (try clear hi); have hz15 := zf2 BK156.out; have hz16 := zf2 BK157.out) | ((with_reducible refine gy 57 rfl ?_); refine gl Try.func57 #[.agg #[.int .i64 a0_0, .slice A0_1 l0_1.length c0_1], .agg #[.int .i64 a1_0, .slice A1_1 l1_1.length c1_1]] ?_; (with_reducible refine (spec_l2Mul.calls k a0_0 _ _ l0_1 a1_0 _ _ l1_1 t160 t161 _ ?side1 ?side2 ?side3 ?side4 A5.out).mono ?_); (case side1 => exact cc (Kd.C_below HR0_1.out HB.out)); (case side2 => exact HC0_1.out); (case side3 => exact cc (Kd.C_below HR1_1.out HB.out)); (case side4 => exact HC1_1.out); rintro e w17 ⟨v162, rfl, ho0, hb⟩; refine ⟨_, rfl, ?_⟩; have n0_ := am (Kd.R_lower ho0 (below_size (bw HB.out))); have n1_ := bk BK156 hb; have n2_ := bk BK157 hb; have n3_ := bk BK158 hb; have n4_ := hs HB hb; clear BK156 BK157 BK158 HB; revert n0_ n1_ n2_ n3_ n4_; intro HO163 BK156 BK157 BK158 HB; (try clear hb); (try clear hb2); (try clear hk); (try clear hi); (try clear ho0); have hz18 := zf2 BK158.out; obtain ⟨Ao19, co19, eo19⟩ := Kd.R_slice HO163.out; subst eo19)); refine bodyPost_ret (results_ct rfl _ _ gb158 27 #[.int .i64 t160, .slice Ao19 t161.length co19] (0, 0) _ rfl (kp BK158.out) Try.underlying27 rfl (by kernel_rfl)) rfl ?_; exact ⟨_, by first | rfl | (simp [errW_none, errW_some] <;> rfl) | (simp [*, errW_none, errW_some] <;> rfl), rq (Kd.R_mono (q2 HO163.out BK158.out (by decide)) (fun _ hk => trivial)), by exact bw HB.out⟩
 ·replace c4 := Bool.eq_false_iff.mpr c4; subst c4
  have H1 : (some (0, ([] : List Int), false)) = some (r1, r2, r3) := by rw [if_neg (show ¬ (false = true) by decide)] at H; exact H
  clear H; have H := H1; clear H1; simp only [Option.some.injEq, Prod.mk.injEq] at H; obtain ⟨rfl, rfl, rfl⟩ := H; go_enter Try.func27, Try.ntmps27; go_wp2_with (first | ((with_reducible refine gx 2 rfl ?_); refine be (cs := #[.int .i64 a0_0, .slice A0_1 l0_1.length c0_1]) (t := 27) ?_; intro gb156 hg w20 hbox hb; have n0_ := hs HB hb; have n1_ := am (hbox); have n2_ := gs hg (bz HB.out); have n3_ := gs hg (bz HB.out); clear HB; revert n0_ n1_ n2_ n3_; intro HB BK156 GW156 GE156; clear hb hbox hg) | ((with_reducible refine gx 3 rfl ?_); refine be (cs := #[.int .i64 a1_0, .slice A1_1 l1_1.length c1_1]) (t := 27) ?_; intro gb157 hg w21 hbox hb; have n0_ := bk BK156 hb; have n1_ := hs HB hb; have n2_ := am (hbox); have n3_ := gs hg (bw HB.out); have n4_ := gs hg (bw HB.out); have n5_ := nl hg (kz BK156.out); have n6_ := nr hg (kz BK156.out); clear BK156 HB; revert n0_ n1_ n2_ n3_ n4_ n5_ n6_; intro BK156 HB BK157 GW157 GE157 NB156_157 NB157_156; clear hb hbox hg) | ((with_reducible refine gx 4 rfl ?_); refine be (cs := #[.int .i64 0, .slice none 0 0]) (t := 27) ?_; intro gb158 hg w22 hbox hb; have n0_ := bk BK156 hb; have n1_ := bk BK157 hb; have n2_ := hs HB hb; have n3_ := am (hbox); have n4_ := gs hg (bw HB.out); have n5_ := gs hg (bw HB.out); have n6_ := nl hg (kz BK156.out); have n7_ := nr hg (kz BK156.out); have n8_ := nl hg (kz BK157.out); have n9_ := nr hg (kz BK157.out); clear BK156 BK157 HB; revert n0_ n1_ n2_ n3_ n4_ n5_ n6_ n7_ n8_ n9_; intro BK156 BK157 HB BK158 GW158 GE158 NB156_158 NB158_156 NB157_158 NB158_157; clear hb hbox hg; have hnb23 := NB156_157.out; have hnc23 := NB157_156.out; have hnb24 := NB156_158.out; have hnc24 := NB158_156.out; have hz25 := zf2 BK156.out; have hnb26 := NB157_158.out; have hnc26 := NB158_157.out; have hz27 := zf2 BK157.out) | ((with_reducible refine gy 53 rfl ?_); refine gl Try.func53 #[.agg #[.int .i64 a0_0, .slice A0_1 l0_1.length c0_1], .agg #[.int .i64 a1_0, .slice A1_1 l1_1.length c1_1]] ?_; (with_reducible refine (spec_l2Two.calls k a0_0 _ _ l0_1 a1_0 _ _ l1_1 false _ ?side1 ?side2 ?side3 ?side4 A3.out).mono ?_); (case side1 => exact cc (Kd.C_below HR0_1.out HB.out)); (case side2 => exact HC0_1.out); (case side3 => exact cc (Kd.C_below HR1_1.out HB.out)); (case side4 => exact HC1_1.out); rintro e w28 ⟨rfl, hb⟩; refine ⟨_, rfl, ?_⟩; have n0_ := bk BK156 hb; have n1_ := bk BK157 hb; have n2_ := bk BK158 hb; have n3_ := hs HB hb; clear BK156 BK157 BK158 HB; revert n0_ n1_ n2_ n3_; intro BK156 BK157 BK158 HB; (try clear hb); (try clear hb2); (try clear hk); (try clear hi); have hz29 := zf2 BK158.out)); refine bodyPost_ret (results_ct rfl _ _ gb158 27 #[.int .i64 0, .slice none 0 0] (0, 0) _ rfl (kp BK158.out) Try.underlying27 rfl (by kernel_rfl)) rfl ?_; exact ⟨_, by first | rfl | (simp [errW_none, errW_some] <;> rfl) | (simp [*, errW_none, errW_some] <;> rfl), by first | exact Kd.R_nil _ _ _ _ _ | exact Kd.N_nil _ _ _ _ _ | exact Kd.V_nil _ _ _ _ _ | exact Kd.Q_nil _ _ _ _ _ | exact Kd.S_nil _ _ _ _ _, by exact bw HB.out⟩

/-! ### impl_alike: function 55 -/
def impl_alike.f (k : Nat) (a0_0 : Int) (l0_1 : List Int) (a1_0 : Int) (l1_1 : List Int) : Option (Bool) := (impl_MatrixValid.f k a0_0 l0_1).bind fun t166 => (if t166 = true then ((impl_MatrixValid.f k a1_0 l1_1).bind fun t167 => (if t167 = true then (some (a0_0 == a1_0)) else (some false))) else (some false))
theorem impl_alike.mono : ∀ a0 a1 a2 a3 k, LeO (impl_alike.f k a0 a1 a2 a3) (impl_alike.f (k + 1) a0 a1 a2 a3) := by
 intro a0 a1 a2 a3 k; unfold impl_alike.f; repeat' first
   | (with_reducible exact impl_MatrixValid.mono _ _ _)
   | (with_reducible exact LeO.refl _)
   | (with_reducible exact LeO.none _)
   | (with_reducible refine LeO.ite ?_ ?_)
   | (with_reducible refine LeO.bind ?_ (fun _ => ?_))
   | exact impl_MatrixValid.mono _ _ _
   | exact LeO.none _
   | refine LeO.ite ?_ ?_
   | refine LeO.bind ?_ (fun _ => ?_)
set_option maxHeartbeats 8000000 in
set_option maxRecDepth 100000 in
theorem impl_alike.calls (k : Nat) (a0_0 : Int) (A0_1 : Option Addr) (c0_1 : Nat) (l0_1 : List Int) (a1_0 : Int) (A1_1 : Option Addr) (c1_1 : Nat) (l1_1 : List Int) (r : Bool) (w : World) (hr0_1 : Kd.C (Kd.int .i64) w A0_1 l0_1.length l0_1) (hc0_1 : l0_1.length ≤ c0_1) (hr1_1 : Kd.C (Kd.int .i64) w A1_1 l1_1.length l1_1) (hc1_1 : l1_1.length ≤ c1_1) (h : impl_alike.f k a0_0 l0_1 a1_0 l1_1 = some r) :
  Calls Try.prog 55 #[.agg #[.int .i64 a0_0, .slice A0_1 l0_1.length c0_1], .agg #[.int .i64 a1_0, .slice A1_1 l1_1.length c1_1]] w fun e w' => e = .returned (.bool r) ∧ Below w.heap.size w w' := by
 have hu27 := Try.underlying27; have HR0_1 := am hr0_1; have HC0_1 := am hc0_1; clear hr0_1 hc0_1; have HR1_1 := am hr1_1; have HC1_1 := am hc1_1; clear hr1_1 hc1_1; have HB := am (Below.refl w.heap.size w); have H : ((impl_MatrixValid.f k a0_0 l0_1).bind fun t166 => (if t166 = true then ((impl_MatrixValid.f k a1_0 l1_1).bind fun t167 => (if t167 = true then (some (a0_0 == a1_0)) else (some false))) else (some false))) = some r := h; clear h; replace H := Option.bind_eq_some_iff.mp H; obtain ⟨t166, A30, H⟩ := H; (try dsimp only at H); have A3 := am A30; clear A30; by_cases c4 : t166 = true
 ·subst c4
  have H1 : ((impl_MatrixValid.f k a1_0 l1_1).bind fun t167 => (if t167 = true then (some (a0_0 == a1_0)) else (some false))) = some r := by rw [if_pos rfl] at H; exact H
  clear H; have H := H1; clear H1; replace H := Option.bind_eq_some_iff.mp H; obtain ⟨t167, A50, H⟩ := H; (try dsimp only at H); have A5 := am A50; clear A50; by_cases c6 : t167 = true
  ·subst c6
   have H1 : (some (a0_0 == a1_0)) = some r := by rw [if_pos rfl] at H; exact H
   clear H; have H := H1; clear H1; obtain rfl := Option.some.inj H; go_enter Try.func55, Try.ntmps55; go_wp2_with (first | ((with_reducible refine gx 2 rfl ?_); refine be (cs := #[.int .i64 a0_0, .slice A0_1 l0_1.length c0_1]) (t := 27) ?_; intro gb164 hg w7 hbox hb; have n0_ := hs HB hb; have n1_ := am (hbox); have n2_ := gs hg (bz HB.out); have n3_ := gs hg (bz HB.out); clear HB; revert n0_ n1_ n2_ n3_; intro HB BK164 GW164 GE164; clear hb hbox hg) | ((with_reducible refine gx 3 rfl ?_); refine be (cs := #[.int .i64 a1_0, .slice A1_1 l1_1.length c1_1]) (t := 27) ?_; intro gb165 hg w8 hbox hb; have n0_ := bk BK164 hb; have n1_ := hs HB hb; have n2_ := am (hbox); have n3_ := gs hg (bw HB.out); have n4_ := gs hg (bw HB.out); have n5_ := nl hg (kz BK164.out); have n6_ := nr hg (kz BK164.out); clear BK164 HB; revert n0_ n1_ n2_ n3_ n4_ n5_ n6_; intro BK164 HB BK165 GW165 GE165 NB164_165 NB165_164; clear hb hbox hg; have hnb9 := NB164_165.out; have hnc9 := NB165_164.out; have hz10 := zf2 BK164.out) | ((with_reducible refine gy 17 rfl ?_); refine gl Try.func17 #[.agg #[.int .i64 a0_0, .slice A0_1 l0_1.length c0_1]] ?_; (with_reducible refine (impl_MatrixValid.calls k a0_0 _ _ l0_1 true _ ?side1 ?side2 A3.out).mono ?_); (case side1 => exact cc (Kd.C_below HR0_1.out HB.out)); (case side2 => exact HC0_1.out); rintro e w11 ⟨rfl, hb⟩; refine ⟨_, rfl, ?_⟩; have n0_ := bk BK164 hb; have n1_ := bk BK165 hb; have n2_ := hs HB hb; clear BK164 BK165 HB; revert n0_ n1_ n2_; intro BK164 BK165 HB; (try clear hb); (try clear hb2); (try clear hk); (try clear hi); have hz12 := zf2 BK165.out) | (go_at_call 17; (with_reducible refine (impl_MatrixValid.calls k a1_0 _ _ l1_1 true _ ?side1 ?side2 A5.out).mono ?_); (case side1 => exact cc (Kd.C_below HR1_1.out HB.out)); (case side2 => exact HC1_1.out); rintro e w13 ⟨rfl, hb⟩; have n0_ := bk BK164 hb; have n1_ := bk BK165 hb; have n2_ := hs HB hb; clear BK164 BK165 HB; revert n0_ n1_ n2_; intro BK164 BK165 HB; (try clear hb); (try clear hb2); (try clear hk); (try clear hi); have hz14 := zf2 BK164.out; have hz15 := zf2 BK165.out)); go_ret; exact ⟨by first | rfl | (simp [errW_none, errW_some] <;> rfl) | (simp [*, errW_none, errW_some] <;> rfl), by exact bw HB.out⟩
  ·replace c6 := Bool.eq_false_iff.mpr c6; subst c6
   have H1 : (some false) = some r := by rw [if_neg (show ¬ (false = true) by decide)] at H; exact H
   clear H; have H := H1; clear H1; obtain rfl := Option.some.inj H; go_enter Try.func55, Try.ntmps55; go_wp2_with (first | ((with_reducible refine gx 2 rfl ?_); refine be (cs := #[.int .i64 a0_0, .slice A0_1 l0_1.length c0_1]) (t := 27) ?_; intro gb164 hg w16 hbox hb; have n0_ := hs HB hb; have n1_ := am (hbox); have n2_ := gs hg (bz HB.out); have n3_ := gs hg (bz HB.out); clear HB; revert n0_ n1_ n2_ n3_; intro HB BK164 GW164 GE164; clear hb hbox hg) | ((with_reducible refine gx 3 rfl ?_); refine be (cs := #[.int .i64 a1_0, .slice A1_1 l1_1.length c1_1]) (t := 27) ?_; intro gb165 hg w17 hbox hb; have n0_ := bk BK164 hb; have n1_ := hs HB hb; have n2_ := am (hbox); have n3_ := gs hg (bw HB.out); have n4_ := gs hg (bw HB.out); have n5_ := nl hg (kz BK164.out); have n6_ := nr hg (kz BK164.out); clear BK164 HB; revert n0_ n1_ n2_ n3_ n4_ n5_ n6_; intro BK164 HB BK165 GW165 GE165 NB164_165 NB165_164; clear hb hbox hg; have hnb18 := NB164_165.out; have hnc18 := NB165_164.out; have hz19 := zf2 BK164.out) | ((with_reducible refine gy 17 rfl ?_); refine gl Try.func17 #[.agg #[.int .i64 a0_0, .slice A0_1 l0_1.length c0_1]] ?_; (with_reducible refine (impl_MatrixValid.calls k a0_0 _ _ l0_1 true _ ?side1 ?side2 A3.out).mono ?_); (case side1 => exact cc (Kd.C_below HR0_1.out HB.out)); (case side2 => exact HC0_1.out); rintro e w20 ⟨rfl, hb⟩; refine ⟨_, rfl, ?_⟩; have n0_ := bk BK164 hb; have n1_ := bk BK165 hb; have n2_ := hs HB hb; clear BK164 BK165 HB; revert n0_ n1_ n2_; intro BK164 BK165 HB; (try clear hb); (try clear hb2); (try clear hk); (try clear hi); have hz21 := zf2 BK165.out) | (go_at_call 17; (with_reducible refine (impl_MatrixValid.calls k a1_0 _ _ l1_1 false _ ?side1 ?side2 A5.out).mono ?_); (case side1 => exact cc (Kd.C_below HR1_1.out HB.out)); (case side2 => exact HC1_1.out); rintro e w22 ⟨rfl, hb⟩; have n0_ := bk BK164 hb; have n1_ := bk BK165 hb; have n2_ := hs HB hb; clear BK164 BK165 HB; revert n0_ n1_ n2_; intro BK164 BK165 HB; (try clear hb); (try clear hb2); (try clear hk); (try clear hi))); go_ret; exact ⟨by first | rfl | (simp [errW_none, errW_some] <;> rfl) | (simp [*, errW_none, errW_some] <;> rfl), by exact bw HB.out⟩
 ·replace c4 := Bool.eq_false_iff.mpr c4; subst c4
  have H1 : (some false) = some r := by rw [if_neg (show ¬ (false = true) by decide)] at H; exact H
  clear H; have H := H1; clear H1; obtain rfl := Option.some.inj H; go_enter Try.func55, Try.ntmps55; go_wp2_with (first | ((with_reducible refine gx 2 rfl ?_); refine be (cs := #[.int .i64 a0_0, .slice A0_1 l0_1.length c0_1]) (t := 27) ?_; intro gb164 hg w23 hbox hb; have n0_ := hs HB hb; have n1_ := am (hbox); have n2_ := gs hg (bz HB.out); have n3_ := gs hg (bz HB.out); clear HB; revert n0_ n1_ n2_ n3_; intro HB BK164 GW164 GE164; clear hb hbox hg) | ((with_reducible refine gx 3 rfl ?_); refine be (cs := #[.int .i64 a1_0, .slice A1_1 l1_1.length c1_1]) (t := 27) ?_; intro gb165 hg w24 hbox hb; have n0_ := bk BK164 hb; have n1_ := hs HB hb; have n2_ := am (hbox); have n3_ := gs hg (bw HB.out); have n4_ := gs hg (bw HB.out); have n5_ := nl hg (kz BK164.out); have n6_ := nr hg (kz BK164.out); clear BK164 HB; revert n0_ n1_ n2_ n3_ n4_ n5_ n6_; intro BK164 HB BK165 GW165 GE165 NB164_165 NB165_164; clear hb hbox hg; have hnb25 := NB164_165.out; have hnc25 := NB165_164.out; have hz26 := zf2 BK164.out) | ((with_reducible refine gy 17 rfl ?_); refine gl Try.func17 #[.agg #[.int .i64 a0_0, .slice A0_1 l0_1.length c0_1]] ?_; (with_reducible refine (impl_MatrixValid.calls k a0_0 _ _ l0_1 false _ ?side1 ?side2 A3.out).mono ?_); (case side1 => exact cc (Kd.C_below HR0_1.out HB.out)); (case side2 => exact HC0_1.out); rintro e w27 ⟨rfl, hb⟩; refine ⟨_, rfl, ?_⟩; have n0_ := bk BK164 hb; have n1_ := bk BK165 hb; have n2_ := hs HB hb; clear BK164 BK165 HB; revert n0_ n1_ n2_; intro BK164 BK165 HB; (try clear hb); (try clear hb2); (try clear hk); (try clear hi))); go_ret; exact ⟨by first | rfl | (simp [errW_none, errW_some] <;> rfl) | (simp [*, errW_none, errW_some] <;> rfl), by exact bw HB.out⟩

/-! ### impl_AddCost: function 59 -/
def impl_AddCost.f (a0 : Int) (a1 : Int) : Option (Int) := (impl_CostValid.f a0).bind fun t168 => (if t168 = true then ((impl_CostValid.f a1).bind fun t169 => (if t169 = true then (some (mn (wrap64 (a0 + a1)) 1000000)) else (some (-1)))) else (some (-1)))
set_option maxHeartbeats 8000000 in
set_option maxRecDepth 100000 in
theorem impl_AddCost.calls (a0 : Int) (a1 : Int) (r : Int) (w : World) (h : impl_AddCost.f a0 a1 = some r) :
  Calls Try.prog 59 #[.int .i64 a0, .int .i64 a1] w fun e w' => e = .returned (.int .i64 r) ∧ Below w.heap.size w w' := by
 have HB := am (Below.refl w.heap.size w); have H : ((impl_CostValid.f a0).bind fun t168 => (if t168 = true then ((impl_CostValid.f a1).bind fun t169 => (if t169 = true then (some (mn (wrap64 (a0 + a1)) 1000000)) else (some (-1)))) else (some (-1)))) = some r := h; clear h; replace H := Option.bind_eq_some_iff.mp H; obtain ⟨t168, A30, H⟩ := H; (try dsimp only at H); have A3 := am A30; clear A30; by_cases c4 : t168 = true
 ·subst c4
  have H1 : ((impl_CostValid.f a1).bind fun t169 => (if t169 = true then (some (mn (wrap64 (a0 + a1)) 1000000)) else (some (-1)))) = some r := by rw [if_pos rfl] at H; exact H
  clear H; have H := H1; clear H1; replace H := Option.bind_eq_some_iff.mp H; obtain ⟨t169, A50, H⟩ := H; (try dsimp only at H); have A5 := am A50; clear A50; by_cases c6 : t169 = true
  ·subst c6
   have H1 : (some (mn (wrap64 (a0 + a1)) 1000000)) = some r := by rw [if_pos rfl] at H; exact H
   clear H; have H := H1; clear H1; obtain ⟨ji7, hji7⟩ : ∃ j_ : Int, (mn (wrap64 (a0 + a1)) 1000000) = j_ := ⟨_, rfl⟩
   replace H : (some ji7) = some r := by first | (rw [hji7] at H; exact H) | (simp only [hji7] at H ⊢; exact H)
   (try rw [hji7] at A3); (try rw [hji7] at A5); (try (have hji7h : ji7 ≤ 1000000 := by (rw [← hji7]; unfold mn; (repeat' split) <;> omega))); (try (have hji7g : ji7 ≤ 64 := by omega)); have hji7_ : (if 1000000 < (wrap64 (a0 + a1)) then 1000000 else (wrap64 (a0 + a1))) = ji7 := hji7; obtain rfl := Option.some.inj H; go_enter Try.func59, Try.ntmps59; go_wp2_with (first | ((with_reducible refine gy 44 rfl ?_); refine gl Try.func44 #[.int .i64 a0] ?_; (with_reducible refine (impl_CostValid.calls a0 true _ A3.out).mono ?_); rintro e w' ⟨rfl, ⟨nd, rfl⟩⟩; refine ⟨_, rfl, ?_⟩) | (go_at_call 44; (with_reducible refine (impl_CostValid.calls a1 true _ A5.out).mono ?_); rintro e w' ⟨rfl, ⟨nd, rfl⟩⟩)); go_ret; exact ⟨by first | rfl | (simp [errW_none, errW_some] <;> rfl) | (simp only [← hji7]; first | rfl | (simp [errW_none, errW_some] <;> rfl)) | (simp [*, errW_none, errW_some] <;> rfl), by exact bz HB.out⟩
  ·replace c6 := Bool.eq_false_iff.mpr c6; subst c6
   have H1 : (some (-1)) = some r := by rw [if_neg (show ¬ (false = true) by decide)] at H; exact H
   clear H; have H := H1; clear H1; obtain rfl := Option.some.inj H; go_enter Try.func59, Try.ntmps59; go_wp2_with (first | ((with_reducible refine gy 44 rfl ?_); refine gl Try.func44 #[.int .i64 a0] ?_; (with_reducible refine (impl_CostValid.calls a0 true _ A3.out).mono ?_); rintro e w' ⟨rfl, ⟨nd, rfl⟩⟩; refine ⟨_, rfl, ?_⟩) | (go_at_call 44; (with_reducible refine (impl_CostValid.calls a1 false _ A5.out).mono ?_); rintro e w' ⟨rfl, ⟨nd, rfl⟩⟩)); go_ret; exact ⟨by first | rfl | (simp [errW_none, errW_some] <;> rfl) | (simp [*, errW_none, errW_some] <;> rfl), by exact bz HB.out⟩
 ·replace c4 := Bool.eq_false_iff.mpr c4; subst c4
  have H1 : (some (-1)) = some r := by rw [if_neg (show ¬ (false = true) by decide)] at H; exact H
  clear H; have H := H1; clear H1; obtain rfl := Option.some.inj H; go_enter Try.func59, Try.ntmps59; go_wp2_with (first | ((with_reducible refine gy 44 rfl ?_); refine gl Try.func44 #[.int .i64 a0] ?_; (with_reducible refine (impl_CostValid.calls a0 false _ A3.out).mono ?_); rintro e w' ⟨rfl, ⟨nd, rfl⟩⟩; refine ⟨_, rfl, ?_⟩)); go_ret; exact ⟨by first | rfl | (simp [errW_none, errW_some] <;> rfl) | (simp [*, errW_none, errW_some] <;> rfl), by exact bz HB.out⟩

/-! ### impl_MulMatrix_1: function 58 -/
def impl_MulMatrix_1.l0 : Nat → Int → Int → Int → Int → Int → Int → List Int → Int → List Int → Option (Int)
 | 0, _, _, _, _, _, _, _, _, _ => none
 | k + 1, x0, x1, x7, x10, x11, x171000, x171001, x172000, x172001 => if x11 < x10 then ((impl_Matrix_at.f x171000 x171001 x0 x11).bind fun t172 => ((impl_Matrix_at.f x172000 x172001 x11 x1).bind fun t173 => ((impl_AddCost.f t172 t173).bind fun t174 => (impl_MulMatrix_1.l0 k x0 x1 (mn x7 t174) x10 (wrap64 (x11 + 1)) x171000 x171001 x172000 x172001)))) else (some x7)
def impl_MulMatrix_1.f (k : Nat) (a0 : Int) (a1 : Int) (a2_0 : Int) (l2_1 : List Int) (a3_0 : Int) (l3_1 : List Int) : Option (Int) := impl_MulMatrix_1.l0 k a0 a1 1000000 a2_0 0 a2_0 l2_1 a3_0 l3_1
theorem impl_MulMatrix_1.mono_l : ∀ k, (∀ y0 y1 y2 y3 y4 y5 y6 y7 y8, LeO (impl_MulMatrix_1.l0 k y0 y1 y2 y3 y4 y5 y6 y7 y8) (impl_MulMatrix_1.l0 (k + 1) y0 y1 y2 y3 y4 y5 y6 y7 y8))
 | 0 => fun _ _ _ _ _ _ _ _ _ r h => by simp [impl_MulMatrix_1.l0] at h
 | k + 1 => by
  have ih0 := impl_MulMatrix_1.mono_l k
  ·intro y0 y1 y2 y3 y4 y5 y6 y7 y8; unfold impl_MulMatrix_1.l0; repeat' first
   | (with_reducible exact ih0 _ _ _ _ _ _ _ _ _)
   | (with_reducible exact LeO.refl _)
   | (with_reducible exact LeO.none _)
   | (with_reducible refine LeO.ite ?_ ?_)
   | (with_reducible refine LeO.bind ?_ (fun _ => ?_))
   | exact ih0 _ _ _ _ _ _ _ _ _
   | exact LeO.none _
   | refine LeO.ite ?_ ?_
   | refine LeO.bind ?_ (fun _ => ?_)
theorem impl_MulMatrix_1.mono : ∀ a0 a1 a2 a3 a4 a5 k, LeO (impl_MulMatrix_1.f k a0 a1 a2 a3 a4 a5) (impl_MulMatrix_1.f (k + 1) a0 a1 a2 a3 a4 a5) := by
 intro a0 a1 a2 a3 a4 a5 k; have ih0 := impl_MulMatrix_1.mono_l k; unfold impl_MulMatrix_1.f; repeat' first
   | (with_reducible exact ih0 _ _ _ _ _ _ _ _ _)
   | (with_reducible exact LeO.refl _)
   | (with_reducible exact LeO.none _)
   | (with_reducible refine LeO.ite ?_ ?_)
   | (with_reducible refine LeO.bind ?_ (fun _ => ?_))
   | exact ih0 _ _ _ _ _ _ _ _ _
   | exact LeO.none _
   | refine LeO.ite ?_ ?_
   | refine LeO.bind ?_ (fun _ => ?_)
def impl_MulMatrix_1.T5 : Bool × List (List Nat × List Nat) := (true, [([], []), ([], []), ([], []), ([], []), ([1, 2, 3], [1, 2, 3]), ([], []), ([], []), ([], []), ([5, 6, 7, 4], [5, 6, 7]), ([4, 8, 8], [4, 8]), ([0, 9], [0, 9]), ([10, 9, 0, 1, 2, 3, 4, 5, 6, 7, 8, 9, 10], [0, 10])])
def impl_MulMatrix_1.B5 : List Nat := [0, 0, 0, 0, 14, 0, 0, 0, 254, 510, 1023, 2047]
theorem impl_MulMatrix_1.tab5 : rtab .any (opsOf Try.f58 5) = impl_MulMatrix_1.T5 := by kernel_rfl
theorem impl_MulMatrix_1.bits5 : waitsOk impl_MulMatrix_1.T5.2 impl_MulMatrix_1.B5 = true := by kernel_rfl
set_option maxHeartbeats 8000000 in
set_option maxRecDepth 100000 in
theorem impl_MulMatrix_1.calls (k : Nat) (a0 : Int) (a1 : Int) (a2_0 : Int) (A2_1 : Option Addr) (c2_1 : Nat) (l2_1 : List Int) (a3_0 : Int) (A3_1 : Option Addr) (c3_1 : Nat) (l3_1 : List Int) (r : Int) (w : World) (hr2_1 : Kd.C (Kd.int .i64) w A2_1 l2_1.length l2_1) (hc2_1 : l2_1.length ≤ c2_1) (hr3_1 : Kd.C (Kd.int .i64) w A3_1 l3_1.length l3_1) (hc3_1 : l3_1.length ≤ c3_1) (h : impl_MulMatrix_1.f k a0 a1 a2_0 l2_1 a3_0 l3_1 = some r) (gb170 : Nat) (hk0_ : w.heap[gb170]? = some (.cells #[.int .i64 a2_0, .slice A2_1 l2_1.length c2_1] 27 (0, 0))) (gb171 : Nat) (hk1_ : w.heap[gb171]? = some (.cells #[.int .i64 a3_0, .slice A3_1 l3_1.length c3_1] 27 (0, 0))) :
  Calls Try.prog 58 #[.int .i64 a0, .int .i64 a1, .pointer (some ⟨gb170, 0, none⟩), .pointer (some ⟨gb171, 0, none⟩)] w fun e w' => e = .returned (.int .i64 r) ∧ Below w.heap.size w w' := by
 have hu27 := Try.underlying27; have HR2_1 := am hr2_1; have HC2_1 := am hc2_1; clear hr2_1 hc2_1; have HR3_1 := am hr3_1; have HC3_1 := am hc3_1; clear hr3_1 hc3_1; have BK170 := am hk0_; clear hk0_; have hcz170_0_ := cz20 BK170.out; have hfz170_0_ := blk_frozen BK170.out 0; have hcz170_1_ := cz21 BK170.out; have hfz170_1_ := blk_frozen BK170.out 1; have BK171 := am hk1_; clear hk1_; have hcz171_0_ := cz20 BK171.out; have hfz171_0_ := blk_frozen BK171.out 0; have hcz171_1_ := cz21 BK171.out; have hfz171_1_ := blk_frozen BK171.out 1; have HB := am (Below.refl w.heap.size w); have H : (impl_MulMatrix_1.l0 k a0 a1 1000000 a2_0 0 a2_0 l2_1 a3_0 l3_1) = some r := h; clear h; have H' := am H; clear H; go_enter Try.func58, Try.ntmps58; go_wp2_with (first | ((with_reducible refine gx 2 rfl ?_); refine be (cs := #[.int .i64 a2_0, .slice A2_1 l2_1.length c2_1]) (t := 27) ?_; intro gb170 hg w hbox hb; have n0_ := hs HB hb; have n1_ := am (hbox); have n2_ := gs hg (bz HB.out); have n3_ := gs hg (bz HB.out); clear HB; revert n0_ n1_ n2_ n3_; intro HB BK170 GW170 GE170; clear hb hbox hg) | ((with_reducible refine gx 3 rfl ?_); refine be (cs := #[.int .i64 a3_0, .slice A3_1 l3_1.length c3_1]) (t := 27) ?_; intro gb171 hg w hbox hb; have n0_ := bk BK170 hb; have n1_ := hs HB hb; have n2_ := am (hbox); have n3_ := gs hg (bw HB.out); have n4_ := gs hg (bw HB.out); have n5_ := nl hg (kz BK170.out); have n6_ := nr hg (kz BK170.out); clear BK170 HB; revert n0_ n1_ n2_ n3_ n4_ n5_ n6_; intro BK170 HB BK171 GW171 GE171 NB170_171 NB171_170; clear hb hbox hg; have hz8 := zf2 BK170.out)); go_loopg [7, 11] k (fun kq v7 v11 w' => ∃ (x7_1 : Int) (x11_1 : Int), v7 = .int .i64 x7_1 ∧ v11 = .int .i64 x11_1 ∧ Aside0 (impl_MulMatrix_1.l0 kq a0 a1 x7_1 a2_0 x11_1 a2_0 l2_1 a3_0 l3_1 = some r) ∧ Aside0 (kq ≤ k) ∧ Aside0 (w'.heap[gb170]? = some (.cells #[.int .i64 a2_0, (.slice A2_1 l2_1.length c2_1)] 27 (0, 0))) ∧ Aside0 (w'.heap[gb171]? = some (.cells #[.int .i64 a3_0, (.slice A3_1 l3_1.length c3_1)] 27 (0, 0))) ∧ Aside0 (Below w.heap.size w w'))
 case atStart => exact ⟨(1000000), (0), (by first | rfl | (simp; done) | (simp [*]; done)), (by first | rfl | (simp; done) | (simp [*]; done)), H', ⟨Nat.le_refl _⟩, ⟨kz BK170.out⟩, ⟨kz BK171.out⟩, ⟨by exact bw HB.out⟩⟩
 case round =>
  clear H'; (try clear c2); (try clear p2); (try clear c3); (try clear c5); (try clear c7); obtain ⟨x7_1, x11_1, rfl, rfl, HA, HK1, BK170, BK171, HB⟩ := hrel
  cases gk with
  | zero => exact absurd HA.out (by simp [impl_MulMatrix_1.l0])
  | succ k1 =>
   have H := HA.out; clear HA; simp only [impl_MulMatrix_1.l0] at H; by_cases c9 : x11_1 < a2_0
   ·rw [if_pos c9] at H; have c9b0 : decide (x11_1 < a2_0) = true := decide_eq_true c9; clear c9; replace H := Option.bind_eq_some_iff.mp H; obtain ⟨t172, A100, H⟩ := H; (try dsimp only at H); have A10 := am A100; clear A100; replace H := Option.bind_eq_some_iff.mp H; obtain ⟨t173, A110, H⟩ := H; (try dsimp only at H); have A11 := am A110; clear A110; replace H := Option.bind_eq_some_iff.mp H; obtain ⟨t174, A120, H⟩ := H; (try dsimp only at H); have A12 := am A120; clear A120; obtain ⟨ji13, hji13⟩ : ∃ j_ : Int, (mn x7_1 t174) = j_ := ⟨_, rfl⟩
    replace H : (impl_MulMatrix_1.l0 k1 a0 a1 ji13 a2_0 (wrap64 (x11_1 + 1)) a2_0 l2_1 a3_0 l3_1) = some r := by first | (rw [hji13] at H; exact H) | (simp only [hji13] at H ⊢; exact H)
    (try rw [hji13] at A10); (try rw [hji13] at A11); (try rw [hji13] at A12); have hji13_ : (if t174 < x7_1 then t174 else x7_1) = ji13 := hji13; have H' := am H; clear H; (try go_wp2); have n0_ := am (blk_drew BK170.out); have n1_ := am (blk_drew BK171.out); have n2_ := am (below_drew1 HB.out); clear BK170 BK171 HB; revert n0_ n1_ n2_; intro BK170 BK171 HB; refine start_ (n := 12) (S := fun w' => w'.cell? ⟨gb170, 0, none⟩ = some (.int .i64 a2_0) ∧ w'.cell? ⟨gb170, 1, none⟩ = some (.slice A2_1 l2_1.length c2_1) ∧ w'.cell? ⟨gb171, 0, none⟩ = some (.int .i64 a3_0) ∧ w'.cell? ⟨gb171, 1, none⟩ = some (.slice A3_1 l3_1.length c3_1)) (ds := []) (mkp 12 0) (by kernel_rfl) rfl rfl ⟨bl BK170.out 0, bl BK170.out 1, bl BK171.out 0, bl BK171.out 1⟩ (fun hHeld => ?_); refine with_tabW impl_MulMatrix_1.tab5 impl_MulMatrix_1.bits5 (fun HT_ HW_ => ?_); generalize wr.drew = w14 at BK170 BK171 HB hHeld ⊢; refine qv HT_ ?_; refine pv 2 16 12 5 HT_ ?_; refine pv 3 17 12 13 HT_ ?_; refine pv 6 20 12 77 HT_ ?_; refine pv 7 21 12 205 HT_ ?_; refine tkm 1 15 (mk 12 207) HT_ HW_ hHeld ?_; refine tkm 5 19 (mk 12 239) HT_ HW_ hHeld ?_; refine on 4 (mkp 12 8) HT_ (fun K hK => ?_); refine gr Try.func52 #[.agg #[.int .i64 a2_0, .slice A2_1 l2_1.length c2_1], .int .i64 a0, .int .i64 x11_1] ?_
    with_reducible refine (impl_Matrix_at.calls a2_0 _ _ l2_1 a0 x11_1 t172 _ ?side1 ?side2 A10.out).mono ?_
    (case side1 => exact cc (Kd.C_below HR2_1.out HB.out)); (case side2 => exact HC2_1.out); rintro e w15 ⟨rfl, hb⟩; refine ⟨_, rfl, ?_⟩; have n0_ := bk BK170 hb; have n1_ := bk BK171 hb; have n2_ := hs HB hb; clear BK170 BK171 HB; revert n0_ n1_ n2_; intro BK170 BK171 HB; (try clear hb); (try clear hb2); (try clear hk); (try clear hi); refine hK.out _ _ ⟨bl BK170.out 0, bl BK170.out 1, bl BK171.out 0, bl BK171.out 1⟩ (fun hHeld => ?_); clear hK K; refine norm_ (a' := ?_) ?_ ?_; rotate_left
    ·show Act.put _ (some 18) _ = _; simp only [Act.put, List.setIfInBounds_toArray, List.set_cons_zero, List.set_cons_succ, i64_w, i32_w]; rfl
    refine on 8 (mkp 12 9) HT_ (fun K hK => ?_); refine gr Try.func52 #[.agg #[.int .i64 a3_0, .slice A3_1 l3_1.length c3_1], .int .i64 x11_1, .int .i64 a1] ?_
    with_reducible refine (impl_Matrix_at.calls a3_0 _ _ l3_1 x11_1 a1 t173 _ ?side1 ?side2 A11.out).mono ?_
    (case side1 => exact cc (Kd.C_below HR3_1.out HB.out)); (case side2 => exact HC3_1.out); rintro e w16 ⟨rfl, hb⟩; refine ⟨_, rfl, ?_⟩; have n0_ := bk BK170 hb; have n1_ := bk BK171 hb; have n2_ := hs HB hb; clear BK170 BK171 HB; revert n0_ n1_ n2_; intro BK170 BK171 HB; (try clear hb); (try clear hb2); (try clear hk); (try clear hi); refine hK.out _ _ ⟨bl BK170.out 0, bl BK170.out 1, bl BK171.out 0, bl BK171.out 1⟩ (fun hHeld => ?_); clear hK K; refine norm_ (a' := ?_) ?_ ?_; rotate_left
    ·show Act.put _ (some 22) _ = _; simp only [Act.put, List.setIfInBounds_toArray, List.set_cons_zero, List.set_cons_succ, i64_w, i32_w]; rfl
    refine on 9 (mkp 12 10) HT_ (fun K hK => ?_); refine gr Try.func59 #[.int .i64 t172, .int .i64 t173] ?_
    with_reducible refine (impl_AddCost.calls t172 t173 t174 _ A12.out).mono ?_
    rintro e w17 ⟨rfl, hb⟩; refine ⟨_, rfl, ?_⟩; have n0_ := bk BK170 hb; have n1_ := bk BK171 hb; have n2_ := hs HB hb; clear BK170 BK171 HB; revert n0_ n1_ n2_; intro BK170 BK171 HB; (try clear hb); (try clear hb2); (try clear hk); (try clear hi); refine hK.out _ _ ⟨bl BK170.out 0, bl BK170.out 1, bl BK171.out 0, bl BK171.out 1⟩ (fun hHeld => ?_); clear hK K; refine norm_ (a' := ?_) ?_ ?_; rotate_left
    ·show Act.put _ (some 23) _ = _; simp only [Act.put, List.setIfInBounds_toArray, List.set_cons_zero, List.set_cons_succ, i64_w, i32_w]; rfl
    (iterate 2 refine qv HT_ ?_); refine done_ (done_of HT_.out (by kernel_rfl)) ?_; (try go_wp2); go_roundg k1
    case measure => have := HK1.out; omega
    case rel => exact ⟨(ji13), (wrap64 (x11_1 + 1)), (by first | rfl | (simp; done) | (simp only [← hji13] <;> (first | rfl | simp)) | (simp [*]; done)), (by first | rfl | (simp; done) | (simp [*]; done)), H', ⟨by have := HK1.out; omega⟩, ⟨kz BK170.out⟩, ⟨kz BK171.out⟩, ⟨by exact bw HB.out⟩⟩
   ·rw [if_neg c9] at H; have c9b0 : decide (x11_1 < a2_0) = false := decide_eq_false c9; clear c9; obtain rfl := Option.some.inj H; go_wp2; go_ret; exact ⟨by first | rfl | (simp [errW_none, errW_some] <;> rfl) | (simp [*, errW_none, errW_some] <;> rfl), by exact bw HB.out⟩

/-! ### impl_filled_at_impl_MulMatrix_1: function 200004 -/
mutual
def impl_filled_at_impl_MulMatrix_1.l0 : Nat → Int → Int → Int → Int → List Int → Int → List Int → Int → List Int → Option (Int × List Int)
 | 0, _, _, _, _, _, _, _, _, _ => none
 | k + 1, x0, x10, x11, x176000, x176001, x177000, x177001, x179000, x179001 => if x11 < x10 then (impl_filled_at_impl_MulMatrix_1.l1 k x0 x11 x10 x11 x0 0 x176000 x176001 x177000 x177001 x179000 x179001) else (some (x179000, x179001))
def impl_filled_at_impl_MulMatrix_1.l1 : Nat → Int → Int → Int → Int → Int → Int → Int → List Int → Int → List Int → Int → List Int → Option (Int × List Int)
 | 0, _, _, _, _, _, _, _, _, _, _, _, _ => none
 | k + 1, x0, x6, x10, x11, x14, x15, x176000, x176001, x177000, x177001, x179000, x179001 => if x15 < x14 then ((impl_MulMatrix_1.f k x6 x15 x176000 x176001 x177000 x177001).bind fun t179 => (if x179001.length < 17592186044416 then (impl_filled_at_impl_MulMatrix_1.l1 k x0 x6 x10 x11 x14 (wrap64 (x15 + 1)) x176000 x176001 x177000 x177001 x179000 (x179001 ++ [t179])) else (none))) else (impl_filled_at_impl_MulMatrix_1.l0 k x0 x10 (wrap64 (x11 + 1)) x176000 x176001 x177000 x177001 x179000 x179001)
end
def impl_filled_at_impl_MulMatrix_1.f (k : Nat) (a0 : Int) (a1_0 : Int) (l1_1 : List Int) (a2_0 : Int) (l2_1 : List Int) : Option (Int × List Int) := impl_filled_at_impl_MulMatrix_1.l0 k a0 a0 0 a1_0 l1_1 a2_0 l2_1 a0 ([] : List Int)
theorem impl_filled_at_impl_MulMatrix_1.mono_l : ∀ k, (∀ y0 y1 y2 y3 y4 y5 y6 y7 y8, LeO (impl_filled_at_impl_MulMatrix_1.l0 k y0 y1 y2 y3 y4 y5 y6 y7 y8) (impl_filled_at_impl_MulMatrix_1.l0 (k + 1) y0 y1 y2 y3 y4 y5 y6 y7 y8)) ∧ (∀ y0 y1 y2 y3 y4 y5 y6 y7 y8 y9 y10 y11, LeO (impl_filled_at_impl_MulMatrix_1.l1 k y0 y1 y2 y3 y4 y5 y6 y7 y8 y9 y10 y11) (impl_filled_at_impl_MulMatrix_1.l1 (k + 1) y0 y1 y2 y3 y4 y5 y6 y7 y8 y9 y10 y11))
 | 0 => ⟨fun _ _ _ _ _ _ _ _ _ r h => by simp [impl_filled_at_impl_MulMatrix_1.l0] at h, fun _ _ _ _ _ _ _ _ _ _ _ _ r h => by simp [impl_filled_at_impl_MulMatrix_1.l1] at h⟩
 | k + 1 => by
  obtain ⟨ih0, ih1⟩ := impl_filled_at_impl_MulMatrix_1.mono_l k; refine ⟨?_, ?_⟩
  ·intro y0 y1 y2 y3 y4 y5 y6 y7 y8; unfold impl_filled_at_impl_MulMatrix_1.l0; repeat' first
   | (with_reducible exact ih0 _ _ _ _ _ _ _ _ _)
   | (with_reducible exact ih1 _ _ _ _ _ _ _ _ _ _ _ _)
   | (with_reducible exact impl_MulMatrix_1.mono _ _ _ _ _ _ _)
   | (with_reducible exact LeO.refl _)
   | (with_reducible exact LeO.none _)
   | (with_reducible refine LeO.ite ?_ ?_)
   | (with_reducible refine LeO.bind ?_ (fun _ => ?_))
   | exact ih0 _ _ _ _ _ _ _ _ _
   | exact ih1 _ _ _ _ _ _ _ _ _ _ _ _
   | exact impl_MulMatrix_1.mono _ _ _ _ _ _ _
   | exact LeO.none _
   | refine LeO.ite ?_ ?_
   | refine LeO.bind ?_ (fun _ => ?_)
  ·intro y0 y1 y2 y3 y4 y5 y6 y7 y8 y9 y10 y11; unfold impl_filled_at_impl_MulMatrix_1.l1; repeat' first
   | (with_reducible exact ih0 _ _ _ _ _ _ _ _ _)
   | (with_reducible exact ih1 _ _ _ _ _ _ _ _ _ _ _ _)
   | (with_reducible exact impl_MulMatrix_1.mono _ _ _ _ _ _ _)
   | (with_reducible exact LeO.refl _)
   | (with_reducible exact LeO.none _)
   | (with_reducible refine LeO.ite ?_ ?_)
   | (with_reducible refine LeO.bind ?_ (fun _ => ?_))
   | exact ih0 _ _ _ _ _ _ _ _ _
   | exact ih1 _ _ _ _ _ _ _ _ _ _ _ _
   | exact impl_MulMatrix_1.mono _ _ _ _ _ _ _
   | exact LeO.none _
   | refine LeO.ite ?_ ?_
   | refine LeO.bind ?_ (fun _ => ?_)
theorem impl_filled_at_impl_MulMatrix_1.mono : ∀ a0 a1 a2 a3 a4 k, LeO (impl_filled_at_impl_MulMatrix_1.f k a0 a1 a2 a3 a4) (impl_filled_at_impl_MulMatrix_1.f (k + 1) a0 a1 a2 a3 a4) := by
 intro a0 a1 a2 a3 a4 k; obtain ⟨ih0, ih1⟩ := impl_filled_at_impl_MulMatrix_1.mono_l k; unfold impl_filled_at_impl_MulMatrix_1.f; repeat' first
   | (with_reducible exact ih0 _ _ _ _ _ _ _ _ _)
   | (with_reducible exact ih1 _ _ _ _ _ _ _ _ _ _ _ _)
   | (with_reducible exact impl_MulMatrix_1.mono _ _ _ _ _ _ _)
   | (with_reducible exact LeO.refl _)
   | (with_reducible exact LeO.none _)
   | (with_reducible refine LeO.ite ?_ ?_)
   | (with_reducible refine LeO.bind ?_ (fun _ => ?_))
   | exact ih0 _ _ _ _ _ _ _ _ _
   | exact ih1 _ _ _ _ _ _ _ _ _ _ _ _
   | exact impl_MulMatrix_1.mono _ _ _ _ _ _ _
   | exact LeO.none _
   | refine LeO.ite ?_ ?_
   | refine LeO.bind ?_ (fun _ => ?_)
def impl_filled_at_impl_MulMatrix_1.T8 : Bool × List (List Nat × List Nat) := (true, [([], []), ([0], [0]), ([], []), ([], []), ([], []), ([2, 3, 4], [2, 3, 4]), ([5], [5]), ([1, 6, 5], [1, 6]), ([0, 1, 2, 3, 4, 5, 6, 7], []), ([8, 7, 7, 0, 1, 2, 3, 4, 5, 6, 7], [7, 8])])
def impl_filled_at_impl_MulMatrix_1.B8 : List Nat := [0, 1, 0, 0, 0, 28, 60, 127, 255, 511]
theorem impl_filled_at_impl_MulMatrix_1.tab8 : rtab .any (opsOf Try.f47 8) = impl_filled_at_impl_MulMatrix_1.T8 := by kernel_rfl
theorem impl_filled_at_impl_MulMatrix_1.bits8 : waitsOk impl_filled_at_impl_MulMatrix_1.T8.2 impl_filled_at_impl_MulMatrix_1.B8 = true := by kernel_rfl
set_option maxHeartbeats 8000000 in
set_option maxRecDepth 100000 in
theorem impl_filled_at_impl_MulMatrix_1.calls (k : Nat) (a0 : Int) (a1_0 : Int) (A1_1 : Option Addr) (c1_1 : Nat) (l1_1 : List Int) (a2_0 : Int) (A2_1 : Option Addr) (c2_1 : Nat) (l2_1 : List Int) (r1 : Int) (r2 : List Int) (w : World) (hr1_1 : Kd.C (Kd.int .i64) w A1_1 l1_1.length l1_1) (hc1_1 : l1_1.length ≤ c1_1) (hr2_1 : Kd.C (Kd.int .i64) w A2_1 l2_1.length l2_1) (hc2_1 : l2_1.length ≤ c2_1) (h : impl_filled_at_impl_MulMatrix_1.f k a0 a1_0 l1_1 a2_0 l2_1 = some (r1, r2)) (gb175 : Nat) (hk0_ : w.heap[gb175]? = some (.cells #[.int .i64 a1_0, .slice A1_1 l1_1.length c1_1] 27 (0, 0))) (gb176 : Nat) (hk1_ : w.heap[gb176]? = some (.cells #[.int .i64 a2_0, .slice A2_1 l2_1.length c2_1] 27 (0, 0))) :
  Calls Try.prog 47 #[.int .i64 a0, .func (.func 58) #[] #[.pointer (some ⟨gb175, 0, none⟩), .pointer (some ⟨gb176, 0, none⟩)]] w fun e w' => ∃ v1_ : Value, e = .returned (.agg #[.int .i64 r1, v1_]) ∧ Kd.R (Kd.int .i64) 3 w' w.heap.size (fun _ => True) v1_ r2 ∧ Below w.heap.size w w' := by
 have hu27 := Try.underlying27; have HR1_1 := am hr1_1; have HC1_1 := am hc1_1; clear hr1_1 hc1_1; have HR2_1 := am hr2_1; have HC2_1 := am hc2_1; clear hr2_1 hc2_1; have BK175 := am hk0_; clear hk0_; have hcz175_0_ := cz20 BK175.out; have hfz175_0_ := blk_frozen BK175.out 0; have hcz175_1_ := cz21 BK175.out; have hfz175_1_ := blk_frozen BK175.out 1; have BK176 := am hk1_; clear hk1_; have hcz176_0_ := cz20 BK176.out; have hfz176_0_ := blk_frozen BK176.out 0; have hcz176_1_ := cz21 BK176.out; have hfz176_1_ := blk_frozen BK176.out 1; have HB := am (Below.refl w.heap.size w); have H : (impl_filled_at_impl_MulMatrix_1.l0 k a0 a0 0 a1_0 l1_1 a2_0 l2_1 a0 ([] : List Int)) = some (r1, r2) := h; clear h; have H' := am H; clear H; go_enter Try.func47, Try.ntmps47; go_wp2_with (first | ((with_reducible refine gx 1 rfl ?_); refine be (cs := #[.int .i64 a1_0, .slice A1_1 l1_1.length c1_1]) (t := 27) ?_; intro gb175 hg w hbox hb; have n0_ := hs HB hb; have n1_ := am (hbox); have n2_ := gs hg (bz HB.out); have n3_ := gs hg (bz HB.out); clear HB; revert n0_ n1_ n2_ n3_; intro HB BK175 GW175 GE175; clear hb hbox hg) | ((with_reducible refine gx 2 rfl ?_); refine be (cs := #[.int .i64 a2_0, .slice A2_1 l2_1.length c2_1]) (t := 27) ?_; intro gb176 hg w hbox hb; have n0_ := bk BK175 hb; have n1_ := hs HB hb; have n2_ := am (hbox); have n3_ := gs hg (bw HB.out); have n4_ := gs hg (bw HB.out); have n5_ := nl hg (kz BK175.out); have n6_ := nr hg (kz BK175.out); clear BK175 HB; revert n0_ n1_ n2_ n3_ n4_ n5_ n6_; intro BK175 HB BK176 GW176 GE176 NB175_176 NB176_175; clear hb hbox hg) | ((with_reducible refine gx 4 rfl ?_); refine be (cs := #[.int .i64 0, .slice none 0 0]) (t := 27) ?_; intro gb177 hg w6 hbox hb; have n0_ := bk BK175 hb; have n1_ := bk BK176 hb; have n2_ := hs HB hb; have n3_ := am (hbox); have n4_ := gs hg (bw HB.out); have n5_ := gs hg (bw HB.out); have n6_ := nl hg (kz BK175.out); have n7_ := nr hg (kz BK175.out); have n8_ := nl hg (kz BK176.out); have n9_ := nr hg (kz BK176.out); clear BK175 BK176 HB; revert n0_ n1_ n2_ n3_ n4_ n5_ n6_ n7_ n8_ n9_; intro BK175 BK176 HB BK177 GW177 GE177 NB175_177 NB177_175 NB176_177 NB177_176; clear hb hbox hg) | ((with_reducible refine gx 5 rfl ?_); refine be (cs := #[.int .i64 0, .slice none 0 0]) (t := 27) ?_; intro gb178 hg w7 hbox hb; have n0_ := bk BK175 hb; have n1_ := bk BK176 hb; have n2_ := bk BK177 hb; have n3_ := hs HB hb; have n4_ := am (hbox); have n5_ := gs hg (bw HB.out); have n6_ := gs hg (bw HB.out); have n7_ := nl hg (kz BK175.out); have n8_ := nr hg (kz BK175.out); have n9_ := nl hg (kz BK176.out); have n10_ := nr hg (kz BK176.out); have n11_ := nl hg (kz BK177.out); have n12_ := nr hg (kz BK177.out); clear BK175 BK176 BK177 HB; revert n0_ n1_ n2_ n3_ n4_ n5_ n6_ n7_ n8_ n9_ n10_ n11_ n12_; intro BK175 BK176 BK177 HB BK178 GW178 GE178 NB175_178 NB178_175 NB176_178 NB178_176 NB177_178 NB178_177; clear hb hbox hg; have hnb8 := NB178_175.out; have hnc8 := NB175_178.out; have hnb9 := NB178_176.out; have hnc9 := NB176_178.out; have hnb10 := NB178_177.out; have hnc10 := NB177_178.out; have hz11 := zf2 BK178.out)); go_loopg [11] k (fun kq v11 w' => ∃ (x11_1 : Int) (x179001_1 : List Int) (u179001 : Value), v11 = .int .i64 x11_1 ∧ Aside0 (impl_filled_at_impl_MulMatrix_1.l0 kq a0 a0 x11_1 a1_0 l1_1 a2_0 l2_1 a0 x179001_1 = some (r1, r2)) ∧ Aside0 (kq ≤ k) ∧ Aside0 (Kd.R (Kd.int .i64) 3 w' w.heap.size (fun _ => True) u179001 x179001_1) ∧ Aside0 (w'.heap[gb175]? = some (.cells #[.int .i64 a1_0, (.slice A1_1 l1_1.length c1_1)] 27 (0, 0))) ∧ Aside0 (w'.heap[gb176]? = some (.cells #[.int .i64 a2_0, (.slice A2_1 l2_1.length c2_1)] 27 (0, 0))) ∧ Aside0 (w'.heap[gb177]? = some (.cells #[.int .i64 0, (.slice none 0 0)] 27 (0, 0))) ∧ Aside0 (w'.heap[gb178]? = some (.cells #[.int .i64 a0, u179001] 27 (0, 0))) ∧ Aside0 (Below w.heap.size w w'))
 case atStart => exact ⟨(0), (([] : List Int)), (.slice none 0 0), (by first | rfl | (simp; done) | (simp [*]; done)), H', ⟨Nat.le_refl _⟩, ⟨by first | exact Kd.R_nil _ _ _ _ _ | exact Kd.N_nil _ _ _ _ _ | exact Kd.V_nil _ _ _ _ _ | exact Kd.Q_nil _ _ _ _ _ | exact Kd.S_nil _ _ _ _ _⟩, ⟨kp BK175.out⟩, ⟨kp BK176.out⟩, ⟨kp BK177.out⟩, ⟨kp BK178.out⟩, ⟨by exact bw HB.out⟩⟩
 case round =>
  clear H'; (try clear c1); (try clear c2); (try clear p2); (try clear c8); (try clear c9); (try clear c10); obtain ⟨x11_1, x179001_1, u179001, rfl, HA, HK1, HO_179001, BK175, BK176, BK177, BK178, HB⟩ := hrel
  cases gk with
  | zero => exact absurd HA.out (by simp [impl_filled_at_impl_MulMatrix_1.l0])
  | succ k1 =>
   have H := HA.out; clear HA; simp only [impl_filled_at_impl_MulMatrix_1.l0] at H; by_cases c12 : x11_1 < a0
   ·rw [if_pos c12] at H; have c12b0 : decide (x11_1 < a0) = true := decide_eq_true c12; clear c12; have H' := am H; clear H; go_wp2; go_loopg [15] k1 (fun kq v15 w' => ∃ (x15_2 : Int) (x179001_2 : List Int) (u179001 : Value), v15 = .int .i64 x15_2 ∧ Aside0 (impl_filled_at_impl_MulMatrix_1.l1 kq a0 x11_1 a0 x11_1 a0 x15_2 a1_0 l1_1 a2_0 l2_1 a0 x179001_2 = some (r1, r2)) ∧ Aside0 (kq ≤ k1) ∧ Aside0 (Kd.R (Kd.int .i64) 3 w' w.heap.size (fun _ => True) u179001 x179001_2) ∧ Aside0 (w'.heap[gb175]? = some (.cells #[.int .i64 a1_0, (.slice A1_1 l1_1.length c1_1)] 27 (0, 0))) ∧ Aside0 (w'.heap[gb176]? = some (.cells #[.int .i64 a2_0, (.slice A2_1 l2_1.length c2_1)] 27 (0, 0))) ∧ Aside0 (w'.heap[gb177]? = some (.cells #[.int .i64 0, (.slice none 0 0)] 27 (0, 0))) ∧ Aside0 (w'.heap[gb178]? = some (.cells #[.int .i64 a0, u179001] 27 (0, 0))) ∧ Aside0 (Below w.heap.size w w'))
    case atStart => exact ⟨(0), (x179001_1), (u179001), (by first | rfl | (simp; done) | (simp [*]; done)), H', ⟨Nat.le_refl _⟩, ⟨rz HO_179001.out⟩, ⟨kz BK175.out⟩, ⟨kz BK176.out⟩, ⟨kz BK177.out⟩, ⟨kz BK178.out⟩, ⟨by exact bw HB.out⟩⟩
    case round =>
     clear H'; (try clear c1); (try clear c2); (try clear p2); (try clear c8); (try clear c9); (try clear c10); (try clear c12); (try clear c12b0); (try clear p2); obtain ⟨x15_2, x179001_2, u179001, rfl, HA, HK2, HO_179001, BK175, BK176, BK177, BK178, HB⟩ := hrel
     cases gk with
     | zero => exact absurd HA.out (by simp [impl_filled_at_impl_MulMatrix_1.l1])
     | succ k2 =>
      have H := HA.out; clear HA; simp only [impl_filled_at_impl_MulMatrix_1.l1] at H; by_cases c13 : x15_2 < a0
      ·rw [if_pos c13] at H; have c13b0 : decide (x15_2 < a0) = true := decide_eq_true c13; clear c13; replace H := Option.bind_eq_some_iff.mp H; obtain ⟨t179, A140, H⟩ := H; (try dsimp only at H); have A14 := am A140; clear A140; by_cases c15 : x179001_2.length < 17592186044416
       ·rw [if_pos c15] at H; have LMc15 := am c15; clear c15; obtain ⟨y180, hy180⟩ : ∃ y_ : List Int, y_ = (x179001_2 ++ [t179]) := ⟨_, rfl⟩
        replace H : (impl_filled_at_impl_MulMatrix_1.l1 k2 a0 x11_1 a0 x11_1 a0 (wrap64 (x15_2 + 1)) a1_0 l1_1 a2_0 l2_1 a0 y180) = some (r1, r2) := by first | (rw [hy180]; with_reducible exact H) | (have H2_ := (Option.bind_some _ _).symm.trans H; rw [hy180]; with_reducible exact H2_) | (have H2_ := (Option.bind_some _ _).symm.trans H; with_reducible exact H2_) | with_reducible exact H | (rw [hy180]; exact H) | exact H
        have Ny180 := am hy180; clear hy180; have H' := am H; clear H; (try go_wp2); have n0_ := am (Kd.R_drew HO_179001.out); have n1_ := am (blk_drew BK175.out); have n2_ := am (blk_drew BK176.out); have n3_ := am (blk_drew BK177.out); have n4_ := am (blk_drew BK178.out); have n5_ := am (below_drew1 HB.out); clear HO_179001 BK175 BK176 BK177 BK178 HB; revert n0_ n1_ n2_ n3_ n4_ n5_; intro HO_179001 BK175 BK176 BK177 BK178 HB; refine start_ (n := 10) (S := fun w' => w'.cell? ⟨gb178, 0, none⟩ = some (.int .i64 a0) ∧ w'.cell? ⟨gb178, 1, none⟩ = some (u179001)) (ds := [9]) (mkp 10 0) (by kernel_rfl) rfl rfl ⟨bl BK178.out 0, bl BK178.out 1⟩ (fun hHeld => ?_); refine with_tabW impl_filled_at_impl_MulMatrix_1.tab8 impl_filled_at_impl_MulMatrix_1.bits8 (fun HT_ HW_ => ?_); generalize wr.drew = w16 at HO_179001 BK175 BK176 BK177 BK178 HB hHeld ⊢; refine qv HT_ ?_; refine pv 2 20 10 5 HT_ ?_; refine pv 3 21 10 13 HT_ ?_; refine pv 4 22 10 29 HT_ ?_; refine tkm 1 19 (mkp 10 5) HT_ HW_ hHeld ?_; refine on 5 (mkp 10 6) HT_ (fun K hK => ?_); refine goesV Try.func58 (by kernel_rfl) rfl #[.int .i64 x11_1, .int .i64 x15_2] #[.pointer (some ⟨gb175, 0, none⟩), .pointer (some ⟨gb176, 0, none⟩)] #[.int .i64 x11_1, .int .i64 x15_2, .pointer (some ⟨gb175, 0, none⟩), .pointer (some ⟨gb176, 0, none⟩)] (by rfl) rfl rfl rfl (by (try simp only [List.map_toArray, List.map_cons, List.map_nil]); first | done | rfl | (simp only [List.length_drop, List.length_take]; rfl)) rfl ?_
        with_reducible refine (impl_MulMatrix_1.calls k2 x11_1 x15_2 a1_0 _ _ l1_1 a2_0 _ _ l2_1 t179 _ ?side1 ?side2 ?side3 ?side4 A14.out gb175 (kz BK175.out) gb176 (kz BK176.out)).mono ?_
        (case side1 => exact cc (Kd.C_below HR1_1.out HB.out)); (case side2 => exact HC1_1.out); (case side3 => exact cc (Kd.C_below HR2_1.out HB.out)); (case side4 => exact HC2_1.out); rintro e w17 ⟨rfl, hb⟩; refine ⟨_, rfl, ?_⟩; have n0_ := rb HO_179001 hb; have n1_ := bk BK175 hb; have n2_ := bk BK176 hb; have n3_ := bk BK177 hb; have n4_ := bk BK178 hb; have n5_ := hs HB hb; clear HO_179001 BK175 BK176 BK177 BK178 HB; revert n0_ n1_ n2_ n3_ n4_ n5_; intro HO_179001 BK175 BK176 BK177 BK178 HB; (try clear hb); (try clear hb2); (try clear hk); (try clear hi); refine hK.out _ _ ⟨bl BK178.out 0, bl BK178.out 1⟩ (fun hHeld => ?_); clear hK K; refine norm_ (a' := ?_) ?_ ?_; rotate_left
        ·show Act.put _ (some 23) _ = _; simp only [Act.put, List.setIfInBounds_toArray, List.set_cons_zero, List.set_cons_succ, i64_w, i32_w]; rfl
        refine on 6 (mkp 10 7) HT_ (fun K hK => ?_); refine value_ (w1 := ?_) (v := ?_) (by rfl) rfl ?_ ?_; rotate_left 2
        ·go_simp; constructor
         ·rfl
         ·rfl
        refine hK.out _ _ ⟨(blk_cell (blk_alloc BK178.out _) 0).trans rfl, (blk_cell (blk_alloc BK178.out _) 1).trans rfl⟩ (fun hHeld => ?_); clear hK K; refine norm_ (a' := ?_) ?_ ?_; rotate_left
        ·show Act.put _ (some 24) _ = _; simp only [Act.put, List.setIfInBounds_toArray, List.set_cons_zero, List.set_cons_succ, i64_w, i32_w]; rfl
        refine on 7 (mkp 10 8) HT_ (fun K hK => ?_); refine Kd.R_append_step (Kd.int .i64) (w0 := w) w.heap.size (by rfl) (.tmp 19) (.tmp 24) 22 3 (.int .i64 0) 8 rfl Try.underlying22 info3 rfl (by decide) (by omega) u179001 x179001_2 t179 [.int .i64 t179] (fun _ => True) (fun _ => False) rfl rfl ?aP (fun _ hk => hk.elim) ?aF ?aO ?aB ?aS ?aL ?_; (case aP => exact rfl); (case aB => exact (bw HB.out)); (case aF => exact (fun _ _ => trivial)); (case aO => exact (rz HO_179001.out)); (case aS => exact (below_size (bw HB.out))); (case aL => have := LMc15.out; omega); intro v181 w18 ho hb hg hat; rw [← Ny180.out] at ho; have n0_ := am (blk_grown (kz BK175.out) hg (Kd.R_ne HO_179001.out BK175.out (by decide))); have n1_ := am (blk_grown (kz BK176.out) hg (Kd.R_ne HO_179001.out BK176.out (by decide))); have n2_ := am (blk_grown (kz BK177.out) hg (Kd.R_ne HO_179001.out BK177.out (by decide))); have n3_ := am (blk_grown (kz BK178.out) hg (Kd.R_ne HO_179001.out BK178.out (by decide))); have n4_ := am (hb); have n5_ := am (ho); clear BK175 BK176 BK177 BK178 HB HO_179001; revert n0_ n1_ n2_ n3_ n4_ n5_; intro BK175 BK176 BK177 BK178 HB HO182; clear ho hb hg hat; obtain ⟨Ao19, co19, eo19⟩ := Kd.R_slice HO182.out; (first | subst eo19 | (injection eo19 with f1_ f2_ f3_; have f4_ := f1_.symm; have f5_ := f3_.symm; clear f1_ f2_ f3_; subst f4_; subst f5_)); refine hK.out _ _ ⟨bl BK178.out 0, bl BK178.out 1⟩ (fun hHeld => ?_); clear hK K; refine norm_ (a' := ?_) ?_ ?_; rotate_left
        ·show Act.put _ (some 25) _ = _; simp only [Act.put, List.setIfInBounds_toArray, List.set_cons_zero, List.set_cons_succ, i64_w, i32_w]; rfl
        refine qv HT_ ?_; refine last_ (i := 9) (N := none) (mkp 10 10) rfl rfl (one_of HT_.out (by kernel_rfl)) (by decide) (fun K hK => ?_); have hs20 : w18.cell? ⟨gb178, 1, none⟩ = some (u179001) := bl BK178.out 1; have hfs20 := blk_frozen BK178.out 1; have hns20_0 := NB175_178.out; have hns20_1 := NB176_178.out; have hns20_2 := NB177_178.out; have hms20_0 := NB178_175.out; have hms20_1 := NB178_176.out; have hms20_2 := NB178_177.out; refine skip_ (w1 := ?_) (by rfl) rfl ?_ ?_; rotate_left
        ·go_simp; rfl
        refine hK.out _ _ ?_; clear hK K; refine done_ (done_of HT_.out (by kernel_rfl)) ?_; (try go_wp2); go_roundg k2
        case measure => have := HK1.out; have := HK2.out; omega
        case rel => exact ⟨(wrap64 (x15_2 + 1)), (y180), (.slice Ao19 y180.length co19), (by first | rfl | (simp; done) | (simp [*]; done)), H', ⟨by have := HK1.out; have := HK2.out; omega⟩, ⟨rq (Kd.R_mono (q1 HO182.out BK178.out (by decide)) (fun _ hk => trivial))⟩, ⟨kp BK175.out⟩, ⟨kp BK176.out⟩, ⟨kp BK177.out⟩, ⟨kp BK178.out⟩, ⟨by exact bw HB.out⟩⟩
       ·rw [if_neg c15] at H; exact absurd H (by simp)
      ·rw [if_neg c13] at H; have c13b0 : decide (x15_2 < a0) = false := decide_eq_false c13; clear c13; have H' := am H; clear H; go_wp2; go_roundg k2
       case measure => have := HK1.out; have := HK2.out; omega
       case rel => exact ⟨(wrap64 (x11_1 + 1)), (x179001_2), (u179001), (by first | rfl | (simp; done) | (simp [*]; done)), H', ⟨by have := HK1.out; have := HK2.out; omega⟩, ⟨rz HO_179001.out⟩, ⟨kz BK175.out⟩, ⟨kz BK176.out⟩, ⟨kz BK177.out⟩, ⟨kz BK178.out⟩, ⟨by exact bw HB.out⟩⟩
   ·rw [if_neg c12] at H; have c12b0 : decide (x11_1 < a0) = false := decide_eq_false c12; clear c12; simp only [Option.some.injEq, Prod.mk.injEq] at H; obtain ⟨rfl, rfl⟩ := H; have hnb21 := NB178_175.out; have hnc21 := NB175_178.out; have hnb22 := NB178_176.out; have hnc22 := NB176_178.out; have hnb23 := NB178_177.out; have hnc23 := NB177_178.out; have hz24 := zf2 BK178.out; have hnb25 := NB177_175.out; have hnc25 := NB175_177.out; have hnb26 := NB177_176.out; have hnc26 := NB176_177.out; have hz27 := zf2 BK177.out; obtain ⟨Ao28, co28, eo28⟩ := Kd.R_slice HO_179001.out; subst eo28; go_wp2; refine bodyPost_ret (results_cell_row rfl _ _ gb177 27 #[.int .i64 a0, .slice Ao28 x179001_1.length co28] (0, 0) _ rfl (kp BK177.out) Try.underlying27 rfl (by kernel_rfl)) rfl ?_; exact ⟨_, by first | rfl | (simp [errW_none, errW_some] <;> rfl) | (simp [*, errW_none, errW_some] <;> rfl), rq (Kd.R_mono (q2 HO_179001.out BK177.out (by decide)) (fun _ hk => trivial)), by exact bw HB.out⟩

end Go.Proofs.Ythojienhgeiknaa.PFnMulMatrix
