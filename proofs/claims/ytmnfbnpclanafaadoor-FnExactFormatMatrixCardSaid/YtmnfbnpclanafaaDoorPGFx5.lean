-- Written by a program (wip/myprint.py): the machine side of one law: each function that it reaches, as a plain function, and the proof that a call comes to just that.
import Derived.Test.YtmnfbnpclanafaaDoorPGFx0
import Derived.Test.YtmnfbnpclanafaaDoorPGFx1
import Derived.Test.YtmnfbnpclanafaaDoorPGFx2
namespace Go.Proofs.YtmnfbnpclanafaaDoor.PGF
open Go.RowKit Go.Proofs.YtmnfbnpclanafaaDoorW.PrintWords Go.Proofs.YtmnfbnpclanafaaDoorW.PrintLast Go.Proofs.YtmnfbnpclanafaaDoorW.PrintMore
attribute [local go_sem] max2_int min2_int max_two min_two max_three min_three max_four min_four   -- for this text's walks alone
set_option linter.unusedVariables false
set_option linter.unusedSimpArgs false

/-! ### laws_szIntS: function 59 -/
def laws_szIntS.f (l0 : List Int) (a1 : Int) : Option (Int) := if (wrap64 (a1 - (l0.length : Int))) < 0 then (some (-1)) else (some (wrap64 (a1 - (l0.length : Int))))
set_option maxHeartbeats 8000000 in
set_option maxRecDepth 100000 in
theorem laws_szIntS.calls (A0 : Option Addr) (c0 : Nat) (l0 : List Int) (a1 : Int) (r : Int) (w : World) (hr0 : Kd.C (Kd.int .i64) w A0 l0.length l0) (hc0 : l0.length ≤ c0) (h : laws_szIntS.f l0 a1 = some r) :
  Calls Tryd.prog 59 #[.slice A0 l0.length c0, .int .i64 a1] w fun e w' => e = .returned (.int .i64 r) ∧ Drawn0 w w' := by
 have HR0 := am hr0; have HC0 := am hc0; clear hr0 hc0; have H : (if (wrap64 (a1 - (l0.length : Int))) < 0 then (some (-1)) else (some (wrap64 (a1 - (l0.length : Int))))) = some r := h; clear h; by_cases c3 : (wrap64 (a1 - (l0.length : Int))) < 0
 ·rw [if_pos c3] at H; have c3b0 : decide ((wrap64 (a1 - (l0.length : Int))) < 0) = true := decide_eq_true c3; clear c3; obtain rfl := Option.some.inj H; go_enter Tryd.func59, Tryd.ntmps59; go_wp2; go_ret; exact ⟨by first | rfl | (simp; done) | (simp [*]; done), by repeat (first | exact Drawn0.refl _ | apply Drawn0.step)⟩
 ·rw [if_neg c3] at H; have c3b0 : decide ((wrap64 (a1 - (l0.length : Int))) < 0) = false := decide_eq_false c3; clear c3; obtain rfl := Option.some.inj H; go_enter Tryd.func59, Tryd.ntmps59; go_wp2; go_ret; exact ⟨by first | rfl | (simp; done) | (simp [*]; done), by repeat (first | exact Drawn0.refl _ | apply Drawn0.step)⟩

/-! ### laws_szMatrix: function 28 -/
def laws_szMatrix.f (a0_0 : Int) (l0_1 : List Int) (a1 : Int) : Option (Int) := (laws_szIntS.f l0_1 a1).bind fun t168 => (if t168 < 0 then (some (-1)) else (some t168))
set_option maxHeartbeats 8000000 in
set_option maxRecDepth 100000 in
theorem laws_szMatrix.calls (a0_0 : Int) (A0_1 : Option Addr) (c0_1 : Nat) (l0_1 : List Int) (a1 : Int) (r : Int) (w : World) (hr0_1 : Kd.C (Kd.int .i64) w A0_1 l0_1.length l0_1) (hc0_1 : l0_1.length ≤ c0_1) (h : laws_szMatrix.f a0_0 l0_1 a1 = some r) :
  Calls Tryd.prog 28 #[.agg #[.int .i64 a0_0, .slice A0_1 l0_1.length c0_1], .int .i64 a1] w fun e w' => e = .returned (.int .i64 r) ∧ Below w.heap.size w w' := by
 have hu41 := Tryd.underlying41; have HR0_1 := am hr0_1; have HC0_1 := am hc0_1; clear hr0_1 hc0_1; have HB := am (Below.refl w.heap.size w); have H : ((laws_szIntS.f l0_1 a1).bind fun t168 => (if t168 < 0 then (some (-1)) else (some t168))) = some r := h; clear h; replace H := Option.bind_eq_some_iff.mp H; obtain ⟨t168, A30, H⟩ := H; (try dsimp only at H); have A3 := am A30; clear A30; by_cases c4 : t168 < 0
 ·rw [if_pos c4] at H; have c4b0 : decide (t168 < 0) = true := decide_eq_true c4; clear c4; obtain rfl := Option.some.inj H; go_enter Tryd.func28, Tryd.ntmps28; go_wp2_with (first | ((with_reducible refine gx 2 rfl ?_); refine be (cs := #[.int .i64 a0_0, .slice A0_1 l0_1.length c0_1]) (t := 41) ?_; intro gb167 hg w5 hbox hb; have n0_ := hs HB hb; have n1_ := am (hbox); have n2_ := gs hg (bz HB.out); have n3_ := gs hg (bz HB.out); clear HB; revert n0_ n1_ n2_ n3_; intro HB BK167 GW167 GE167; clear hb hbox hg; have hz6 := zf2 BK167.out) | ((with_reducible refine gy 59 rfl ?_); refine gl Tryd.func59 #[.slice A0_1 l0_1.length c0_1, .int .i64 a1] ?_; (with_reducible refine (laws_szIntS.calls _ _ l0_1 a1 t168 _ ?side1 ?side2 A3.out).mono ?_); (case side1 => exact cc (Kd.C_below HR0_1.out HB.out)); (case side2 => exact HC0_1.out); rintro e w' ⟨rfl, ⟨nd, rfl⟩⟩; refine ⟨_, rfl, ?_⟩)); go_ret; exact ⟨by first | rfl | (simp [errW_none, errW_some] <;> rfl) | (simp [*, errW_none, errW_some] <;> rfl), by exact bw HB.out⟩
 ·rw [if_neg c4] at H; have c4b0 : decide (t168 < 0) = false := decide_eq_false c4; clear c4; obtain rfl := Option.some.inj H; go_enter Tryd.func28, Tryd.ntmps28; go_wp2_with (first | ((with_reducible refine gx 2 rfl ?_); refine be (cs := #[.int .i64 a0_0, .slice A0_1 l0_1.length c0_1]) (t := 41) ?_; intro gb167 hg w7 hbox hb; have n0_ := hs HB hb; have n1_ := am (hbox); have n2_ := gs hg (bz HB.out); have n3_ := gs hg (bz HB.out); clear HB; revert n0_ n1_ n2_ n3_; intro HB BK167 GW167 GE167; clear hb hbox hg; have hz8 := zf2 BK167.out) | ((with_reducible refine gy 59 rfl ?_); refine gl Tryd.func59 #[.slice A0_1 l0_1.length c0_1, .int .i64 a1] ?_; (with_reducible refine (laws_szIntS.calls _ _ l0_1 a1 t168 _ ?side1 ?side2 A3.out).mono ?_); (case side1 => exact cc (Kd.C_below HR0_1.out HB.out)); (case side2 => exact HC0_1.out); rintro e w' ⟨rfl, ⟨nd, rfl⟩⟩; refine ⟨_, rfl, ?_⟩)); go_ret; exact ⟨by first | rfl | (simp [errW_none, errW_some] <;> rfl) | (simp [*, errW_none, errW_some] <;> rfl), by exact bw HB.out⟩

/-! ### spec_l1All: function 64 -/
def spec_l1All.l0 : Nat → List Int → Int → Int → Option (Bool)
 | 0, _, _, _ => none
 | k + 1, x5, x6, x7 => if x7 < x6 then (if 0 ≤ x7 then (if x7 < (x5.length : Int) then ((spec_CostValid.f (rd x5 x7)).bind fun t170 => (if t170 = true then (spec_l1All.l0 k x5 x6 (wrap64 (x7 + 1))) else (some false))) else (none)) else (none)) else (some true)
def spec_l1All.f (k : Nat) (l0 : List Int) : Option (Bool) := spec_l1All.l0 k l0 (l0.length : Int) 0
theorem spec_l1All.mono_l : ∀ k, (∀ y0 y1 y2, LeO (spec_l1All.l0 k y0 y1 y2) (spec_l1All.l0 (k + 1) y0 y1 y2))
 | 0 => fun _ _ _ r h => by simp [spec_l1All.l0] at h
 | k + 1 => by
  have ih0 := spec_l1All.mono_l k
  ·intro y0 y1 y2; unfold spec_l1All.l0; repeat' first
   | (with_reducible exact ih0 _ _ _)
   | (with_reducible exact LeO.refl _)
   | (with_reducible exact LeO.none _)
   | (with_reducible refine LeO.ite ?_ ?_)
   | (with_reducible refine LeO.bind ?_ (fun _ => ?_))
   | exact ih0 _ _ _
   | exact LeO.none _
   | refine LeO.ite ?_ ?_
   | refine LeO.bind ?_ (fun _ => ?_)
theorem spec_l1All.mono : ∀ a0 k, LeO (spec_l1All.f k a0) (spec_l1All.f (k + 1) a0) := by
 intro a0 k; have ih0 := spec_l1All.mono_l k; unfold spec_l1All.f; repeat' first
   | (with_reducible exact ih0 _ _ _)
   | (with_reducible exact LeO.refl _)
   | (with_reducible exact LeO.none _)
   | (with_reducible refine LeO.ite ?_ ?_)
   | (with_reducible refine LeO.bind ?_ (fun _ => ?_))
   | exact ih0 _ _ _
   | exact LeO.none _
   | refine LeO.ite ?_ ?_
   | refine LeO.bind ?_ (fun _ => ?_)
set_option maxHeartbeats 8000000 in
set_option maxRecDepth 100000 in
theorem spec_l1All.calls (k : Nat) (A0 : Option Addr) (c0 : Nat) (l0 : List Int) (r : Bool) (w : World) (hr0 : Kd.C (Kd.int .i64) w A0 l0.length l0) (hc0 : l0.length ≤ c0) (h : spec_l1All.f k l0 = some r) :
  Calls Tryd.prog 64 #[.slice A0 l0.length c0] w fun e w' => e = .returned (.bool r) ∧ Drawn0 w w' := by
 have HR0 := am hr0; have HC0 := am hc0; clear hr0 hc0; have H : (spec_l1All.l0 k l0 (l0.length : Int) 0) = some r := h; clear h; have H' := am H; clear H; go_enter Tryd.func64, Tryd.ntmps64; go_wp2; go_loopg [7] k (fun kq v7 w' => ∃ (x7_1 : Int), v7 = .int .i64 x7_1 ∧ Aside0 (spec_l1All.l0 kq l0 (l0.length : Int) x7_1 = some r) ∧ Aside0 (kq ≤ k) ∧ Drawn0 w w')
 case atStart => exact ⟨(0), (by first | rfl | (simp; done) | (simp [*]; done)), H', ⟨Nat.le_refl _⟩, by repeat (first | exact Drawn0.refl _ | apply Drawn0.step)⟩
 case round =>
  clear H'; obtain ⟨x7_1, rfl, HA, HK1, ⟨m1, rfl⟩⟩ := hrel
  cases gk with
  | zero => exact absurd HA.out (by simp [spec_l1All.l0])
  | succ k1 =>
   have H := HA.out; clear HA; simp only [spec_l1All.l0] at H; by_cases c2 : x7_1 < (l0.length : Int)
   ·rw [if_pos c2] at H; have c2b0 : decide (x7_1 < (l0.length : Int)) = true := decide_eq_true c2; clear c2; by_cases c3 : 0 ≤ x7_1
    ·rw [if_pos c3] at H; have c3b0 : decide (0 ≤ x7_1) = true := decide_eq_true c3; clear c3; by_cases c4 : x7_1 < (l0.length : Int)
     ·rw [if_pos c4] at H; have c4b0 : decide (x7_1 < (l0.length : Int)) = true := decide_eq_true c4; clear c4; replace H := Option.bind_eq_some_iff.mp H; obtain ⟨t170, A50, H⟩ := H; (try dsimp only at H); have A5 := am A50; clear A50; by_cases c6 : t170 = true
      ·subst c6
       have H1 : (spec_l1All.l0 k1 l0 (l0.length : Int) (wrap64 (x7_1 + 1))) = some r := by rw [if_pos rfl] at H; exact H
       clear H; have H := H1; clear H1; have H' := am H; clear H; have p169 : 0 ≤ (x7_1 : Int) := da; have q169 : x7_1 < (l0.length : Int) := da; obtain ⟨ad169, e169, hx169_0⟩ := Kd.at_int HR0.out x7_1 p169 q169; cases e169; replace p169 := eq_true p169; replace q169 := eq_true q169; go_wp2_with (first | ((with_reducible refine gy 45 rfl ?_); refine gl Tryd.func45 #[.int .i64 (rd l0 x7_1)] ?_; (with_reducible refine (spec_CostValid.calls (rd l0 x7_1) true _ A5.out).mono ?_); rintro e w' ⟨rfl, ⟨nd, rfl⟩⟩; refine ⟨_, rfl, ?_⟩)); go_roundg k1
       case measure => have := HK1.out; omega
       case rel => exact ⟨(wrap64 (x7_1 + 1)), (by first | rfl | (simp; done) | (simp [*]; done)), H', ⟨by have := HK1.out; omega⟩, by repeat (first | exact Drawn0.refl _ | apply Drawn0.step)⟩
      ·replace c6 := Bool.eq_false_iff.mpr c6; subst c6
       have H1 : (some false) = some r := by rw [if_neg (show ¬ (false = true) by decide)] at H; exact H
       clear H; have H := H1; clear H1; obtain rfl := Option.some.inj H; have p169 : 0 ≤ (x7_1 : Int) := da; have q169 : x7_1 < (l0.length : Int) := da; obtain ⟨ad169, e169, hx169_0⟩ := Kd.at_int HR0.out x7_1 p169 q169; cases e169; replace p169 := eq_true p169; replace q169 := eq_true q169; go_wp2_with (first | ((with_reducible refine gy 45 rfl ?_); refine gl Tryd.func45 #[.int .i64 (rd l0 x7_1)] ?_; (with_reducible refine (spec_CostValid.calls (rd l0 x7_1) false _ A5.out).mono ?_); rintro e w' ⟨rfl, ⟨nd, rfl⟩⟩; refine ⟨_, rfl, ?_⟩)); go_ret; exact ⟨by first | rfl | (simp; done) | (simp [*]; done), by repeat (first | exact Drawn0.refl _ | apply Drawn0.step)⟩
     ·rw [if_neg c4] at H; exact absurd H (by simp)
    ·rw [if_neg c3] at H; exact absurd H (by simp)
   ·rw [if_neg c2] at H; have c2b0 : decide (x7_1 < (l0.length : Int)) = false := decide_eq_false c2; clear c2; obtain rfl := Option.some.inj H; go_wp2; go_ret; exact ⟨by first | rfl | (simp; done) | (simp [*]; done), by repeat (first | exact Drawn0.refl _ | apply Drawn0.step)⟩

/-! ### spec_MatrixValid: function 39 -/
def spec_MatrixValid.f (k : Nat) (a0_0 : Int) (l0_1 : List Int) : Option (Bool) := (spec_l1In.f a0_0 1 4).bind fun t172 => (if t172 = true then (if (l0_1.length : Int) = (wrap64 (a0_0 * a0_0)) then ((spec_l1All.f k l0_1).bind fun t173 => (some t173)) else (some false)) else (some false))
theorem spec_MatrixValid.mono : ∀ a0 a1 k, LeO (spec_MatrixValid.f k a0 a1) (spec_MatrixValid.f (k + 1) a0 a1) := by
 intro a0 a1 k; unfold spec_MatrixValid.f; repeat' first
   | (with_reducible exact spec_l1All.mono _ _)
   | (with_reducible exact LeO.refl _)
   | (with_reducible exact LeO.none _)
   | (with_reducible refine LeO.ite ?_ ?_)
   | (with_reducible refine LeO.bind ?_ (fun _ => ?_))
   | exact spec_l1All.mono _ _
   | exact LeO.none _
   | refine LeO.ite ?_ ?_
   | refine LeO.bind ?_ (fun _ => ?_)
set_option maxHeartbeats 8000000 in
set_option maxRecDepth 100000 in
theorem spec_MatrixValid.calls (k : Nat) (a0_0 : Int) (A0_1 : Option Addr) (c0_1 : Nat) (l0_1 : List Int) (r : Bool) (w : World) (hr0_1 : Kd.C (Kd.int .i64) w A0_1 l0_1.length l0_1) (hc0_1 : l0_1.length ≤ c0_1) (h : spec_MatrixValid.f k a0_0 l0_1 = some r) :
  Calls Tryd.prog 39 #[.agg #[.int .i64 a0_0, .slice A0_1 l0_1.length c0_1]] w fun e w' => e = .returned (.bool r) ∧ Below w.heap.size w w' := by
 have hu44 := Tryd.underlying44; have HR0_1 := am hr0_1; have HC0_1 := am hc0_1; clear hr0_1 hc0_1; have HB := am (Below.refl w.heap.size w); have H : ((spec_l1In.f a0_0 1 4).bind fun t172 => (if t172 = true then (if (l0_1.length : Int) = (wrap64 (a0_0 * a0_0)) then ((spec_l1All.f k l0_1).bind fun t173 => (some t173)) else (some false)) else (some false))) = some r := h; clear h; replace H := Option.bind_eq_some_iff.mp H; obtain ⟨t172, A20, H⟩ := H; (try dsimp only at H); have A2 := am A20; clear A20; by_cases c3 : t172 = true
 ·subst c3
  have H1 : (if (l0_1.length : Int) = (wrap64 (a0_0 * a0_0)) then ((spec_l1All.f k l0_1).bind fun t173 => (some t173)) else (some false)) = some r := by rw [if_pos rfl] at H; exact H
  clear H; have H := H1; clear H1; by_cases c4 : (l0_1.length : Int) = (wrap64 (a0_0 * a0_0))
  ·rw [if_pos c4] at H; have c4b0 : ((l0_1.length : Int) == (wrap64 (a0_0 * a0_0))) = true := beq_iff_eq.mpr c4; have c4b1 : ((l0_1.length : Int) != (wrap64 (a0_0 * a0_0))) = false := bne_eq_false_iff_eq.mpr c4; clear c4; replace H := Option.bind_eq_some_iff.mp H; obtain ⟨t173, A50, H⟩ := H; (try dsimp only at H); have A5 := am A50; clear A50; obtain rfl := Option.some.inj H; go_enter Tryd.func39, Tryd.ntmps39; go_wp2_with (first | ((with_reducible refine gx 1 rfl ?_); (try (refine gate_guard (by rfl) ?_; dsimp only)); refine be (cs := #[.int .i64 a0_0, .slice A0_1 l0_1.length c0_1]) (t := 44) ?_; intro gb171 hg w6 hbox hb; have n0_ := hs HB hb; have n1_ := am (hbox); have n2_ := gs hg (bz HB.out); have n3_ := gs hg (bz HB.out); clear HB; revert n0_ n1_ n2_ n3_; intro HB BK171 GW171 GE171; clear hb hbox hg; have hz7 := zf2 BK171.out) | ((with_reducible refine gy 51 rfl ?_); refine gl Tryd.func51 #[.int .i64 a0_0, .int .i64 1, .int .i64 4] ?_; (with_reducible refine (spec_l1In.calls a0_0 1 4 true _ A2.out).mono ?_); rintro e w' ⟨rfl, ⟨nd, rfl⟩⟩; refine ⟨_, rfl, ?_⟩) | (go_at_call 64; (with_reducible refine (spec_l1All.calls k _ _ l0_1 t173 _ ?side1 ?side2 A5.out).mono ?_); (case side1 => exact cc (Kd.C_below HR0_1.out (bw HB.out))); (case side2 => exact HC0_1.out); rintro e w' ⟨rfl, ⟨nd, rfl⟩⟩)); go_ret; exact ⟨by first | rfl | (simp [errW_none, errW_some] <;> rfl) | (simp [*, errW_none, errW_some] <;> rfl), by exact bw HB.out⟩
  ·rw [if_neg c4] at H; have c4b0 : ((l0_1.length : Int) == (wrap64 (a0_0 * a0_0))) = false := beq_eq_false_iff_ne.mpr c4; have c4b1 : ((l0_1.length : Int) != (wrap64 (a0_0 * a0_0))) = true := bne_iff_ne.mpr c4; obtain rfl := Option.some.inj H; go_enter Tryd.func39, Tryd.ntmps39; go_wp2_with (first | ((with_reducible refine gx 1 rfl ?_); (try (refine gate_guard (by rfl) ?_; dsimp only)); refine be (cs := #[.int .i64 a0_0, .slice A0_1 l0_1.length c0_1]) (t := 44) ?_; intro gb171 hg w8 hbox hb; have n0_ := hs HB hb; have n1_ := am (hbox); have n2_ := gs hg (bz HB.out); have n3_ := gs hg (bz HB.out); clear HB; revert n0_ n1_ n2_ n3_; intro HB BK171 GW171 GE171; clear hb hbox hg; have hz9 := zf2 BK171.out) | ((with_reducible refine gy 51 rfl ?_); refine gl Tryd.func51 #[.int .i64 a0_0, .int .i64 1, .int .i64 4] ?_; (with_reducible refine (spec_l1In.calls a0_0 1 4 true _ A2.out).mono ?_); rintro e w' ⟨rfl, ⟨nd, rfl⟩⟩; refine ⟨_, rfl, ?_⟩)); go_ret; exact ⟨by first | rfl | (simp [errW_none, errW_some] <;> rfl) | (simp [*, errW_none, errW_some] <;> rfl), by exact bw HB.out⟩
 ·replace c3 := Bool.eq_false_iff.mpr c3; subst c3
  have H1 : (some false) = some r := by rw [if_neg (show ¬ (false = true) by decide)] at H; exact H
  clear H; have H := H1; clear H1; obtain rfl := Option.some.inj H; go_enter Tryd.func39, Tryd.ntmps39; go_wp2_with (first | ((with_reducible refine gx 1 rfl ?_); (try (refine gate_guard (by rfl) ?_; dsimp only)); refine be (cs := #[.int .i64 a0_0, .slice A0_1 l0_1.length c0_1]) (t := 44) ?_; intro gb171 hg w10 hbox hb; have n0_ := hs HB hb; have n1_ := am (hbox); have n2_ := gs hg (bz HB.out); have n3_ := gs hg (bz HB.out); clear HB; revert n0_ n1_ n2_ n3_; intro HB BK171 GW171 GE171; clear hb hbox hg; have hz11 := zf2 BK171.out) | ((with_reducible refine gy 51 rfl ?_); refine gl Tryd.func51 #[.int .i64 a0_0, .int .i64 1, .int .i64 4] ?_; (with_reducible refine (spec_l1In.calls a0_0 1 4 false _ A2.out).mono ?_); rintro e w' ⟨rfl, ⟨nd, rfl⟩⟩; refine ⟨_, rfl, ?_⟩)); go_ret; exact ⟨by first | rfl | (simp [errW_none, errW_some] <;> rfl) | (simp [*, errW_none, errW_some] <;> rfl), by exact bw HB.out⟩

/-! ### spec_FormatMatrix: function 29 -/
mutual
def spec_FormatMatrix.l0 : Nat → ByteArray → Int → Int → List Int → Option (ByteArray)
 | 0, _, _, _, _ => none
 | k + 1, x3, x4, x175000, x175001 => (spec_MatrixValid.f k x175000 x175001).bind fun t175 => (if t175 = true then (spec_FormatMatrix.j1 k x3 x4 (decide (x4 < x175000)) x175000 x175001) else (spec_FormatMatrix.j1 k x3 x4 false x175000 x175001))
def spec_FormatMatrix.j1 : Nat → ByteArray → Int → Bool → Int → List Int → Option (ByteArray)
 | 0, _, _, _, _, _ => none
 | k + 1, x3, x4, x12, x175000, x175001 => if x12 = true then (if x4 > 0 then (if x3.size + 1 ≤ 9223372036854775807 then (if 0 ≤ (wrap64 (x4 * x175000)) then (if (wrap64 (x4 * x175000)) ≤ (wrap64 ((wrap64 (x4 + 1)) * x175000)) then (if (wrap64 ((wrap64 (x4 + 1)) * x175000)) ≤ (x175001.length : Int) then ((spec_FormatCosts.f k ((x175001.take ((wrap64 ((wrap64 (x4 + 1)) * x175000)) : Int).toNat).drop ((wrap64 (x4 * x175000)) : Int).toNat)).bind fun t177 => (if (x3 ++ (⟨#[47]⟩ : ByteArray)).size + t177.size ≤ 9223372036854775807 then (spec_FormatMatrix.l0 k ((x3 ++ (⟨#[47]⟩ : ByteArray)) ++ t177) (wrap64 (x4 + 1)) x175000 x175001) else (none))) else (none)) else (none)) else (none)) else (none)) else (if 0 ≤ (wrap64 (x4 * x175000)) then (if (wrap64 (x4 * x175000)) ≤ (wrap64 ((wrap64 (x4 + 1)) * x175000)) then (if (wrap64 ((wrap64 (x4 + 1)) * x175000)) ≤ (x175001.length : Int) then ((spec_FormatCosts.f k ((x175001.take ((wrap64 ((wrap64 (x4 + 1)) * x175000)) : Int).toNat).drop ((wrap64 (x4 * x175000)) : Int).toNat)).bind fun t179 => (if x3.size + t179.size ≤ 9223372036854775807 then (spec_FormatMatrix.l0 k (x3 ++ t179) (wrap64 (x4 + 1)) x175000 x175001) else (none))) else (none)) else (none)) else (none))) else (some x3)
end
def spec_FormatMatrix.f (k : Nat) (a0_0 : Int) (l0_1 : List Int) : Option (ByteArray) := spec_FormatMatrix.l0 k (⟨#[]⟩ : ByteArray) 0 a0_0 l0_1
theorem spec_FormatMatrix.mono_l : ∀ k, (∀ y0 y1 y2 y3, LeO (spec_FormatMatrix.l0 k y0 y1 y2 y3) (spec_FormatMatrix.l0 (k + 1) y0 y1 y2 y3)) ∧ (∀ y0 y1 y2 y3 y4, LeO (spec_FormatMatrix.j1 k y0 y1 y2 y3 y4) (spec_FormatMatrix.j1 (k + 1) y0 y1 y2 y3 y4))
 | 0 => ⟨fun _ _ _ _ r h => by simp [spec_FormatMatrix.l0] at h, fun _ _ _ _ _ r h => by simp [spec_FormatMatrix.j1] at h⟩
 | k + 1 => by
  obtain ⟨ih0, ih1⟩ := spec_FormatMatrix.mono_l k; refine ⟨?_, ?_⟩
  ·intro y0 y1 y2 y3; unfold spec_FormatMatrix.l0; repeat' first
   | (with_reducible exact ih0 _ _ _ _)
   | (with_reducible exact ih1 _ _ _ _ _)
   | (with_reducible exact spec_FormatCosts.mono _ _)
   | (with_reducible exact spec_MatrixValid.mono _ _ _)
   | (with_reducible exact LeO.refl _)
   | (with_reducible exact LeO.none _)
   | (with_reducible refine LeO.ite ?_ ?_)
   | (with_reducible refine LeO.bind ?_ (fun _ => ?_))
   | exact ih0 _ _ _ _
   | exact ih1 _ _ _ _ _
   | exact spec_FormatCosts.mono _ _
   | exact spec_MatrixValid.mono _ _ _
   | exact LeO.none _
   | refine LeO.ite ?_ ?_
   | refine LeO.bind ?_ (fun _ => ?_)
  ·intro y0 y1 y2 y3 y4; unfold spec_FormatMatrix.j1; repeat' first
   | (with_reducible exact ih0 _ _ _ _)
   | (with_reducible exact ih1 _ _ _ _ _)
   | (with_reducible exact spec_FormatCosts.mono _ _)
   | (with_reducible exact spec_MatrixValid.mono _ _ _)
   | (with_reducible exact LeO.refl _)
   | (with_reducible exact LeO.none _)
   | (with_reducible refine LeO.ite ?_ ?_)
   | (with_reducible refine LeO.bind ?_ (fun _ => ?_))
   | exact ih0 _ _ _ _
   | exact ih1 _ _ _ _ _
   | exact spec_FormatCosts.mono _ _
   | exact spec_MatrixValid.mono _ _ _
   | exact LeO.none _
   | refine LeO.ite ?_ ?_
   | refine LeO.bind ?_ (fun _ => ?_)
theorem spec_FormatMatrix.mono : ∀ a0 a1 k, LeO (spec_FormatMatrix.f k a0 a1) (spec_FormatMatrix.f (k + 1) a0 a1) := by
 intro a0 a1 k; obtain ⟨ih0, ih1⟩ := spec_FormatMatrix.mono_l k; unfold spec_FormatMatrix.f; repeat' first
   | (with_reducible exact ih0 _ _ _ _)
   | (with_reducible exact ih1 _ _ _ _ _)
   | (with_reducible exact spec_FormatCosts.mono _ _)
   | (with_reducible exact spec_MatrixValid.mono _ _ _)
   | (with_reducible exact LeO.refl _)
   | (with_reducible exact LeO.none _)
   | (with_reducible refine LeO.ite ?_ ?_)
   | (with_reducible refine LeO.bind ?_ (fun _ => ?_))
   | exact ih0 _ _ _ _
   | exact ih1 _ _ _ _ _
   | exact spec_FormatCosts.mono _ _
   | exact spec_MatrixValid.mono _ _ _
   | exact LeO.none _
   | refine LeO.ite ?_ ?_
   | refine LeO.bind ?_ (fun _ => ?_)
set_option maxHeartbeats 8000000 in
set_option maxRecDepth 100000 in
theorem spec_FormatMatrix.calls (k : Nat) (a0_0 : Int) (A0_1 : Option Addr) (c0_1 : Nat) (l0_1 : List Int) (r : ByteArray) (w : World) (hr0_1 : Kd.C (Kd.int .i64) w A0_1 l0_1.length l0_1) (hc0_1 : l0_1.length ≤ c0_1) (h : spec_FormatMatrix.f k a0_0 l0_1 = some r) :
  Calls Tryd.prog 29 #[.agg #[.int .i64 a0_0, .slice A0_1 l0_1.length c0_1]] w fun e w' => e = .returned (.string r) ∧ Below w.heap.size w w' := by
 have hu44 := Tryd.underlying44; have HR0_1 := am hr0_1; have HC0_1 := am hc0_1; clear hr0_1 hc0_1; have HB := am (Below.refl w.heap.size w); have H : (spec_FormatMatrix.l0 k (⟨#[]⟩ : ByteArray) 0 a0_0 l0_1) = some r := h; clear h; have H' := am H; clear H; go_enter Tryd.func29, Tryd.ntmps29; go_wp2_with (first | ((with_reducible refine gx 1 rfl ?_); refine be (cs := #[.int .i64 a0_0, .slice A0_1 l0_1.length c0_1]) (t := 44) ?_; intro gb174 hg w2 hbox hb; have n0_ := hs HB hb; have n1_ := am (hbox); have n2_ := gs hg (bz HB.out); have n3_ := gs hg (bz HB.out); clear HB; revert n0_ n1_ n2_ n3_; intro HB BK174 GW174 GE174; clear hb hbox hg)); go_loopg [3, 4] k (fun kq v3 v4 w' => ∃ (x3_1 : ByteArray) (x4_1 : Int), v3 = .string x3_1 ∧ v4 = .int .i64 x4_1 ∧ Aside0 (spec_FormatMatrix.l0 kq x3_1 x4_1 a0_0 l0_1 = some r) ∧ Aside0 (kq ≤ k) ∧ Aside0 (w'.heap[gb174]? = some (.cells #[.int .i64 a0_0, (.slice A0_1 l0_1.length c0_1)] 44 (0, 0))) ∧ Aside0 (Below w.heap.size w w'))
 case atStart => exact ⟨((⟨#[]⟩ : ByteArray)), (0), (by first | rfl | (simp; done) | (simp [*]; done)), (by first | rfl | (simp; done) | (simp [*]; done)), H', ⟨Nat.le_refl _⟩, ⟨kz BK174.out⟩, ⟨by exact bw HB.out⟩⟩
 case round =>
  clear H'; (try clear c2); (try clear p2); obtain ⟨x3_1, x4_1, rfl, rfl, HA, HK1, BK174, HB⟩ := hrel
  cases gk with
  | zero => exact absurd HA.out (by simp [spec_FormatMatrix.l0])
  | succ k1 =>
   have H := HA.out; clear HA; simp only [spec_FormatMatrix.l0] at H; have HC3 := am H; clear H; go_upto_region 3 with (fail); go_cut [12] (fun v12 wc => ∃ (kq : Nat) (x12_2 : Bool), v12 = .bool x12_2 ∧ Aside0 (spec_FormatMatrix.j1 kq x3_1 x4_1 x12_2 a0_0 l0_1 = some r) ∧ Aside0 (kq ≤ k1) ∧ Aside0 (wc.heap[gb174]? = some (.cells #[.int .i64 a0_0, (.slice A0_1 l0_1.length c0_1)] 44 (0, 0))) ∧ Aside0 (Below w.heap.size w wc))
   case first =>
    have H := HC3.out; clear HC3; replace H := Option.bind_eq_some_iff.mp H; obtain ⟨t175, A40, H⟩ := H; (try dsimp only at H); have A4 := am A40; clear A40; by_cases c5 : t175 = true
    ·subst c5
     have H1 : (spec_FormatMatrix.j1 k1 x3_1 x4_1 (decide (x4_1 < a0_0)) a0_0 l0_1) = some r := by rw [if_pos rfl] at H; exact H
     clear H; have H := H1; clear H1; have H' := am H; clear H; have hz6 := zf2 BK174.out; go_wp2_with (first | ((with_reducible refine gy 39 rfl ?_); refine gl Tryd.func39 #[.agg #[.int .i64 a0_0, .slice A0_1 l0_1.length c0_1]] ?_; (with_reducible refine (spec_MatrixValid.calls k1 a0_0 _ _ l0_1 true _ ?side1 ?side2 A4.out).mono ?_); (case side1 => exact cc (Kd.C_below HR0_1.out HB.out)); (case side2 => exact HC0_1.out); rintro e w7 ⟨rfl, hb⟩; refine ⟨_, rfl, ?_⟩; have n0_ := bk BK174 hb; have n1_ := hs HB hb; clear BK174 HB; revert n0_ n1_; intro BK174 HB; (try clear hb); (try clear hb2); (try clear hk); (try clear hi); have hz8 := zf2 BK174.out)); go_meet
     case rel => exact ⟨_, (decide (x4_1 < a0_0)), (by first | rfl | (simp; done) | (simp [*]; done)), H', ⟨by have := HK1.out; first | omega | exact Nat.le_refl _⟩, ⟨kz BK174.out⟩, ⟨by exact bw HB.out⟩⟩
    ·replace c5 := Bool.eq_false_iff.mpr c5; subst c5
     have H1 : (spec_FormatMatrix.j1 k1 x3_1 x4_1 false a0_0 l0_1) = some r := by rw [if_neg (show ¬ (false = true) by decide)] at H; exact H
     clear H; have H := H1; clear H1; have H' := am H; clear H; have hz9 := zf2 BK174.out; go_wp2_with (first | ((with_reducible refine gy 39 rfl ?_); refine gl Tryd.func39 #[.agg #[.int .i64 a0_0, .slice A0_1 l0_1.length c0_1]] ?_; (with_reducible refine (spec_MatrixValid.calls k1 a0_0 _ _ l0_1 false _ ?side1 ?side2 A4.out).mono ?_); (case side1 => exact cc (Kd.C_below HR0_1.out HB.out)); (case side2 => exact HC0_1.out); rintro e w10 ⟨rfl, hb⟩; refine ⟨_, rfl, ?_⟩; have n0_ := bk BK174 hb; have n1_ := hs HB hb; clear BK174 HB; revert n0_ n1_; intro BK174 HB; (try clear hb); (try clear hb2); (try clear hk); (try clear hi))); go_meet
     case rel => exact ⟨_, (false), (by first | rfl | (simp; done) | (simp [*]; done)), H', ⟨by have := HK1.out; first | omega | exact Nat.le_refl _⟩, ⟨kz BK174.out⟩, ⟨by exact bw HB.out⟩⟩
   case rest =>
    clear HC3; (try clear c2); (try clear p2); (try clear c3); (try clear c5); (try clear p2); obtain ⟨kq, x12_2, rfl, HA, HJ2, BK174, HB⟩ := hcut
    cases kq with
    | zero => exact absurd HA.out (by simp [spec_FormatMatrix.j1])
    | succ kj2 =>
     have H := HA.out; clear HA; simp only [spec_FormatMatrix.j1] at H; by_cases c11 : x12_2 = true
     ·subst c11
      have H1 : (if x4_1 > 0 then (if x3_1.size + 1 ≤ 9223372036854775807 then (if 0 ≤ (wrap64 (x4_1 * a0_0)) then (if (wrap64 (x4_1 * a0_0)) ≤ (wrap64 ((wrap64 (x4_1 + 1)) * a0_0)) then (if (wrap64 ((wrap64 (x4_1 + 1)) * a0_0)) ≤ (l0_1.length : Int) then ((spec_FormatCosts.f kj2 ((l0_1.take ((wrap64 ((wrap64 (x4_1 + 1)) * a0_0)) : Int).toNat).drop ((wrap64 (x4_1 * a0_0)) : Int).toNat)).bind fun t177 => (if (x3_1 ++ (⟨#[47]⟩ : ByteArray)).size + t177.size ≤ 9223372036854775807 then (spec_FormatMatrix.l0 kj2 ((x3_1 ++ (⟨#[47]⟩ : ByteArray)) ++ t177) (wrap64 (x4_1 + 1)) a0_0 l0_1) else (none))) else (none)) else (none)) else (none)) else (none)) else (if 0 ≤ (wrap64 (x4_1 * a0_0)) then (if (wrap64 (x4_1 * a0_0)) ≤ (wrap64 ((wrap64 (x4_1 + 1)) * a0_0)) then (if (wrap64 ((wrap64 (x4_1 + 1)) * a0_0)) ≤ (l0_1.length : Int) then ((spec_FormatCosts.f kj2 ((l0_1.take ((wrap64 ((wrap64 (x4_1 + 1)) * a0_0)) : Int).toNat).drop ((wrap64 (x4_1 * a0_0)) : Int).toNat)).bind fun t179 => (if x3_1.size + t179.size ≤ 9223372036854775807 then (spec_FormatMatrix.l0 kj2 (x3_1 ++ t179) (wrap64 (x4_1 + 1)) a0_0 l0_1) else (none))) else (none)) else (none)) else (none))) = some r := by rw [if_pos rfl] at H; exact H
      clear H; have H := H1; clear H1; by_cases c12 : x4_1 > 0
      ·rw [if_pos c12] at H; have c12b0 : decide (0 < x4_1) = true := decide_eq_true c12; clear c12; by_cases c13 : x3_1.size + 1 ≤ 9223372036854775807
       ·rw [if_pos c13] at H; have c13b0 := eq_true c13; have c13b1 : decide (x3_1.size + 1 ≤ 9223372036854775807) = true := decide_eq_true c13; (try have c13b2 : (9223372036854775807 < x3_1.size + 1) = False := eq_false (Nat.not_lt.2 c13)); obtain ⟨ji14, hji14⟩ : ∃ j_ : Int, (wrap64 (x4_1 * a0_0)) = j_ := ⟨_, rfl⟩
        replace H : (if 0 ≤ (ji14) then (if (ji14) ≤ (wrap64 ((wrap64 (x4_1 + 1)) * a0_0)) then (if (wrap64 ((wrap64 (x4_1 + 1)) * a0_0)) ≤ (l0_1.length : Int) then ((spec_FormatCosts.f kj2 ((l0_1.take ((wrap64 ((wrap64 (x4_1 + 1)) * a0_0)) : Int).toNat).drop ((ji14) : Int).toNat)).bind fun t177 => (if (x3_1 ++ (⟨#[47]⟩ : ByteArray)).size + t177.size ≤ 9223372036854775807 then (spec_FormatMatrix.l0 kj2 ((x3_1 ++ (⟨#[47]⟩ : ByteArray)) ++ t177) (wrap64 (x4_1 + 1)) a0_0 l0_1) else (none))) else (none)) else (none)) else (none)) = some r := by first | (rw [hji14] at H; exact H) | (simp only [hji14] at H ⊢; exact H)
        have hji14w : (IntKind.i64.wrap (x4_1 * a0_0)) = ji14 := (i64_w _).trans hji14; by_cases c15 : 0 ≤ (ji14)
        ·rw [if_pos c15] at H; have c15b0 := eq_true c15; have c15b1 : decide (0 ≤ (ji14)) = true := decide_eq_true c15; clear c15; by_cases c16 : (ji14) ≤ (wrap64 ((wrap64 (x4_1 + 1)) * a0_0))
         ·rw [if_pos c16] at H; have c16b0 := eq_true c16; have c16b1 : decide ((ji14) ≤ (wrap64 ((wrap64 (x4_1 + 1)) * a0_0))) = true := decide_eq_true c16; by_cases c17 : (wrap64 ((wrap64 (x4_1 + 1)) * a0_0)) ≤ (l0_1.length : Int)
          ·rw [if_pos c17] at H; have c17b0 := eq_true c17; have c17b1 : decide ((wrap64 ((wrap64 (x4_1 + 1)) * a0_0)) ≤ (l0_1.length : Int)) = true := decide_eq_true c17; replace H := Option.bind_eq_some_iff.mp H; obtain ⟨t177, A180, H⟩ := H; (try dsimp only at H); have A18 := am A180; clear A180; by_cases c19 : (x3_1 ++ (⟨#[47]⟩ : ByteArray)).size + t177.size ≤ 9223372036854775807
           ·rw [if_pos c19] at H; have c19b0 := eq_true c19; have c19b1 : decide ((x3_1 ++ (⟨#[47]⟩ : ByteArray)).size + t177.size ≤ 9223372036854775807) = true := decide_eq_true c19; (try have c19b2 : (9223372036854775807 < (x3_1 ++ (⟨#[47]⟩ : ByteArray)).size + t177.size) = False := eq_false (Nat.not_lt.2 c19)); (try have c19b3 : (9223372036854775807 < x3_1.size + 1 + t177.size) = False := eq_false (by have h_ := Nat.not_lt.2 c19; simp only [ByteArray.size_append] at h_; exact h_)); have H' := am H; clear H; have hz20 := zf2 BK174.out; obtain ⟨i021, hi021, _, hsz21, _⟩ := info_parts info3; obtain ⟨A21, hcut21, hA21, hC21⟩ := print_mid_of (P := Tryd.prog) (Value.int .i64) 0 24 3 .i64 .i64 Tryd.underlying24 hi021 hsz21 A0_1 c0_1 l0_1 (ji14) (wrap64 ((wrap64 (x4_1 + 1)) * a0_0)) (da) (by first | omega | exact da) (da) HC0_1.out; have HR176 := am (Kd.C_of_reads (h1 := fun _ => rfl) (hA21 _ (Kd.reads_of_C HR0_1.out))); have HC176 := am hC21; clear hA21 hC21 hi021 hsz21; go_wp2_with (first | ((with_reducible refine gy 13 rfl ?_); refine goesL_ (some 32) rfl rfl Tryd.func13 (by kernel_rfl) rfl #[.slice A21 ((l0_1.take ((wrap64 ((wrap64 (x4_1 + 1)) * a0_0)) : Int).toNat).drop ((ji14) : Int).toNat).length (c0_1 - (ji14).toNat)] rfl (by (try simp only [List.map_toArray, List.map_cons, List.map_nil]); first | done | (rw [show ((l0_1.take ((wrap64 ((wrap64 (x4_1 + 1)) * a0_0)) : Int).toNat).drop ((ji14) : Int).toNat).length = ((wrap64 ((wrap64 (x4_1 + 1)) * a0_0)).toNat - (ji14).toNat) from (by rw [List.length_drop, List.length_take]; have h_ : ((wrap64 ((wrap64 (x4_1 + 1)) * a0_0)) : Int) ≤ (l0_1.length : Int) := da; omega)] <;> rfl) | (simp only [hji14]; rfl) | rfl | (simp only [List.length_drop, List.length_take]; rfl)) ?_; (with_reducible refine (spec_FormatCosts.calls kj2 _ _ ((l0_1.take ((wrap64 ((wrap64 (x4_1 + 1)) * a0_0)) : Int).toNat).drop ((ji14) : Int).toNat) t177 _ ?side1 ?side2 A18.out).mono ?_); (case side1 => exact cc (Kd.C_below HR176.out HB.out)); (case side2 => exact HC176.out); rintro e w22 ⟨rfl, hb⟩; refine ⟨_, rfl, ?_⟩; have n0_ := bk BK174 hb; have n1_ := hs HB hb; clear BK174 HB; revert n0_ n1_; intro BK174 HB; (try clear hb); (try clear hb2); (try clear hk); (try clear hi))); go_roundg kj2
            case measure => have := HK1.out; have := HJ2.out; omega
            case rel => exact ⟨((x3_1 ++ (⟨#[47]⟩ : ByteArray)) ++ t177), (wrap64 (x4_1 + 1)), (by first | rfl | (simp; done) | (simp [*]; done)), (by first | rfl | (simp; done) | (simp [*]; done)), H', ⟨by have := HK1.out; have := HJ2.out; omega⟩, ⟨kz BK174.out⟩, ⟨by exact bw HB.out⟩⟩
           ·rw [if_neg c19] at H; exact absurd H (by simp)
          ·rw [if_neg c17] at H; exact absurd H (by simp)
         ·rw [if_neg c16] at H; exact absurd H (by simp)
        ·rw [if_neg c15] at H; exact absurd H (by simp)
       ·rw [if_neg c13] at H; exact absurd H (by simp)
      ·rw [if_neg c12] at H; have c12b0 : decide (0 < x4_1) = false := decide_eq_false c12; clear c12; obtain ⟨ji23, hji23⟩ : ∃ j_ : Int, (wrap64 (x4_1 * a0_0)) = j_ := ⟨_, rfl⟩
       replace H : (if 0 ≤ (ji23) then (if (ji23) ≤ (wrap64 ((wrap64 (x4_1 + 1)) * a0_0)) then (if (wrap64 ((wrap64 (x4_1 + 1)) * a0_0)) ≤ (l0_1.length : Int) then ((spec_FormatCosts.f kj2 ((l0_1.take ((wrap64 ((wrap64 (x4_1 + 1)) * a0_0)) : Int).toNat).drop ((ji23) : Int).toNat)).bind fun t179 => (if x3_1.size + t179.size ≤ 9223372036854775807 then (spec_FormatMatrix.l0 kj2 (x3_1 ++ t179) (wrap64 (x4_1 + 1)) a0_0 l0_1) else (none))) else (none)) else (none)) else (none)) = some r := by first | (rw [hji23] at H; exact H) | (simp only [hji23] at H ⊢; exact H)
       have hji23w : (IntKind.i64.wrap (x4_1 * a0_0)) = ji23 := (i64_w _).trans hji23; by_cases c24 : 0 ≤ (ji23)
       ·rw [if_pos c24] at H; have c24b0 := eq_true c24; have c24b1 : decide (0 ≤ (ji23)) = true := decide_eq_true c24; clear c24; by_cases c25 : (ji23) ≤ (wrap64 ((wrap64 (x4_1 + 1)) * a0_0))
        ·rw [if_pos c25] at H; have c25b0 := eq_true c25; have c25b1 : decide ((ji23) ≤ (wrap64 ((wrap64 (x4_1 + 1)) * a0_0))) = true := decide_eq_true c25; by_cases c26 : (wrap64 ((wrap64 (x4_1 + 1)) * a0_0)) ≤ (l0_1.length : Int)
         ·rw [if_pos c26] at H; have c26b0 := eq_true c26; have c26b1 : decide ((wrap64 ((wrap64 (x4_1 + 1)) * a0_0)) ≤ (l0_1.length : Int)) = true := decide_eq_true c26; replace H := Option.bind_eq_some_iff.mp H; obtain ⟨t179, A270, H⟩ := H; (try dsimp only at H); have A27 := am A270; clear A270; by_cases c28 : x3_1.size + t179.size ≤ 9223372036854775807
          ·rw [if_pos c28] at H; have c28b0 := eq_true c28; have c28b1 : decide (x3_1.size + t179.size ≤ 9223372036854775807) = true := decide_eq_true c28; (try have c28b2 : (9223372036854775807 < x3_1.size + t179.size) = False := eq_false (Nat.not_lt.2 c28)); have H' := am H; clear H; have hz29 := zf2 BK174.out; obtain ⟨i030, hi030, _, hsz30, _⟩ := info_parts info3; obtain ⟨A30, hcut30, hA30, hC30⟩ := print_mid_of (P := Tryd.prog) (Value.int .i64) 0 24 3 .i64 .i64 Tryd.underlying24 hi030 hsz30 A0_1 c0_1 l0_1 (ji23) (wrap64 ((wrap64 (x4_1 + 1)) * a0_0)) (da) (by first | omega | exact da) (da) HC0_1.out; have HR178 := am (Kd.C_of_reads (h1 := fun _ => rfl) (hA30 _ (Kd.reads_of_C HR0_1.out))); have HC178 := am hC30; clear hA30 hC30 hi030 hsz30; go_wp2_with (first | ((with_reducible refine gy 13 rfl ?_); refine goesL_ (some 32) rfl rfl Tryd.func13 (by kernel_rfl) rfl #[.slice A30 ((l0_1.take ((wrap64 ((wrap64 (x4_1 + 1)) * a0_0)) : Int).toNat).drop ((ji23) : Int).toNat).length (c0_1 - (ji23).toNat)] rfl (by (try simp only [List.map_toArray, List.map_cons, List.map_nil]); first | done | (rw [show ((l0_1.take ((wrap64 ((wrap64 (x4_1 + 1)) * a0_0)) : Int).toNat).drop ((ji23) : Int).toNat).length = ((wrap64 ((wrap64 (x4_1 + 1)) * a0_0)).toNat - (ji23).toNat) from (by rw [List.length_drop, List.length_take]; have h_ : ((wrap64 ((wrap64 (x4_1 + 1)) * a0_0)) : Int) ≤ (l0_1.length : Int) := da; omega)] <;> rfl) | (simp only [hji23]; rfl) | rfl | (simp only [List.length_drop, List.length_take]; rfl)) ?_; (with_reducible refine (spec_FormatCosts.calls kj2 _ _ ((l0_1.take ((wrap64 ((wrap64 (x4_1 + 1)) * a0_0)) : Int).toNat).drop ((ji23) : Int).toNat) t179 _ ?side1 ?side2 A27.out).mono ?_); (case side1 => exact cc (Kd.C_below HR178.out HB.out)); (case side2 => exact HC178.out); rintro e w31 ⟨rfl, hb⟩; refine ⟨_, rfl, ?_⟩; have n0_ := bk BK174 hb; have n1_ := hs HB hb; clear BK174 HB; revert n0_ n1_; intro BK174 HB; (try clear hb); (try clear hb2); (try clear hk); (try clear hi))); go_roundg kj2
           case measure => have := HK1.out; have := HJ2.out; omega
           case rel => exact ⟨(x3_1 ++ t179), (wrap64 (x4_1 + 1)), (by first | rfl | (simp; done) | (simp [*]; done)), (by first | rfl | (simp; done) | (simp [*]; done)), H', ⟨by have := HK1.out; have := HJ2.out; omega⟩, ⟨kz BK174.out⟩, ⟨by exact bw HB.out⟩⟩
          ·rw [if_neg c28] at H; exact absurd H (by simp)
         ·rw [if_neg c26] at H; exact absurd H (by simp)
        ·rw [if_neg c25] at H; exact absurd H (by simp)
       ·rw [if_neg c24] at H; exact absurd H (by simp)
     ·replace c11 := Bool.eq_false_iff.mpr c11; subst c11
      have H1 : (some x3_1) = some r := by rw [if_neg (show ¬ (false = true) by decide)] at H; exact H
      clear H; have H := H1; clear H1; obtain rfl := Option.some.inj H; go_wp2; go_ret; exact ⟨by first | rfl | (simp [errW_none, errW_some] <;> rfl) | (simp [*, errW_none, errW_some] <;> rfl), by exact bw HB.out⟩

/-! ### laws_toMatrix: function 30 -/
def laws_toMatrix.f (k : Nat) (a0_0 : Int) (l0_1 : List Int) : Option (Int × List Int) := (laws_toIntS.f k l0_1).bind fun t183 => (some (a0_0, t183))
theorem laws_toMatrix.mono : ∀ a0 a1 k, LeO (laws_toMatrix.f k a0 a1) (laws_toMatrix.f (k + 1) a0 a1) := by
 intro a0 a1 k; unfold laws_toMatrix.f; repeat' first
   | (with_reducible exact laws_toIntS.mono _ _)
   | (with_reducible exact LeO.refl _)
   | (with_reducible exact LeO.none _)
   | (with_reducible refine LeO.ite ?_ ?_)
   | (with_reducible refine LeO.bind ?_ (fun _ => ?_))
   | exact laws_toIntS.mono _ _
   | exact LeO.none _
   | refine LeO.ite ?_ ?_
   | refine LeO.bind ?_ (fun _ => ?_)
set_option maxHeartbeats 8000000 in
set_option maxRecDepth 100000 in
theorem laws_toMatrix.calls (k : Nat) (a0_0 : Int) (A0_1 : Option Addr) (c0_1 : Nat) (l0_1 : List Int) (r1 : Int) (r2 : List Int) (w : World) (hr0_1 : Kd.C (Kd.int .i64) w A0_1 l0_1.length l0_1) (hc0_1 : l0_1.length ≤ c0_1) (h : laws_toMatrix.f k a0_0 l0_1 = some (r1, r2)) :
  Calls Tryd.prog 30 #[.agg #[.int .i64 a0_0, .slice A0_1 l0_1.length c0_1]] w fun e w' => ∃ v1_ : Value, e = .returned (.agg #[.int .i64 r1, v1_]) ∧ Kd.R (Kd.int .i64) 3 w' w.heap.size (fun _ => True) v1_ r2 ∧ Below w.heap.size w w' := by
 have hu41 := Tryd.underlying41; have hu44 := Tryd.underlying44; have HR0_1 := am hr0_1; have HC0_1 := am hc0_1; clear hr0_1 hc0_1; have HB := am (Below.refl w.heap.size w); have H : ((laws_toIntS.f k l0_1).bind fun t183 => (some (a0_0, t183))) = some (r1, r2) := h; clear h; replace H := Option.bind_eq_some_iff.mp H; obtain ⟨t183, A20, H⟩ := H; (try dsimp only at H); have A2 := am A20; clear A20; simp only [Option.some.injEq, Prod.mk.injEq] at H; obtain ⟨rfl, rfl⟩ := H; go_enter Tryd.func30, Tryd.ntmps30; go_wp2_with (first | ((with_reducible refine gx 1 rfl ?_); refine be (cs := #[.int .i64 a0_0, .slice A0_1 l0_1.length c0_1]) (t := 41) ?_; intro gb180 hg w3 hbox hb; have n0_ := hs HB hb; have n1_ := am (hbox); have n2_ := gs hg (bz HB.out); have n3_ := gs hg (bz HB.out); clear HB; revert n0_ n1_ n2_ n3_; intro HB BK180 GW180 GE180; clear hb hbox hg) | ((with_reducible refine gx 2 rfl ?_); refine be (cs := #[.int .i64 0, .slice none 0 0]) (t := 44) ?_; intro gb181 hg w4 hbox hb; have n0_ := bk BK180 hb; have n1_ := hs HB hb; have n2_ := am (hbox); have n3_ := gs hg (bw HB.out); have n4_ := gs hg (bw HB.out); have n5_ := nl hg (kz BK180.out); have n6_ := nr hg (kz BK180.out); clear BK180 HB; revert n0_ n1_ n2_ n3_ n4_ n5_ n6_; intro BK180 HB BK181 GW181 GE181 NB180_181 NB181_180; clear hb hbox hg) | ((with_reducible refine gx 3 rfl ?_); refine be (cs := #[.int .i64 0, .slice none 0 0]) (t := 44) ?_; intro gb182 hg w5 hbox hb; have n0_ := bk BK180 hb; have n1_ := bk BK181 hb; have n2_ := hs HB hb; have n3_ := am (hbox); have n4_ := gs hg (bw HB.out); have n5_ := gs hg (bw HB.out); have n6_ := nl hg (kz BK180.out); have n7_ := nr hg (kz BK180.out); have n8_ := nl hg (kz BK181.out); have n9_ := nr hg (kz BK181.out); clear BK180 BK181 HB; revert n0_ n1_ n2_ n3_ n4_ n5_ n6_ n7_ n8_ n9_; intro BK180 BK181 HB BK182 GW182 GE182 NB180_182 NB182_180 NB181_182 NB182_181; clear hb hbox hg; have hnb6 := NB180_181.out; have hnc6 := NB181_180.out; have hnb7 := NB180_182.out; have hnc7 := NB182_180.out; have hz8 := zf2 BK180.out; have hnb9 := NB182_181.out; have hnc9 := NB181_182.out; have hz10 := zf2 BK182.out) | ((with_reducible refine gy 14 rfl ?_); refine gl Tryd.func14 #[.slice A0_1 l0_1.length c0_1] ?_; (with_reducible refine (laws_toIntS.calls k _ _ l0_1 t183 _ ?side1 ?side2 A2.out).mono ?_); (case side1 => exact Kd.C_below HR0_1.out (bw HB.out)); (case side2 => exact HC0_1.out); rintro e w11 ⟨v184, rfl, ho0, hb⟩; refine ⟨_, rfl, ?_⟩; have n0_ := am (Kd.R_lower ho0 (below_size (bw HB.out))); have n1_ := am (blk_below (kf BK180.out) hb); have n2_ := am (blk_below (kf BK181.out) hb); have n3_ := am (blk_below (kp BK182.out) hb); have n4_ := hs HB hb; clear BK180 BK181 BK182 HB; revert n0_ n1_ n2_ n3_ n4_; intro HO185 BK180 BK181 BK182 HB; (try clear hb); (try clear hb2); (try clear hk); (try clear hi); (try clear ho0); obtain ⟨Ao12, co12, eo12⟩ := Kd.R_slice HO185.out; subst eo12; have hz13 := zf2 BK182.out; have hz14 := zf2 BK181.out)); refine bodyPost_ret (results_cell_row rfl _ _ gb181 44 #[.int .i64 a0_0, .slice Ao12 t183.length co12] (0, 0) _ rfl (kp BK181.out) Tryd.underlying44 rfl (by kernel_rfl)) rfl ?_; exact ⟨_, by first | rfl | (simp [errW_none, errW_some] <;> rfl) | (simp [*, errW_none, errW_some] <;> rfl), rq (Kd.R_mono (Kd.R_far (p := ⟨gb181, 1, none⟩) (Kd.R_far (p := ⟨gb181, 0, none⟩) (Kd.R_far (p := ⟨gb182, 1, none⟩) (Kd.R_types (Kd.R_types HO185.out BK182.out (by decide)) BK181.out (by decide)) (fun _ hk => hk.1.2) (.slice Ao12 t183.length co12)) (fun _ hk => hk.2) (.int .i64 a0_0)) (fun _ hk => hk.2) (.slice Ao12 t183.length co12)) (fun _ hk => trivial)), by exact bw HB.out⟩

/-! ### impl_MatrixValid_1: function 63 -/
def impl_MatrixValid_1.f (a0 : Int) : Option (Bool) := (impl_CostValid.f a0).bind fun t186 => (some (!t186))
set_option maxHeartbeats 8000000 in
set_option maxRecDepth 100000 in
theorem impl_MatrixValid_1.calls (a0 : Int) (r : Bool) (w : World) (h : impl_MatrixValid_1.f a0 = some r) :
  Calls Tryd.prog 63 #[.int .i64 a0] w fun e w' => e = .returned (.bool r) ∧ Drawn0 w w' := by
 have H : ((impl_CostValid.f a0).bind fun t186 => (some (!t186))) = some r := h; clear h; replace H := Option.bind_eq_some_iff.mp H; obtain ⟨t186, A20, H⟩ := H; (try dsimp only at H); have A2 := am A20; clear A20; obtain rfl := Option.some.inj H; go_enter Tryd.func63, Tryd.ntmps63; go_wp2_with (first | ((with_reducible refine gy 47 rfl ?_); refine gl Tryd.func47 #[.int .i64 a0] ?_; (with_reducible refine (impl_CostValid.calls a0 t186 _ A2.out).mono ?_); rintro e w' ⟨rfl, ⟨nd, rfl⟩⟩; refine ⟨_, rfl, ?_⟩)); go_ret; exact ⟨by first | rfl | (simp; done) | (simp [*]; done), by repeat (first | exact Drawn0.refl _ | apply Drawn0.step)⟩

/-! ### slices_IndexFunc_int_int_at_impl_MatrixValid_1: function 200001 -/
def slices_IndexFunc_int_int_at_impl_MatrixValid_1.l0 : Nat → List Int → Int → Int → Option (Int)
 | 0, _, _, _ => none
 | k + 1, x0, x7, x8 => if x8 < x7 then (if 0 ≤ x8 then (if x8 < (x0.length : Int) then ((impl_MatrixValid_1.f (rd x0 x8)).bind fun t188 => (if t188 = true then (some x8) else (slices_IndexFunc_int_int_at_impl_MatrixValid_1.l0 k x0 x7 (wrap64 (x8 + 1))))) else (none)) else (none)) else (some (-1))
def slices_IndexFunc_int_int_at_impl_MatrixValid_1.f (k : Nat) (l0 : List Int) : Option (Int) := slices_IndexFunc_int_int_at_impl_MatrixValid_1.l0 k l0 (l0.length : Int) 0
theorem slices_IndexFunc_int_int_at_impl_MatrixValid_1.mono_l : ∀ k, (∀ y0 y1 y2, LeO (slices_IndexFunc_int_int_at_impl_MatrixValid_1.l0 k y0 y1 y2) (slices_IndexFunc_int_int_at_impl_MatrixValid_1.l0 (k + 1) y0 y1 y2))
 | 0 => fun _ _ _ r h => by simp [slices_IndexFunc_int_int_at_impl_MatrixValid_1.l0] at h
 | k + 1 => by
  have ih0 := slices_IndexFunc_int_int_at_impl_MatrixValid_1.mono_l k
  ·intro y0 y1 y2; unfold slices_IndexFunc_int_int_at_impl_MatrixValid_1.l0; repeat' first
   | (with_reducible exact ih0 _ _ _)
   | (with_reducible exact LeO.refl _)
   | (with_reducible exact LeO.none _)
   | (with_reducible refine LeO.ite ?_ ?_)
   | (with_reducible refine LeO.bind ?_ (fun _ => ?_))
   | exact ih0 _ _ _
   | exact LeO.none _
   | refine LeO.ite ?_ ?_
   | refine LeO.bind ?_ (fun _ => ?_)
theorem slices_IndexFunc_int_int_at_impl_MatrixValid_1.mono : ∀ a0 k, LeO (slices_IndexFunc_int_int_at_impl_MatrixValid_1.f k a0) (slices_IndexFunc_int_int_at_impl_MatrixValid_1.f (k + 1) a0) := by
 intro a0 k; have ih0 := slices_IndexFunc_int_int_at_impl_MatrixValid_1.mono_l k; unfold slices_IndexFunc_int_int_at_impl_MatrixValid_1.f; repeat' first
   | (with_reducible exact ih0 _ _ _)
   | (with_reducible exact LeO.refl _)
   | (with_reducible exact LeO.none _)
   | (with_reducible refine LeO.ite ?_ ?_)
   | (with_reducible refine LeO.bind ?_ (fun _ => ?_))
   | exact ih0 _ _ _
   | exact LeO.none _
   | refine LeO.ite ?_ ?_
   | refine LeO.bind ?_ (fun _ => ?_)
set_option maxHeartbeats 8000000 in
set_option maxRecDepth 100000 in
theorem slices_IndexFunc_int_int_at_impl_MatrixValid_1.calls (k : Nat) (A0 : Option Addr) (c0 : Nat) (l0 : List Int) (r : Int) (w : World) (hr0 : Kd.C (Kd.int .i64) w A0 l0.length l0) (hc0 : l0.length ≤ c0) (h : slices_IndexFunc_int_int_at_impl_MatrixValid_1.f k l0 = some r) :
  Calls Tryd.prog 79 #[.slice A0 l0.length c0, .func (.func 63) #[] #[]] w fun e w' => e = .returned (.int .i64 r) ∧ Drawn0 w w' := by
 have HR0 := am hr0; have HC0 := am hc0; clear hr0 hc0; have H : (slices_IndexFunc_int_int_at_impl_MatrixValid_1.l0 k l0 (l0.length : Int) 0) = some r := h; clear h; have H' := am H; clear H; go_enter Tryd.func79, Tryd.ntmps79; go_wp2; go_loopg [8] k (fun kq v8 w' => ∃ (x8_1 : Int), v8 = .int .i64 x8_1 ∧ Aside0 (slices_IndexFunc_int_int_at_impl_MatrixValid_1.l0 kq l0 (l0.length : Int) x8_1 = some r) ∧ Aside0 (kq ≤ k) ∧ Drawn0 w w')
 case atStart => exact ⟨(0), (by first | rfl | (simp; done) | (simp [*]; done)), H', ⟨Nat.le_refl _⟩, by repeat (first | exact Drawn0.refl _ | apply Drawn0.step)⟩
 case round =>
  clear H'; obtain ⟨x8_1, rfl, HA, HK1, ⟨m1, rfl⟩⟩ := hrel
  cases gk with
  | zero => exact absurd HA.out (by simp [slices_IndexFunc_int_int_at_impl_MatrixValid_1.l0])
  | succ k1 =>
   have H := HA.out; clear HA; simp only [slices_IndexFunc_int_int_at_impl_MatrixValid_1.l0] at H; by_cases c2 : x8_1 < (l0.length : Int)
   ·rw [if_pos c2] at H; have c2b0 : decide (x8_1 < (l0.length : Int)) = true := decide_eq_true c2; clear c2; by_cases c3 : 0 ≤ x8_1
    ·rw [if_pos c3] at H; have c3b0 : decide (0 ≤ x8_1) = true := decide_eq_true c3; clear c3; by_cases c4 : x8_1 < (l0.length : Int)
     ·rw [if_pos c4] at H; have c4b0 : decide (x8_1 < (l0.length : Int)) = true := decide_eq_true c4; clear c4; replace H := Option.bind_eq_some_iff.mp H; obtain ⟨t188, A50, H⟩ := H; (try dsimp only at H); have A5 := am A50; clear A50; by_cases c6 : t188 = true
      ·subst c6
       have H1 : (some x8_1) = some r := by rw [if_pos rfl] at H; exact H
       clear H; have H := H1; clear H1; obtain rfl := Option.some.inj H; have p187 : 0 ≤ (x8_1 : Int) := da; have q187 : x8_1 < (l0.length : Int) := da; obtain ⟨ad187, e187, hx187_0⟩ := Kd.at_int HR0.out x8_1 p187 q187; cases e187; replace p187 := eq_true p187; replace q187 := eq_true q187; go_wp2_with (first | ((with_reducible refine gate_value 11 rfl ?_); refine goesV_ (some 16) rfl rfl Tryd.func63 (by kernel_rfl) rfl #[.int .i64 (rd l0 x8_1)] #[] #[.int .i64 (rd l0 x8_1)] rfl rfl (by (try simp only [List.map_toArray, List.map_cons, List.map_nil]); first | done | rfl | (simp only [List.length_drop, List.length_take]; rfl)) rfl ?_; (with_reducible refine (impl_MatrixValid_1.calls (rd l0 x8_1) true _ A5.out).mono ?_); rintro e w' ⟨rfl, ⟨nd, rfl⟩⟩; refine ⟨_, rfl, ?_⟩)); go_ret; exact ⟨by first | rfl | (simp; done) | (simp [*]; done), by repeat (first | exact Drawn0.refl _ | apply Drawn0.step)⟩
      ·replace c6 := Bool.eq_false_iff.mpr c6; subst c6
       have H1 : (slices_IndexFunc_int_int_at_impl_MatrixValid_1.l0 k1 l0 (l0.length : Int) (wrap64 (x8_1 + 1))) = some r := by rw [if_neg (show ¬ (false = true) by decide)] at H; exact H
       clear H; have H := H1; clear H1; have H' := am H; clear H; have p187 : 0 ≤ (x8_1 : Int) := da; have q187 : x8_1 < (l0.length : Int) := da; obtain ⟨ad187, e187, hx187_0⟩ := Kd.at_int HR0.out x8_1 p187 q187; cases e187; replace p187 := eq_true p187; replace q187 := eq_true q187; go_wp2_with (first | ((with_reducible refine gate_value 11 rfl ?_); refine goesV_ (some 16) rfl rfl Tryd.func63 (by kernel_rfl) rfl #[.int .i64 (rd l0 x8_1)] #[] #[.int .i64 (rd l0 x8_1)] rfl rfl (by (try simp only [List.map_toArray, List.map_cons, List.map_nil]); first | done | rfl | (simp only [List.length_drop, List.length_take]; rfl)) rfl ?_; (with_reducible refine (impl_MatrixValid_1.calls (rd l0 x8_1) false _ A5.out).mono ?_); rintro e w' ⟨rfl, ⟨nd, rfl⟩⟩; refine ⟨_, rfl, ?_⟩)); go_roundg k1
       case measure => have := HK1.out; omega
       case rel => exact ⟨(wrap64 (x8_1 + 1)), (by first | rfl | (simp; done) | (simp [*]; done)), H', ⟨by have := HK1.out; omega⟩, by repeat (first | exact Drawn0.refl _ | apply Drawn0.step)⟩
     ·rw [if_neg c4] at H; exact absurd H (by simp)
    ·rw [if_neg c3] at H; exact absurd H (by simp)
   ·rw [if_neg c2] at H; have c2b0 : decide (x8_1 < (l0.length : Int)) = false := decide_eq_false c2; clear c2; obtain rfl := Option.some.inj H; go_wp2; go_ret; exact ⟨by first | rfl | (simp; done) | (simp [*]; done), by repeat (first | exact Drawn0.refl _ | apply Drawn0.step)⟩

/-! ### slices_ContainsFunc_int_int_at_impl_MatrixValid_1: function 200000 -/
def slices_ContainsFunc_int_int_at_impl_MatrixValid_1.f (k : Nat) (l0 : List Int) : Option (Bool) := (slices_IndexFunc_int_int_at_impl_MatrixValid_1.f k l0).bind fun t189 => (some (decide (t189 ≥ 0)))
theorem slices_ContainsFunc_int_int_at_impl_MatrixValid_1.mono : ∀ a0 k, LeO (slices_ContainsFunc_int_int_at_impl_MatrixValid_1.f k a0) (slices_ContainsFunc_int_int_at_impl_MatrixValid_1.f (k + 1) a0) := by
 intro a0 k; unfold slices_ContainsFunc_int_int_at_impl_MatrixValid_1.f; repeat' first
   | (with_reducible exact slices_IndexFunc_int_int_at_impl_MatrixValid_1.mono _ _)
   | (with_reducible exact LeO.refl _)
   | (with_reducible exact LeO.none _)
   | (with_reducible refine LeO.ite ?_ ?_)
   | (with_reducible refine LeO.bind ?_ (fun _ => ?_))
   | exact slices_IndexFunc_int_int_at_impl_MatrixValid_1.mono _ _
   | exact LeO.none _
   | refine LeO.ite ?_ ?_
   | refine LeO.bind ?_ (fun _ => ?_)
set_option maxHeartbeats 8000000 in
set_option maxRecDepth 100000 in
theorem slices_ContainsFunc_int_int_at_impl_MatrixValid_1.calls (k : Nat) (A0 : Option Addr) (c0 : Nat) (l0 : List Int) (r : Bool) (w : World) (hr0 : Kd.C (Kd.int .i64) w A0 l0.length l0) (hc0 : l0.length ≤ c0) (h : slices_ContainsFunc_int_int_at_impl_MatrixValid_1.f k l0 = some r) :
  Calls Tryd.prog 62 #[.slice A0 l0.length c0, .func (.func 63) #[] #[]] w fun e w' => e = .returned (.bool r) ∧ Drawn0 w w' := by
 have HR0 := am hr0; have HC0 := am hc0; clear hr0 hc0; have H : ((slices_IndexFunc_int_int_at_impl_MatrixValid_1.f k l0).bind fun t189 => (some (decide (t189 ≥ 0)))) = some r := h; clear h; replace H := Option.bind_eq_some_iff.mp H; obtain ⟨t189, A20, H⟩ := H; (try dsimp only at H); have A2 := am A20; clear A20; obtain rfl := Option.some.inj H; go_enter Tryd.func62, Tryd.ntmps62; go_wp2_with (first | ((with_reducible refine gy 79 rfl ?_); refine gl Tryd.func79 #[.slice A0 l0.length c0, .func (.func 63) #[] #[]] ?_; (with_reducible refine (slices_IndexFunc_int_int_at_impl_MatrixValid_1.calls k _ _ l0 t189 _ ?side1 ?side2 A2.out).mono ?_); (case side1 => exact cc HR0.out); (case side2 => exact HC0.out); rintro e w' ⟨rfl, ⟨nd, rfl⟩⟩; refine ⟨_, rfl, ?_⟩)); go_ret; exact ⟨by first | rfl | (simp; done) | (simp [*]; done), by repeat (first | exact Drawn0.refl _ | apply Drawn0.step)⟩

/-! ### impl_MatrixValid: function 38 -/
def impl_MatrixValid.f (k : Nat) (a0_0 : Int) (l0_1 : List Int) : Option (Bool) := if a0_0 < 1 then (some false) else (if a0_0 > 4 then (some false) else (if (l0_1.length : Int) = (wrap64 (a0_0 * a0_0)) then ((slices_ContainsFunc_int_int_at_impl_MatrixValid_1.f k l0_1).bind fun t191 => (some (!t191))) else (some false)))
theorem impl_MatrixValid.mono : ∀ a0 a1 k, LeO (impl_MatrixValid.f k a0 a1) (impl_MatrixValid.f (k + 1) a0 a1) := by
 intro a0 a1 k; unfold impl_MatrixValid.f; repeat' first
   | (with_reducible exact slices_ContainsFunc_int_int_at_impl_MatrixValid_1.mono _ _)
   | (with_reducible exact LeO.refl _)
   | (with_reducible exact LeO.none _)
   | (with_reducible refine LeO.ite ?_ ?_)
   | (with_reducible refine LeO.bind ?_ (fun _ => ?_))
   | exact slices_ContainsFunc_int_int_at_impl_MatrixValid_1.mono _ _
   | exact LeO.none _
   | refine LeO.ite ?_ ?_
   | refine LeO.bind ?_ (fun _ => ?_)
set_option maxHeartbeats 8000000 in
set_option maxRecDepth 100000 in
theorem impl_MatrixValid.calls (k : Nat) (a0_0 : Int) (A0_1 : Option Addr) (c0_1 : Nat) (l0_1 : List Int) (r : Bool) (w : World) (hr0_1 : Kd.C (Kd.int .i64) w A0_1 l0_1.length l0_1) (hc0_1 : l0_1.length ≤ c0_1) (h : impl_MatrixValid.f k a0_0 l0_1 = some r) :
  Calls Tryd.prog 38 #[.agg #[.int .i64 a0_0, .slice A0_1 l0_1.length c0_1]] w fun e w' => e = .returned (.bool r) ∧ Below w.heap.size w w' := by
 have hu44 := Tryd.underlying44; have HR0_1 := am hr0_1; have HC0_1 := am hc0_1; clear hr0_1 hc0_1; have HB := am (Below.refl w.heap.size w); have H : (if a0_0 < 1 then (some false) else (if a0_0 > 4 then (some false) else (if (l0_1.length : Int) = (wrap64 (a0_0 * a0_0)) then ((slices_ContainsFunc_int_int_at_impl_MatrixValid_1.f k l0_1).bind fun t191 => (some (!t191))) else (some false)))) = some r := h; clear h; by_cases c2 : a0_0 < 1
 ·rw [if_pos c2] at H; have c2b0 : decide (a0_0 < 1) = true := decide_eq_true c2; clear c2; obtain rfl := Option.some.inj H; go_enter Tryd.func38, Tryd.ntmps38; go_wp2_with (first | ((with_reducible refine gx 1 rfl ?_); (try (refine gate_guard (by rfl) ?_; dsimp only)); refine be (cs := #[.int .i64 a0_0, .slice A0_1 l0_1.length c0_1]) (t := 44) ?_; intro gb190 hg w3 hbox hb; have n0_ := hs HB hb; have n1_ := am (hbox); have n2_ := gs hg (bz HB.out); have n3_ := gs hg (bz HB.out); clear HB; revert n0_ n1_ n2_ n3_; intro HB BK190 GW190 GE190; clear hb hbox hg; have hz4 := zf2 BK190.out)); go_ret; exact ⟨by first | rfl | (simp [errW_none, errW_some] <;> rfl) | (simp [*, errW_none, errW_some] <;> rfl), by exact bw HB.out⟩
 ·rw [if_neg c2] at H; have c2b0 : decide (a0_0 < 1) = false := decide_eq_false c2; clear c2; by_cases c5 : a0_0 > 4
  ·rw [if_pos c5] at H; have c5b0 : decide (4 < a0_0) = true := decide_eq_true c5; clear c5; obtain rfl := Option.some.inj H; go_enter Tryd.func38, Tryd.ntmps38; go_wp2_with (first | ((with_reducible refine gx 1 rfl ?_); (try (refine gate_guard (by rfl) ?_; dsimp only)); refine be (cs := #[.int .i64 a0_0, .slice A0_1 l0_1.length c0_1]) (t := 44) ?_; intro gb190 hg w6 hbox hb; have n0_ := hs HB hb; have n1_ := am (hbox); have n2_ := gs hg (bz HB.out); have n3_ := gs hg (bz HB.out); clear HB; revert n0_ n1_ n2_ n3_; intro HB BK190 GW190 GE190; clear hb hbox hg; have hz7 := zf2 BK190.out)); go_ret; exact ⟨by first | rfl | (simp [errW_none, errW_some] <;> rfl) | (simp [*, errW_none, errW_some] <;> rfl), by exact bw HB.out⟩
  ·rw [if_neg c5] at H; have c5b0 : decide (4 < a0_0) = false := decide_eq_false c5; clear c5; by_cases c8 : (l0_1.length : Int) = (wrap64 (a0_0 * a0_0))
   ·rw [if_pos c8] at H; have c8b0 : ((l0_1.length : Int) == (wrap64 (a0_0 * a0_0))) = true := beq_iff_eq.mpr c8; have c8b1 : ((l0_1.length : Int) != (wrap64 (a0_0 * a0_0))) = false := bne_eq_false_iff_eq.mpr c8; clear c8; replace H := Option.bind_eq_some_iff.mp H; obtain ⟨t191, A90, H⟩ := H; (try dsimp only at H); have A9 := am A90; clear A90; obtain rfl := Option.some.inj H; go_enter Tryd.func38, Tryd.ntmps38; go_wp2_with (first | ((with_reducible refine gx 1 rfl ?_); (try (refine gate_guard (by rfl) ?_; dsimp only)); refine be (cs := #[.int .i64 a0_0, .slice A0_1 l0_1.length c0_1]) (t := 44) ?_; intro gb190 hg w10 hbox hb; have n0_ := hs HB hb; have n1_ := am (hbox); have n2_ := gs hg (bz HB.out); have n3_ := gs hg (bz HB.out); clear HB; revert n0_ n1_ n2_ n3_; intro HB BK190 GW190 GE190; clear hb hbox hg; have hz11 := zf2 BK190.out) | ((with_reducible refine gy 62 rfl ?_); refine gl Tryd.func62 #[.slice A0_1 l0_1.length c0_1, .func (.func 63) #[] #[]] ?_; (with_reducible refine (slices_ContainsFunc_int_int_at_impl_MatrixValid_1.calls k _ _ l0_1 t191 _ ?side1 ?side2 A9.out).mono ?_); (case side1 => exact cc (Kd.C_below HR0_1.out HB.out)); (case side2 => exact HC0_1.out); rintro e w' ⟨rfl, ⟨nd, rfl⟩⟩; refine ⟨_, rfl, ?_⟩)); go_ret; exact ⟨by first | rfl | (simp [errW_none, errW_some] <;> rfl) | (simp [*, errW_none, errW_some] <;> rfl), by exact bw HB.out⟩
   ·rw [if_neg c8] at H; have c8b0 : ((l0_1.length : Int) == (wrap64 (a0_0 * a0_0))) = false := beq_eq_false_iff_ne.mpr c8; have c8b1 : ((l0_1.length : Int) != (wrap64 (a0_0 * a0_0))) = true := bne_iff_ne.mpr c8; obtain rfl := Option.some.inj H; go_enter Tryd.func38, Tryd.ntmps38; go_wp2_with (first | ((with_reducible refine gx 1 rfl ?_); (try (refine gate_guard (by rfl) ?_; dsimp only)); refine be (cs := #[.int .i64 a0_0, .slice A0_1 l0_1.length c0_1]) (t := 44) ?_; intro gb190 hg w12 hbox hb; have n0_ := hs HB hb; have n1_ := am (hbox); have n2_ := gs hg (bz HB.out); have n3_ := gs hg (bz HB.out); clear HB; revert n0_ n1_ n2_ n3_; intro HB BK190 GW190 GE190; clear hb hbox hg; have hz13 := zf2 BK190.out)); go_ret; exact ⟨by first | rfl | (simp [errW_none, errW_some] <;> rfl) | (simp [*, errW_none, errW_some] <;> rfl), by exact bw HB.out⟩

/-! ### impl_rows_at_impl_FormatCosts: function 200002 -/
def impl_rows_at_impl_FormatCosts.l0 : Nat → List ByteArray → Int → Int → Int → List Int → Option (ByteArray)
 | 0, _, _, _, _, _ => none
 | k + 1, x5, x9, x10, x193000, x193001 => if x10 < x9 then (if 0 ≤ (wrap64 (x10 * x193000)) then (if (wrap64 (x10 * x193000)) ≤ (wrap64 ((wrap64 (x10 + 1)) * x193000)) then (if (wrap64 ((wrap64 (x10 + 1)) * x193000)) ≤ (x193001.length : Int) then ((impl_FormatCosts.f k ((x193001.take ((wrap64 ((wrap64 (x10 + 1)) * x193000)) : Int).toNat).drop ((wrap64 (x10 * x193000)) : Int).toNat)).bind fun t197 => (if x5.length < 8796093022208 then (impl_rows_at_impl_FormatCosts.l0 k (x5 ++ [t197]) x9 (wrap64 (x10 + 1)) x193000 x193001) else (none))) else (none)) else (none)) else (none)) else ((strings_Join.f x5 (⟨#[47]⟩ : ByteArray)).bind fun t201 => (some t201))
def impl_rows_at_impl_FormatCosts.f (k : Nat) (a0_0 : Int) (l0_1 : List Int) : Option (ByteArray) := impl_rows_at_impl_FormatCosts.l0 k (([] : List ByteArray)) a0_0 0 a0_0 l0_1
theorem impl_rows_at_impl_FormatCosts.mono_l : ∀ k, (∀ y0 y1 y2 y3 y4, LeO (impl_rows_at_impl_FormatCosts.l0 k y0 y1 y2 y3 y4) (impl_rows_at_impl_FormatCosts.l0 (k + 1) y0 y1 y2 y3 y4))
 | 0 => fun _ _ _ _ _ r h => by simp [impl_rows_at_impl_FormatCosts.l0] at h
 | k + 1 => by
  have ih0 := impl_rows_at_impl_FormatCosts.mono_l k
  ·intro y0 y1 y2 y3 y4; unfold impl_rows_at_impl_FormatCosts.l0; repeat' first
   | (with_reducible exact ih0 _ _ _ _ _)
   | (with_reducible exact impl_FormatCosts.mono _ _)
   | (with_reducible exact LeO.refl _)
   | (with_reducible exact LeO.none _)
   | (with_reducible refine LeO.ite ?_ ?_)
   | (with_reducible refine LeO.bind ?_ (fun _ => ?_))
   | exact ih0 _ _ _ _ _
   | exact impl_FormatCosts.mono _ _
   | exact LeO.none _
   | refine LeO.ite ?_ ?_
   | refine LeO.bind ?_ (fun _ => ?_)
theorem impl_rows_at_impl_FormatCosts.mono : ∀ a0 a1 k, LeO (impl_rows_at_impl_FormatCosts.f k a0 a1) (impl_rows_at_impl_FormatCosts.f (k + 1) a0 a1) := by
 intro a0 a1 k; have ih0 := impl_rows_at_impl_FormatCosts.mono_l k; unfold impl_rows_at_impl_FormatCosts.f; repeat' first
   | (with_reducible exact ih0 _ _ _ _ _)
   | (with_reducible exact impl_FormatCosts.mono _ _)
   | (with_reducible exact LeO.refl _)
   | (with_reducible exact LeO.none _)
   | (with_reducible refine LeO.ite ?_ ?_)
   | (with_reducible refine LeO.bind ?_ (fun _ => ?_))
   | exact ih0 _ _ _ _ _
   | exact impl_FormatCosts.mono _ _
   | exact LeO.none _
   | refine LeO.ite ?_ ?_
   | refine LeO.bind ?_ (fun _ => ?_)
set_option maxHeartbeats 8000000 in
set_option maxRecDepth 100000 in
theorem impl_rows_at_impl_FormatCosts.calls (k : Nat) (a0_0 : Int) (A0_1 : Option Addr) (c0_1 : Nat) (l0_1 : List Int) (r : ByteArray) (w : World) (hr0_1 : Kd.C (Kd.int .i64) w A0_1 l0_1.length l0_1) (hc0_1 : l0_1.length ≤ c0_1) (h : impl_rows_at_impl_FormatCosts.f k a0_0 l0_1 = some r) (hD : Door w) :
  Calls Tryd.prog 60 #[.agg #[.int .i64 a0_0, .slice A0_1 l0_1.length c0_1], .func (.func 15) #[] #[]] w fun e w' => e = .returned (.string r) ∧ Below w.heap.size w w' := by
 have HD := am hD; clear hD; have hu44 := Tryd.underlying44; have HR0_1 := am hr0_1; have HC0_1 := am hc0_1; clear hr0_1 hc0_1; have HB := am (Below.refl w.heap.size w); have H : (impl_rows_at_impl_FormatCosts.l0 k (([] : List ByteArray)) a0_0 0 a0_0 l0_1) = some r := h; clear h; obtain ⟨y193, hy193⟩ : ∃ y_ : List ByteArray, y_ = (([] : List ByteArray)) := ⟨_, rfl⟩
 replace H : (impl_rows_at_impl_FormatCosts.l0 k y193 a0_0 0 a0_0 l0_1) = some r := by first | (rw [hy193]; with_reducible exact H) | (have H2_ := (Option.bind_some _ _).symm.trans H; rw [hy193]; with_reducible exact H2_) | (have H2_ := (Option.bind_some _ _).symm.trans H; with_reducible exact H2_) | with_reducible exact H | (rw [hy193]; exact H) | exact H
 have Ny193 := am hy193; clear hy193; have H' := am H; clear H; go_enter Tryd.func60, Tryd.ntmps60; go_wp2_with (first | ((with_reducible refine gx 2 rfl ?_); refine be (cs := #[.int .i64 a0_0, .slice A0_1 l0_1.length c0_1]) (t := 44) ?_; intro gb192 hg w2 hbox hb; have n0_ := hs HB hb; have n1_ := am (hbox); have n2_ := gs hg (bz HB.out); have n3_ := gs hg (bz HB.out); clear HB; revert n0_ n1_ n2_ n3_; intro HB BK192 GW192 GE192; clear hb hbox hg) | ((with_reducible refine gx 7 rfl ?_); refine Kd.R_lit Kd.string _ 9 ?hg (N := 7) ?hd (xs := ([] : List ByteArray)) (inner := []) (ok := fun _ => True) (okp := fun _ => True) ?hr ?hp (fun _ hk => hk) trivial (Below.refl _ _) (Nat.le_refl _) (by simp) ?_; (case hd => rfl); (case hg => rfl); (case hr => first | (go_simp; done) | (go_simp; rfl)); (case hp => exact (Reps.none _ _)); intro v194 w3 ho4 hb hg_ hnew_; clear hg_ hnew_; (first | rw [← Ny193.out] at ho4 | (simp only [Int.reduceToNat] at ho4; rw [← Ny193.out] at ho4)); have n0_ := am (Kd.R_lower ho4 (below_size (bw HB.out))); have n1_ := bk BK192 hb; have n2_ := hs HB hb; clear BK192 HB; revert n0_ n1_ n2_; intro HO195 BK192 HB; clear hb ho4; have hz5 := zf2 BK192.out)); go_loopg [5, 10] k (fun kq v5 v10 w' => ∃ (x5_1 : List ByteArray) (x10_1 : Int), v10 = .int .i64 x10_1 ∧ Aside0 (impl_rows_at_impl_FormatCosts.l0 kq x5_1 a0_0 x10_1 a0_0 l0_1 = some r) ∧ Aside0 (kq ≤ k) ∧ Aside0 (Kd.R Kd.string 9 w' w.heap.size (fun _ => True) v5 x5_1) ∧ Aside0 (w'.heap[gb192]? = some (.cells #[.int .i64 a0_0, (.slice A0_1 l0_1.length c0_1)] 44 (0, 0))) ∧ Aside0 (Below w.heap.size w w'))
 case atStart => exact ⟨(y193), (0), (by first | rfl | (simp; done) | (simp [*]; done)), H', ⟨Nat.le_refl _⟩, ⟨rz HO195.out⟩, ⟨kz BK192.out⟩, ⟨by exact bw HB.out⟩⟩
 case round =>
  clear H'; (try clear c2); (try clear p2); obtain ⟨x5_1, x10_1, rfl, HA, HK1, HO_5, BK192, HB⟩ := hrel
  cases gk with
  | zero => exact absurd HA.out (by simp [impl_rows_at_impl_FormatCosts.l0])
  | succ k1 =>
   have H := HA.out; clear HA; simp only [impl_rows_at_impl_FormatCosts.l0] at H; by_cases c6 : x10_1 < a0_0
   ·rw [if_pos c6] at H; have c6b0 : decide (x10_1 < a0_0) = true := decide_eq_true c6; clear c6; obtain ⟨ji7, hji7⟩ : ∃ j_ : Int, (wrap64 (x10_1 * a0_0)) = j_ := ⟨_, rfl⟩
    replace H : (if 0 ≤ (ji7) then (if (ji7) ≤ (wrap64 ((wrap64 (x10_1 + 1)) * a0_0)) then (if (wrap64 ((wrap64 (x10_1 + 1)) * a0_0)) ≤ (l0_1.length : Int) then ((impl_FormatCosts.f k1 ((l0_1.take ((wrap64 ((wrap64 (x10_1 + 1)) * a0_0)) : Int).toNat).drop ((ji7) : Int).toNat)).bind fun t197 => (if x5_1.length < 8796093022208 then (impl_rows_at_impl_FormatCosts.l0 k1 (x5_1 ++ [t197]) a0_0 (wrap64 (x10_1 + 1)) a0_0 l0_1) else (none))) else (none)) else (none)) else (none)) = some r := by first | (rw [hji7] at H; exact H) | (simp only [hji7] at H ⊢; exact H)
    have hji7w : (IntKind.i64.wrap (x10_1 * a0_0)) = ji7 := (i64_w _).trans hji7; by_cases c8 : 0 ≤ (ji7)
    ·rw [if_pos c8] at H; have c8b0 := eq_true c8; have c8b1 : decide (0 ≤ (ji7)) = true := decide_eq_true c8; clear c8; by_cases c9 : (ji7) ≤ (wrap64 ((wrap64 (x10_1 + 1)) * a0_0))
     ·rw [if_pos c9] at H; have c9b0 := eq_true c9; have c9b1 : decide ((ji7) ≤ (wrap64 ((wrap64 (x10_1 + 1)) * a0_0))) = true := decide_eq_true c9; by_cases c10 : (wrap64 ((wrap64 (x10_1 + 1)) * a0_0)) ≤ (l0_1.length : Int)
      ·rw [if_pos c10] at H; have c10b0 := eq_true c10; have c10b1 : decide ((wrap64 ((wrap64 (x10_1 + 1)) * a0_0)) ≤ (l0_1.length : Int)) = true := decide_eq_true c10; replace H := Option.bind_eq_some_iff.mp H; obtain ⟨t197, A110, H⟩ := H; (try dsimp only at H); have A11 := am A110; clear A110; by_cases c12 : x5_1.length < 8796093022208
       ·rw [if_pos c12] at H; have LMc12 := am c12; clear c12; obtain ⟨y198, hy198⟩ : ∃ y_ : List ByteArray, y_ = (x5_1 ++ [t197]) := ⟨_, rfl⟩
        replace H : (impl_rows_at_impl_FormatCosts.l0 k1 y198 a0_0 (wrap64 (x10_1 + 1)) a0_0 l0_1) = some r := by first | (rw [hy198]; with_reducible exact H) | (have H2_ := (Option.bind_some _ _).symm.trans H; rw [hy198]; with_reducible exact H2_) | (have H2_ := (Option.bind_some _ _).symm.trans H; with_reducible exact H2_) | with_reducible exact H | (rw [hy198]; exact H) | exact H
        have Ny198 := am hy198; clear hy198; have H' := am H; clear H; have hz13 := zf2 BK192.out; obtain ⟨i014, hi014, _, hsz14, _⟩ := info_parts info3; obtain ⟨A14, hcut14, hA14, hC14⟩ := print_mid_of (P := Tryd.prog) (Value.int .i64) 0 24 3 .i64 .i64 Tryd.underlying24 hi014 hsz14 A0_1 c0_1 l0_1 (ji7) (wrap64 ((wrap64 (x10_1 + 1)) * a0_0)) (da) (by first | omega | exact da) (da) HC0_1.out; have HR196 := am (Kd.C_of_reads (h1 := fun _ => rfl) (hA14 _ (Kd.reads_of_C HR0_1.out))); have HC196 := am hC14; clear hA14 hC14 hi014 hsz14; go_wp2_with (first | ((with_reducible refine gate_value 14 rfl ?_); refine goesV_ (some 27) rfl rfl Tryd.func15 (by kernel_rfl) rfl #[.slice A14 ((l0_1.take ((wrap64 ((wrap64 (x10_1 + 1)) * a0_0)) : Int).toNat).drop ((ji7) : Int).toNat).length (c0_1 - (ji7).toNat)] #[] #[.slice A14 ((l0_1.take ((wrap64 ((wrap64 (x10_1 + 1)) * a0_0)) : Int).toNat).drop ((ji7) : Int).toNat).length (c0_1 - (ji7).toNat)] rfl rfl (by (try simp only [List.map_toArray, List.map_cons, List.map_nil]); first | done | (rw [show ((l0_1.take ((wrap64 ((wrap64 (x10_1 + 1)) * a0_0)) : Int).toNat).drop ((ji7) : Int).toNat).length = ((wrap64 ((wrap64 (x10_1 + 1)) * a0_0)).toNat - (ji7).toNat) from (by rw [List.length_drop, List.length_take]; have h_ : ((wrap64 ((wrap64 (x10_1 + 1)) * a0_0)) : Int) ≤ (l0_1.length : Int) := da; omega)] <;> rfl) | (simp only [hji7]; rfl) | rfl | (simp only [List.length_drop, List.length_take]; rfl)) rfl ?_; (with_reducible refine (impl_FormatCosts.calls k1 _ _ ((l0_1.take ((wrap64 ((wrap64 (x10_1 + 1)) * a0_0)) : Int).toNat).drop ((ji7) : Int).toNat) t197 _ ?side1 ?side2 A11.out ?sideD).mono ?_); (case sideD => exact door_up HD.out (bw HB.out)); (case side1 => exact cc (Kd.C_below HR196.out HB.out)); (case side2 => exact HC196.out); rintro e w15 ⟨rfl, hb⟩; refine ⟨_, rfl, ?_⟩; have n0_ := rb HO_5 hb; have n1_ := bk BK192 hb; have n2_ := hs HB hb; clear HO_5 BK192 HB; revert n0_ n1_ n2_; intro HO_5 BK192 HB; (try clear hb); (try clear hb2); (try clear hk); (try clear hi)) | ((with_reducible refine gate_builtin (b := .append) (xs := #[.tmp 13, .tmp 28]) rfl ?_); at_builtin; refine Kd.R_append Kd.string (w0 := w) w.heap.size rfl (.tmp 13) (.tmp 28) 56 9 (.string ⟨#[]⟩) 16 rfl Tryd.underlying56 info9 rfl (by decide) (by omega) u5 x5_1 t197 [.string t197] (fun _ => True) (fun _ => False) rfl rfl ?aP (fun _ hk => hk.elim) ?aF ?aO ?aB ?aS ?aL ?_; (case aP => exact rfl); (case aB => exact (bw HB.out)); (case aF => exact (fun _ _ => trivial)); (case aO => exact (rz HO_5.out)); (case aS => exact (below_size (bw HB.out))); (case aL => have := LMc12.out; omega); intro v199 w16 ho hb hg hat; rw [← Ny198.out] at ho; have n0_ := am (blk_grown (kz BK192.out) hg (Kd.R_ne HO_5.out BK192.out (by decide))); have n1_ := am (hb); have n2_ := am (ho); clear BK192 HB HO_5; revert n0_ n1_ n2_; intro BK192 HB HO200; clear ho hb hg hat)); go_roundg k1
        case measure => have := HK1.out; omega
        case rel => exact ⟨(y198), (wrap64 (x10_1 + 1)), (by first | rfl | (simp; done) | (simp [*]; done)), H', ⟨by have := HK1.out; omega⟩, ⟨rz HO200.out⟩, ⟨kz BK192.out⟩, ⟨by exact bw HB.out⟩⟩
       ·rw [if_neg c12] at H; exact absurd H (by simp)
      ·rw [if_neg c10] at H; exact absurd H (by simp)
     ·rw [if_neg c9] at H; exact absurd H (by simp)
    ·rw [if_neg c8] at H; exact absurd H (by simp)
   ·rw [if_neg c6] at H; have c6b0 : decide (x10_1 < a0_0) = false := decide_eq_false c6; clear c6; replace H := Option.bind_eq_some_iff.mp H; obtain ⟨t201, A170, H⟩ := H; (try dsimp only at H); have A17 := am A170; clear A170; obtain rfl := Option.some.inj H; obtain ⟨Ao18, co18, eo18⟩ := Kd.R_slice HO_5.out; subst eo18; go_wp2_with (first | ((with_reducible refine gy 49 rfl ?_); refine gl Tryd.func49 #[.slice Ao18 x5_1.length co18, .string (⟨#[47]⟩ : ByteArray)] ?_; (with_reducible refine (strings_Join.calls _ _ x5_1 (⟨#[47]⟩ : ByteArray) t201 _ ?side1 ?side2 A17.out ?sideP).mono ?_); (case sideP => exact plain_any (by assumption)); (case side1 => exact cc ((Kd.R_reads' HO_5.out).2.2)); (case side2 => exact (Kd.R_reads' HO_5.out).2.1); rintro e w19 ⟨rfl, hb⟩; refine ⟨_, rfl, ?_⟩; have n0_ := rb HO_5 hb; have n1_ := bk BK192 hb; have n2_ := hs HB hb; clear HO_5 BK192 HB; revert n0_ n1_ n2_; intro HO_5 BK192 HB; (try clear hb); (try clear hb2); (try clear hk); (try clear hi))); go_ret; exact ⟨by first | rfl | (simp [errW_none, errW_some] <;> rfl) | (simp [*, errW_none, errW_some] <;> rfl), by exact bw HB.out⟩

/-! ### impl_FormatMatrix: function 31 -/
def impl_FormatMatrix.f (k : Nat) (a0_0 : Int) (l0_1 : List Int) : Option (ByteArray) := (impl_MatrixValid.f k a0_0 l0_1).bind fun t203 => (if t203 = true then ((impl_rows_at_impl_FormatCosts.f k a0_0 l0_1).bind fun t204 => (some t204)) else (some (⟨#[]⟩ : ByteArray)))
theorem impl_FormatMatrix.mono : ∀ a0 a1 k, LeO (impl_FormatMatrix.f k a0 a1) (impl_FormatMatrix.f (k + 1) a0 a1) := by
 intro a0 a1 k; unfold impl_FormatMatrix.f; repeat' first
   | (with_reducible exact impl_MatrixValid.mono _ _ _)
   | (with_reducible exact impl_rows_at_impl_FormatCosts.mono _ _ _)
   | (with_reducible exact LeO.refl _)
   | (with_reducible exact LeO.none _)
   | (with_reducible refine LeO.ite ?_ ?_)
   | (with_reducible refine LeO.bind ?_ (fun _ => ?_))
   | exact impl_MatrixValid.mono _ _ _
   | exact impl_rows_at_impl_FormatCosts.mono _ _ _
   | exact LeO.none _
   | refine LeO.ite ?_ ?_
   | refine LeO.bind ?_ (fun _ => ?_)
set_option maxHeartbeats 8000000 in
set_option maxRecDepth 100000 in
theorem impl_FormatMatrix.calls (k : Nat) (a0_0 : Int) (A0_1 : Option Addr) (c0_1 : Nat) (l0_1 : List Int) (r : ByteArray) (w : World) (hr0_1 : Kd.C (Kd.int .i64) w A0_1 l0_1.length l0_1) (hc0_1 : l0_1.length ≤ c0_1) (h : impl_FormatMatrix.f k a0_0 l0_1 = some r) (hD : Door w) :
  Calls Tryd.prog 31 #[.agg #[.int .i64 a0_0, .slice A0_1 l0_1.length c0_1]] w fun e w' => e = .returned (.string r) ∧ Below w.heap.size w w' := by
 have HD := am hD; clear hD; have hu44 := Tryd.underlying44; have HR0_1 := am hr0_1; have HC0_1 := am hc0_1; clear hr0_1 hc0_1; have HB := am (Below.refl w.heap.size w); have H : ((impl_MatrixValid.f k a0_0 l0_1).bind fun t203 => (if t203 = true then ((impl_rows_at_impl_FormatCosts.f k a0_0 l0_1).bind fun t204 => (some t204)) else (some (⟨#[]⟩ : ByteArray)))) = some r := h; clear h; replace H := Option.bind_eq_some_iff.mp H; obtain ⟨t203, A20, H⟩ := H; (try dsimp only at H); have A2 := am A20; clear A20; by_cases c3 : t203 = true
 ·subst c3
  have H1 : ((impl_rows_at_impl_FormatCosts.f k a0_0 l0_1).bind fun t204 => (some t204)) = some r := by rw [if_pos rfl] at H; exact H
  clear H; have H := H1; clear H1; replace H := Option.bind_eq_some_iff.mp H; obtain ⟨t204, A40, H⟩ := H; (try dsimp only at H); have A4 := am A40; clear A40; obtain rfl := Option.some.inj H; go_enter Tryd.func31, Tryd.ntmps31; go_wp2_with (first | ((with_reducible refine gx 1 rfl ?_); refine be (cs := #[.int .i64 a0_0, .slice A0_1 l0_1.length c0_1]) (t := 44) ?_; intro gb202 hg w5 hbox hb; have n0_ := hs HB hb; have n1_ := am (hbox); have n2_ := gs hg (bz HB.out); have n3_ := gs hg (bz HB.out); clear HB; revert n0_ n1_ n2_ n3_; intro HB BK202 GW202 GE202; clear hb hbox hg; have hz6 := zf2 BK202.out) | ((with_reducible refine gy 38 rfl ?_); refine gl Tryd.func38 #[.agg #[.int .i64 a0_0, .slice A0_1 l0_1.length c0_1]] ?_; (with_reducible refine (impl_MatrixValid.calls k a0_0 _ _ l0_1 true _ ?side1 ?side2 A2.out).mono ?_); (case side1 => exact cc (Kd.C_below HR0_1.out HB.out)); (case side2 => exact HC0_1.out); rintro e w7 ⟨rfl, hb⟩; refine ⟨_, rfl, ?_⟩; have n0_ := bk BK202 hb; have n1_ := hs HB hb; clear BK202 HB; revert n0_ n1_; intro BK202 HB; (try clear hb); (try clear hb2); (try clear hk); (try clear hi); have hz8 := zf2 BK202.out) | ((with_reducible refine gy 60 rfl ?_); refine gl Tryd.func60 #[.agg #[.int .i64 a0_0, .slice A0_1 l0_1.length c0_1], .func (.func 15) #[] #[]] ?_; (with_reducible refine (impl_rows_at_impl_FormatCosts.calls k a0_0 _ _ l0_1 t204 _ ?side1 ?side2 A4.out ?sideD).mono ?_); (case sideD => exact door_up HD.out (bw HB.out)); (case side1 => exact cc (Kd.C_below HR0_1.out HB.out)); (case side2 => exact HC0_1.out); rintro e w9 ⟨rfl, hb⟩; refine ⟨_, rfl, ?_⟩; have n0_ := bk BK202 hb; have n1_ := hs HB hb; clear BK202 HB; revert n0_ n1_; intro BK202 HB; (try clear hb); (try clear hb2); (try clear hk); (try clear hi))); go_ret; exact ⟨by first | rfl | (simp [errW_none, errW_some] <;> rfl) | (simp [*, errW_none, errW_some] <;> rfl), by exact bw HB.out⟩
 ·replace c3 := Bool.eq_false_iff.mpr c3; subst c3
  have H1 : (some (⟨#[]⟩ : ByteArray)) = some r := by rw [if_neg (show ¬ (false = true) by decide)] at H; exact H
  clear H; have H := H1; clear H1; obtain rfl := Option.some.inj H; go_enter Tryd.func31, Tryd.ntmps31; go_wp2_with (first | ((with_reducible refine gx 1 rfl ?_); refine be (cs := #[.int .i64 a0_0, .slice A0_1 l0_1.length c0_1]) (t := 44) ?_; intro gb202 hg w10 hbox hb; have n0_ := hs HB hb; have n1_ := am (hbox); have n2_ := gs hg (bz HB.out); have n3_ := gs hg (bz HB.out); clear HB; revert n0_ n1_ n2_ n3_; intro HB BK202 GW202 GE202; clear hb hbox hg; have hz11 := zf2 BK202.out) | ((with_reducible refine gy 38 rfl ?_); refine gl Tryd.func38 #[.agg #[.int .i64 a0_0, .slice A0_1 l0_1.length c0_1]] ?_; (with_reducible refine (impl_MatrixValid.calls k a0_0 _ _ l0_1 false _ ?side1 ?side2 A2.out).mono ?_); (case side1 => exact cc (Kd.C_below HR0_1.out HB.out)); (case side2 => exact HC0_1.out); rintro e w12 ⟨rfl, hb⟩; refine ⟨_, rfl, ?_⟩; have n0_ := bk BK202 hb; have n1_ := hs HB hb; clear BK202 HB; revert n0_ n1_; intro BK202 HB; (try clear hb); (try clear hb2); (try clear hk); (try clear hi))); go_ret; exact ⟨by first | rfl | (simp [errW_none, errW_some] <;> rfl) | (simp [*, errW_none, errW_some] <;> rfl), by exact bw HB.out⟩

/-! ### laws_eqMatrix: function 32 -/
def laws_eqMatrix.f (k : Nat) (a0_0 : Int) (l0_1 : List Int) (a1_0 : Int) (l1_1 : List Int) : Option (Bool) := if a0_0 = a1_0 then ((laws_eqIntS.f k l0_1 l1_1).bind fun t207 => (if t207 = true then (some true) else (some false))) else (some false)
theorem laws_eqMatrix.mono : ∀ a0 a1 a2 a3 k, LeO (laws_eqMatrix.f k a0 a1 a2 a3) (laws_eqMatrix.f (k + 1) a0 a1 a2 a3) := by
 intro a0 a1 a2 a3 k; unfold laws_eqMatrix.f; repeat' first
   | (with_reducible exact laws_eqIntS.mono _ _ _)
   | (with_reducible exact LeO.refl _)
   | (with_reducible exact LeO.none _)
   | (with_reducible refine LeO.ite ?_ ?_)
   | (with_reducible refine LeO.bind ?_ (fun _ => ?_))
   | exact laws_eqIntS.mono _ _ _
   | exact LeO.none _
   | refine LeO.ite ?_ ?_
   | refine LeO.bind ?_ (fun _ => ?_)
set_option maxHeartbeats 8000000 in
set_option maxRecDepth 100000 in
theorem laws_eqMatrix.calls (k : Nat) (a0_0 : Int) (A0_1 : Option Addr) (c0_1 : Nat) (l0_1 : List Int) (a1_0 : Int) (A1_1 : Option Addr) (c1_1 : Nat) (l1_1 : List Int) (r : Bool) (w : World) (hr0_1 : Kd.C (Kd.int .i64) w A0_1 l0_1.length l0_1) (hc0_1 : l0_1.length ≤ c0_1) (hr1_1 : Kd.C (Kd.int .i64) w A1_1 l1_1.length l1_1) (hc1_1 : l1_1.length ≤ c1_1) (h : laws_eqMatrix.f k a0_0 l0_1 a1_0 l1_1 = some r) :
  Calls Tryd.prog 32 #[.agg #[.int .i64 a0_0, .slice A0_1 l0_1.length c0_1], .agg #[.int .i64 a1_0, .slice A1_1 l1_1.length c1_1]] w fun e w' => e = .returned (.bool r) ∧ Below w.heap.size w w' := by
 have hu44 := Tryd.underlying44; have HR0_1 := am hr0_1; have HC0_1 := am hc0_1; clear hr0_1 hc0_1; have HR1_1 := am hr1_1; have HC1_1 := am hc1_1; clear hr1_1 hc1_1; have HB := am (Below.refl w.heap.size w); have H : (if a0_0 = a1_0 then ((laws_eqIntS.f k l0_1 l1_1).bind fun t207 => (if t207 = true then (some true) else (some false))) else (some false)) = some r := h; clear h; by_cases c3 : a0_0 = a1_0
 ·rw [if_pos c3] at H; have c3b0 : (a0_0 == a1_0) = true := beq_iff_eq.mpr c3; have c3b1 : (a0_0 != a1_0) = false := bne_eq_false_iff_eq.mpr c3; clear c3; replace H := Option.bind_eq_some_iff.mp H; obtain ⟨t207, A40, H⟩ := H; (try dsimp only at H); have A4 := am A40; clear A40; by_cases c5 : t207 = true
  ·subst c5
   have H1 : (some true) = some r := by rw [if_pos rfl] at H; exact H
   clear H; have H := H1; clear H1; obtain rfl := Option.some.inj H; go_enter Tryd.func32, Tryd.ntmps32; go_wp2_with (first | ((with_reducible refine gx 2 rfl ?_); refine be (cs := #[.int .i64 a0_0, .slice A0_1 l0_1.length c0_1]) (t := 44) ?_; intro gb205 hg w6 hbox hb; have n0_ := hs HB hb; have n1_ := am (hbox); have n2_ := gs hg (bz HB.out); have n3_ := gs hg (bz HB.out); clear HB; revert n0_ n1_ n2_ n3_; intro HB BK205 GW205 GE205; clear hb hbox hg) | ((with_reducible refine gx 3 rfl ?_); refine be (cs := #[.int .i64 a1_0, .slice A1_1 l1_1.length c1_1]) (t := 44) ?_; intro gb206 hg w7 hbox hb; have n0_ := bk BK205 hb; have n1_ := hs HB hb; have n2_ := am (hbox); have n3_ := gs hg (bw HB.out); have n4_ := gs hg (bw HB.out); have n5_ := nl hg (kz BK205.out); have n6_ := nr hg (kz BK205.out); clear BK205 HB; revert n0_ n1_ n2_ n3_ n4_ n5_ n6_; intro BK205 HB BK206 GW206 GE206 NB205_206 NB206_205; clear hb hbox hg; have hnb8 := NB205_206.out; have hnc8 := NB206_205.out; have hz9 := zf2 BK205.out; have hz10 := zf2 BK206.out) | ((with_reducible refine gy 16 rfl ?_); refine gl Tryd.func16 #[.slice A0_1 l0_1.length c0_1, .slice A1_1 l1_1.length c1_1] ?_; (with_reducible refine (laws_eqIntS.calls k _ _ l0_1 _ _ l1_1 true _ ?side1 ?side2 ?side3 ?side4 A4.out).mono ?_); (case side1 => exact cc (Kd.C_below HR0_1.out HB.out)); (case side2 => exact HC0_1.out); (case side3 => exact cc (Kd.C_below HR1_1.out HB.out)); (case side4 => exact HC1_1.out); rintro e w' ⟨rfl, ⟨nd, rfl⟩⟩; refine ⟨_, rfl, ?_⟩)); go_ret; exact ⟨by first | rfl | (simp [errW_none, errW_some] <;> rfl) | (simp [*, errW_none, errW_some] <;> rfl), by exact bw HB.out⟩
  ·replace c5 := Bool.eq_false_iff.mpr c5; subst c5
   have H1 : (some false) = some r := by rw [if_neg (show ¬ (false = true) by decide)] at H; exact H
   clear H; have H := H1; clear H1; obtain rfl := Option.some.inj H; go_enter Tryd.func32, Tryd.ntmps32; go_wp2_with (first | ((with_reducible refine gx 2 rfl ?_); refine be (cs := #[.int .i64 a0_0, .slice A0_1 l0_1.length c0_1]) (t := 44) ?_; intro gb205 hg w11 hbox hb; have n0_ := hs HB hb; have n1_ := am (hbox); have n2_ := gs hg (bz HB.out); have n3_ := gs hg (bz HB.out); clear HB; revert n0_ n1_ n2_ n3_; intro HB BK205 GW205 GE205; clear hb hbox hg) | ((with_reducible refine gx 3 rfl ?_); refine be (cs := #[.int .i64 a1_0, .slice A1_1 l1_1.length c1_1]) (t := 44) ?_; intro gb206 hg w12 hbox hb; have n0_ := bk BK205 hb; have n1_ := hs HB hb; have n2_ := am (hbox); have n3_ := gs hg (bw HB.out); have n4_ := gs hg (bw HB.out); have n5_ := nl hg (kz BK205.out); have n6_ := nr hg (kz BK205.out); clear BK205 HB; revert n0_ n1_ n2_ n3_ n4_ n5_ n6_; intro BK205 HB BK206 GW206 GE206 NB205_206 NB206_205; clear hb hbox hg; have hnb13 := NB205_206.out; have hnc13 := NB206_205.out; have hz14 := zf2 BK205.out; have hz15 := zf2 BK206.out) | ((with_reducible refine gy 16 rfl ?_); refine gl Tryd.func16 #[.slice A0_1 l0_1.length c0_1, .slice A1_1 l1_1.length c1_1] ?_; (with_reducible refine (laws_eqIntS.calls k _ _ l0_1 _ _ l1_1 false _ ?side1 ?side2 ?side3 ?side4 A4.out).mono ?_); (case side1 => exact cc (Kd.C_below HR0_1.out HB.out)); (case side2 => exact HC0_1.out); (case side3 => exact cc (Kd.C_below HR1_1.out HB.out)); (case side4 => exact HC1_1.out); rintro e w' ⟨rfl, ⟨nd, rfl⟩⟩; refine ⟨_, rfl, ?_⟩)); go_ret; exact ⟨by first | rfl | (simp [errW_none, errW_some] <;> rfl) | (simp [*, errW_none, errW_some] <;> rfl), by exact bw HB.out⟩
 ·rw [if_neg c3] at H; have c3b0 : (a0_0 == a1_0) = false := beq_eq_false_iff_ne.mpr c3; have c3b1 : (a0_0 != a1_0) = true := bne_iff_ne.mpr c3; obtain rfl := Option.some.inj H; go_enter Tryd.func32, Tryd.ntmps32; go_wp2_with (first | ((with_reducible refine gx 2 rfl ?_); refine be (cs := #[.int .i64 a0_0, .slice A0_1 l0_1.length c0_1]) (t := 44) ?_; intro gb205 hg w16 hbox hb; have n0_ := hs HB hb; have n1_ := am (hbox); have n2_ := gs hg (bz HB.out); have n3_ := gs hg (bz HB.out); clear HB; revert n0_ n1_ n2_ n3_; intro HB BK205 GW205 GE205; clear hb hbox hg) | ((with_reducible refine gx 3 rfl ?_); refine be (cs := #[.int .i64 a1_0, .slice A1_1 l1_1.length c1_1]) (t := 44) ?_; intro gb206 hg w17 hbox hb; have n0_ := bk BK205 hb; have n1_ := hs HB hb; have n2_ := am (hbox); have n3_ := gs hg (bw HB.out); have n4_ := gs hg (bw HB.out); have n5_ := nl hg (kz BK205.out); have n6_ := nr hg (kz BK205.out); clear BK205 HB; revert n0_ n1_ n2_ n3_ n4_ n5_ n6_; intro BK205 HB BK206 GW206 GE206 NB205_206 NB206_205; clear hb hbox hg; have hnb18 := NB205_206.out; have hnc18 := NB206_205.out; have hz19 := zf2 BK205.out; have hz20 := zf2 BK206.out)); go_ret; exact ⟨by first | rfl | (simp [errW_none, errW_some] <;> rfl) | (simp [*, errW_none, errW_some] <;> rfl), by exact bw HB.out⟩

/-! ### laws_FnExactFormatMatrix: function 8 -/
def laws_FnExactFormatMatrix.f (k : Nat) (a0_0 : Int) (l0_1 : List Int) : Option (Bool) := (laws_szMatrix.f a0_0 l0_1 1048576).bind fun t209 => (if t209 < 0 then (some true) else ((laws_toMatrix.f k a0_0 l0_1).bind fun bt210 => ((spec_FormatMatrix.f k bt210.1 bt210.2).bind fun t214 => ((laws_toMatrix.f k a0_0 l0_1).bind fun bt215 => ((impl_FormatMatrix.f k bt215.1 bt215.2).bind fun t220 => (if t220.toList = t214.toList then ((laws_toMatrix.f k a0_0 l0_1).bind fun bt221 => ((laws_eqMatrix.f k bt215.1 bt215.2 bt221.1 bt221.2).bind fun t225 => (if t225 = true then (some true) else (none)))) else (none)))))))
theorem laws_FnExactFormatMatrix.mono : ∀ a0 a1 k, LeO (laws_FnExactFormatMatrix.f k a0 a1) (laws_FnExactFormatMatrix.f (k + 1) a0 a1) := by
 intro a0 a1 k; unfold laws_FnExactFormatMatrix.f; repeat' first
   | (with_reducible exact impl_FormatMatrix.mono _ _ _)
   | (with_reducible exact laws_eqMatrix.mono _ _ _ _ _)
   | (with_reducible exact laws_toMatrix.mono _ _ _)
   | (with_reducible exact spec_FormatMatrix.mono _ _ _)
   | (with_reducible exact LeO.refl _)
   | (with_reducible exact LeO.none _)
   | (with_reducible refine LeO.ite ?_ ?_)
   | (with_reducible refine LeO.bind ?_ (fun _ => ?_))
   | exact impl_FormatMatrix.mono _ _ _
   | exact laws_eqMatrix.mono _ _ _ _ _
   | exact laws_toMatrix.mono _ _ _
   | exact spec_FormatMatrix.mono _ _ _
   | exact LeO.none _
   | refine LeO.ite ?_ ?_
   | refine LeO.bind ?_ (fun _ => ?_)
set_option maxHeartbeats 8000000 in
set_option maxRecDepth 100000 in
theorem laws_FnExactFormatMatrix.calls (k : Nat) (a0_0 : Int) (A0_1 : Option Addr) (c0_1 : Nat) (l0_1 : List Int) (r : Bool) (w : World) (hr0_1 : Kd.C (Kd.int .i64) w A0_1 l0_1.length l0_1) (hc0_1 : l0_1.length ≤ c0_1) (h : laws_FnExactFormatMatrix.f k a0_0 l0_1 = some r) (hD : Door w) :
  Calls Tryd.prog 8 #[.agg #[.int .i64 a0_0, .slice A0_1 l0_1.length c0_1]] w fun e w' => e = .returned (.bool r) ∧ Below w.heap.size w w' := by
 have HD := am hD; clear hD; have hu41 := Tryd.underlying41; have hu44 := Tryd.underlying44; have HR0_1 := am hr0_1; have HC0_1 := am hc0_1; clear hr0_1 hc0_1; have HB := am (Below.refl w.heap.size w); have H : ((laws_szMatrix.f a0_0 l0_1 1048576).bind fun t209 => (if t209 < 0 then (some true) else ((laws_toMatrix.f k a0_0 l0_1).bind fun bt210 => ((spec_FormatMatrix.f k bt210.1 bt210.2).bind fun t214 => ((laws_toMatrix.f k a0_0 l0_1).bind fun bt215 => ((impl_FormatMatrix.f k bt215.1 bt215.2).bind fun t220 => (if t220.toList = t214.toList then ((laws_toMatrix.f k a0_0 l0_1).bind fun bt221 => ((laws_eqMatrix.f k bt215.1 bt215.2 bt221.1 bt221.2).bind fun t225 => (if t225 = true then (some true) else (none)))) else (none)))))))) = some r := h; clear h; replace H := Option.bind_eq_some_iff.mp H; obtain ⟨t209, A20, H⟩ := H; (try dsimp only at H); have A2 := am A20; clear A20; by_cases c3 : t209 < 0
 ·rw [if_pos c3] at H; have c3b0 : decide (t209 < 0) = true := decide_eq_true c3; clear c3; obtain rfl := Option.some.inj H; go_enter Tryd.func8, Tryd.ntmps8; go_wp2_with (first | ((with_reducible refine gx 1 rfl ?_); refine be (cs := #[.int .i64 a0_0, .slice A0_1 l0_1.length c0_1]) (t := 41) ?_; intro gb208 hg w4 hbox hb; have n0_ := hs HB hb; have n1_ := am (hbox); have n2_ := gs hg (bz HB.out); have n3_ := gs hg (bz HB.out); clear HB; revert n0_ n1_ n2_ n3_; intro HB BK208 GW208 GE208; clear hb hbox hg; have hz5 := zf2 BK208.out) | ((with_reducible refine gy 28 rfl ?_); refine gl Tryd.func28 #[.agg #[.int .i64 a0_0, .slice A0_1 l0_1.length c0_1], .int .i64 1048576] ?_; (with_reducible refine (laws_szMatrix.calls a0_0 _ _ l0_1 1048576 t209 _ ?side1 ?side2 A2.out).mono ?_); (case side1 => exact cc (Kd.C_below HR0_1.out HB.out)); (case side2 => exact HC0_1.out); rintro e w6 ⟨rfl, hb⟩; refine ⟨_, rfl, ?_⟩; have n0_ := bk BK208 hb; have n1_ := hs HB hb; clear BK208 HB; revert n0_ n1_; intro BK208 HB; (try clear hb); (try clear hb2); (try clear hk); (try clear hi))); go_ret; exact ⟨by first | rfl | (simp [errW_none, errW_some] <;> rfl) | (simp [*, errW_none, errW_some] <;> rfl), by exact bw HB.out⟩
 ·rw [if_neg c3] at H; have c3b0 : decide (t209 < 0) = false := decide_eq_false c3; clear c3; replace H := Option.bind_eq_some_iff.mp H; obtain ⟨⟨t210, t211⟩, A70, H⟩ := H; (try dsimp only at H); have A7 := am A70; clear A70; replace H := Option.bind_eq_some_iff.mp H; obtain ⟨t214, A80, H⟩ := H; (try dsimp only at H); have A8 := am A80; clear A80; replace H := Option.bind_eq_some_iff.mp H; obtain ⟨⟨t215, t216⟩, A90, H⟩ := H; (try dsimp only at H); have A9 := am A90; clear A90; replace H := Option.bind_eq_some_iff.mp H; obtain ⟨t220, A100, H⟩ := H; (try dsimp only at H); have A10 := am A100; clear A100; by_cases c11 : t220.toList = t214.toList
  ·rw [if_pos c11] at H; have c11b0 : (t220.toList == t214.toList) = true := beq_iff_eq.mpr c11; have c11b1 : (t220.toList != t214.toList) = false := bne_eq_false_iff_eq.mpr c11; clear c11; replace H := Option.bind_eq_some_iff.mp H; obtain ⟨⟨t221, t222⟩, A120, H⟩ := H; (try dsimp only at H); have A12 := am A120; clear A120; replace H := Option.bind_eq_some_iff.mp H; obtain ⟨t225, A130, H⟩ := H; (try dsimp only at H); have A13 := am A130; clear A130; by_cases c14 : t225 = true
   ·subst c14
    have H1 : (some true) = some r := by rw [if_pos rfl] at H; exact H
    clear H; have H := H1; clear H1; obtain rfl := Option.some.inj H; go_enter Tryd.func8, Tryd.ntmps8; (try go_wp2_with (first | ((with_reducible refine gx 1 rfl ?_); refine be (cs := #[.int .i64 a0_0, .slice A0_1 l0_1.length c0_1]) (t := 41) ?_; intro gb208 hg w15 hbox hb; have n0_ := hs HB hb; have n1_ := am (hbox); have n2_ := gs hg (bz HB.out); have n3_ := gs hg (bz HB.out); clear HB; revert n0_ n1_ n2_ n3_; intro HB BK208 GW208 GE208; clear hb hbox hg; have hz16 := zf2 BK208.out) | ((with_reducible refine gy 28 rfl ?_); refine gl Tryd.func28 #[.agg #[.int .i64 a0_0, .slice A0_1 l0_1.length c0_1], .int .i64 1048576] ?_; (with_reducible refine (laws_szMatrix.calls a0_0 _ _ l0_1 1048576 t209 _ ?side1 ?side2 A2.out).mono ?_); (case side1 => exact cc (Kd.C_below HR0_1.out HB.out)); (case side2 => exact HC0_1.out); rintro e w17 ⟨rfl, hb⟩; refine ⟨_, rfl, ?_⟩; have n0_ := bk BK208 hb; have n1_ := hs HB hb; clear BK208 HB; revert n0_ n1_; intro BK208 HB; (try clear hb); (try clear hb2); (try clear hk); (try clear hi); have hz18 := zf2 BK208.out) | ((with_reducible refine gy 30 rfl ?_); refine gl Tryd.func30 #[.agg #[.int .i64 a0_0, .slice A0_1 l0_1.length c0_1]] ?_; (with_reducible refine (laws_toMatrix.calls k a0_0 _ _ l0_1 t215 t216 _ ?side1 ?side2 A9.out).mono ?_); (case side1 => exact cc (Kd.C_below HR0_1.out HB.out)); (case side2 => exact HC0_1.out); rintro e w23 ⟨v217, rfl, ho0, hb⟩; refine ⟨_, rfl, ?_⟩; have n0_ := el HO213 (Kd.R_base ho0) hb; have n1_ := am (Kd.R_lower (Kd.R_new' ho0 (Kd.R_lt (rz HO213.out))) (below_size (bw HB.out))); have n2_ := bk BK208 hb; have n3_ := hs HB hb; clear HO213 BK208 HB; revert n0_ n1_ n2_ n3_; intro HO213 HO218 BK208 HB; (try clear hb); (try clear hb2); (try clear hk); (try clear hi); (try clear ho0)) | ((with_reducible refine gy 29 rfl ?_); refine gl Tryd.func29 #[.agg #[.int .i64 t210, .slice Ao20 t211.length co20]] ?_; (with_reducible refine (spec_FormatMatrix.calls k t210 _ _ t211 t214 _ ?side1 ?side2 A8.out).mono ?_); (case side1 => exact cc ((Kd.R_reads' HO213.out).2.2)); (case side2 => exact (Kd.R_reads' HO213.out).2.1); rintro e w21 ⟨rfl, hb⟩; refine ⟨_, rfl, ?_⟩; have n0_ := rb HO213 hb; have n1_ := bk BK208 hb; have n2_ := hs HB hb; clear HO213 BK208 HB; revert n0_ n1_ n2_; intro HO213 BK208 HB; (try clear hb); (try clear hb2); (try clear hk); (try clear hi); have hz22 := zf2 BK208.out) | ((with_reducible refine gy 30 rfl ?_); refine gl Tryd.func30 #[.agg #[.int .i64 a0_0, .slice A0_1 l0_1.length c0_1]] ?_; (with_reducible refine (laws_toMatrix.calls k a0_0 _ _ l0_1 t210 t211 _ ?side1 ?side2 A7.out).mono ?_); (case side1 => exact cc (Kd.C_below HR0_1.out HB.out)); (case side2 => exact HC0_1.out); rintro e w19 ⟨v212, rfl, ho0, hb⟩; refine ⟨_, rfl, ?_⟩; have n0_ := am (Kd.R_lower ho0 (below_size (bw HB.out))); have n1_ := bk BK208 hb; have n2_ := hs HB hb; clear BK208 HB; revert n0_ n1_ n2_; intro HO213 BK208 HB; (try clear hb); (try clear hb2); (try clear hk); (try clear hi); (try clear ho0); obtain ⟨Ao20, co20, eo20⟩ := Kd.R_slice HO213.out; subst eo20) | ((with_reducible refine gx 5 rfl ?_); refine be (cs := #[.int .i64 0, .slice none 0 0]) (t := 44) ?_; intro gb219 hg w24 hbox hb; have n0_ := rb HO213 hb; have n1_ := rb HO218 hb; have n2_ := bk BK208 hb; have n3_ := hs HB hb; have n4_ := am (hbox); have n5_ := gs hg (bw HB.out); have n6_ := gs hg (bw HB.out); have n7_ := nl hg (kz BK208.out); have n8_ := nr hg (kz BK208.out); clear HO213 HO218 BK208 HB; revert n0_ n1_ n2_ n3_ n4_ n5_ n6_ n7_ n8_; intro HO213 HO218 BK208 HB BK219 GW219 GE219 NB208_219 NB219_208; clear hb hbox hg; have hnb25 := NB219_208.out; have hnc25 := NB208_219.out; have hz26 := zf2 BK219.out; obtain ⟨Ao27, co27, eo27⟩ := Kd.R_slice HO218.out; subst eo27) | ((with_reducible refine gy 31 rfl ?_); refine gl Tryd.func31 #[.agg #[.int .i64 t215, .slice Ao27 t216.length co27]] ?_; (with_reducible refine (impl_FormatMatrix.calls k t215 _ _ t216 t220 _ ?side1 ?side2 A10.out ?sideD).mono ?_); (case sideD => exact door_up HD.out (bw HB.out)); (case side1 => refine (Kd.R_reads' (e := 3) (base := w.heap.size) (ok := fun k_ => (True ∧ NS Ao20 t211 co20 k_)) (n := t216.length) (c := co27) ?_).2.2; exact (r2z HO218 BK219 (by decide))); (case side2 => exact (Kd.R_reads' HO218.out).2.1); rintro e w28 ⟨rfl, hb⟩; refine ⟨_, rfl, ?_⟩; have n0_ := am (Kd.R_below (r2z HO213 BK219 (by decide)) hb); have n1_ := am (Kd.R_below (r2z HO218 BK219 (by decide)) hb); have n2_ := am (blk_below (kf BK208.out) hb); have n3_ := am (blk_below (kp BK219.out) hb); have n4_ := hs HB hb; clear HO213 HO218 BK208 BK219 HB; revert n0_ n1_ n2_ n3_ n4_; intro HO213 HO218 BK208 BK219 HB; (try clear hb); (try clear hb2); (try clear hk); (try clear hi)))); have n0_ := am (Kd.R_drew HO213.out); have n1_ := am (Kd.R_drew HO218.out); have n2_ := am (blk_drew BK208.out); have n3_ := am (blk_drew BK219.out); have n4_ := am (below_drew1 HB.out); clear HO213 HO218 BK208 BK219 HB; revert n0_ n1_ n2_ n3_ n4_; intro HO213 HO218 BK208 BK219 HB; refine start_ (n := 5) (S := fun w' => w'.cell? ⟨gb219, 0, none⟩ = some (.int .i64 t215) ∧ w'.cell? ⟨gb219, 1, none⟩ = some (.slice Ao27 t216.length co27) ∧ w'.cell? ⟨gb208, 0, none⟩ = some (.int .i64 a0_0) ∧ w'.cell? ⟨gb208, 1, none⟩ = some (.slice A0_1 l0_1.length c0_1)) (ds := []) #[false, false, false, false, false] (by kernel_rfl) rfl rfl ⟨bl BK219.out 0, bl BK219.out 1, bl BK208.out 0, bl BK208.out 1⟩ (fun hHeld => ?_); generalize w28.drew = w29 at HO213 HO218 BK208 BK219 HB hHeld ⊢; refine take_ (i := 0) (N := some 22) (v := ?_) (a' := ?_) #[true, false, false, false, false] rfl rfl (by kernel_rfl) (fun _ _ _ h => h) (Or.inl ⟨by rfl, ?_⟩) hHeld ?_ ?_; rotate_left
    ·rintro w' ⟨s0, s1, s2, s3⟩; go_simp
     with_reducible rfl
    rotate_left
    ·simp only [Act.put, List.setIfInBounds_toArray, List.set_cons_zero, List.set_cons_succ, i64_w, i32_w]; rfl
    refine take_ (i := 1) (N := some 23) (v := ?_) (a' := ?_) #[true, true, false, false, false] rfl rfl (by kernel_rfl) (fun _ _ _ h => h) (Or.inl ⟨by rfl, ?_⟩) hHeld ?_ ?_; rotate_left
    ·rintro w' ⟨s0, s1, s2, s3⟩; go_simp
     with_reducible rfl
    rotate_left
    ·simp only [Act.put, List.setIfInBounds_toArray, List.set_cons_zero, List.set_cons_succ, i64_w, i32_w]; rfl
    refine one_ (i := 2) (N := some 24) #[true, true, true, false, false] rfl rfl (by kernel_rfl) (by decide) (fun K hK => ?_); refine gr Tryd.func30 #[.agg #[.int .i64 a0_0, .slice A0_1 l0_1.length c0_1]] ?_
    with_reducible refine (laws_toMatrix.calls k a0_0 _ _ l0_1 t221 t222 _ ?side1 ?side2 A12.out).mono ?_
    (case side1 => exact cc (Kd.C_below HR0_1.out HB.out)); (case side2 => exact HC0_1.out); rintro e w30 ⟨v223, rfl, ho0, hb⟩; refine ⟨_, rfl, ?_⟩; have n0_ := el HO213 (Kd.R_base ho0) hb; have n1_ := el HO218 (Kd.R_base ho0) hb; have n2_ := am (Kd.R_lower (Kd.R_new' (Kd.R_new' ho0 (Kd.R_lt (rz HO213.out))) (Kd.R_lt (rz HO218.out))) (below_size (bw HB.out))); have n3_ := bk BK208 hb; have n4_ := bk BK219 hb; have n5_ := hs HB hb; clear HO213 HO218 BK208 BK219 HB; revert n0_ n1_ n2_ n3_ n4_ n5_; intro HO213 HO218 HO224 BK208 BK219 HB; (try clear hb); (try clear hb2); (try clear hk); (try clear hi); (try clear ho0); obtain ⟨Ao31, co31, eo31⟩ := Kd.R_slice HO224.out; (first | subst eo31 | (injection eo31 with f1_ f2_ f3_; have f4_ := f1_.symm; have f5_ := f3_.symm; clear f1_ f2_ f3_; subst f4_; subst f5_)); refine hK.out _ _ ⟨bl BK219.out 0, bl BK219.out 1, bl BK208.out 0, bl BK208.out 1⟩ (fun hHeld => ?_); clear hK K; refine norm_ (a' := ?_) ?_ ?_; rotate_left
    ·show Act.put _ (some 24) _ = _; simp only [Act.put, List.setIfInBounds_toArray, List.set_cons_zero, List.set_cons_succ, i64_w, i32_w]; rfl
    refine one_ (i := 3) (N := some 25) #[true, true, true, true, false] rfl rfl (by kernel_rfl) (by decide) (fun K hK => ?_); refine gr Tryd.func32 #[.agg #[.int .i64 t215, .slice Ao27 t216.length co27], .agg #[.int .i64 t221, .slice Ao31 t222.length co31]] ?_
    with_reducible refine (laws_eqMatrix.calls k t215 _ _ t216 t221 _ _ t222 true _ ?side1 ?side2 ?side3 ?side4 A13.out).mono ?_
    (case side1 => exact cc ((Kd.R_reads' HO218.out).2.2)); (case side2 => exact (Kd.R_reads' HO218.out).2.1); (case side3 => exact cc ((Kd.R_reads' HO224.out).2.2)); (case side4 => exact (Kd.R_reads' HO224.out).2.1); rintro e w32 ⟨rfl, hb⟩; refine ⟨_, rfl, ?_⟩; have n0_ := rb HO213 hb; have n1_ := rb HO218 hb; have n2_ := rb HO224 hb; have n3_ := bk BK208 hb; have n4_ := bk BK219 hb; have n5_ := hs HB hb; clear HO213 HO218 HO224 BK208 BK219 HB; revert n0_ n1_ n2_ n3_ n4_ n5_; intro HO213 HO218 HO224 BK208 BK219 HB; (try clear hb); (try clear hb2); (try clear hk); (try clear hi); refine hK.out _ _ ⟨bl BK219.out 0, bl BK219.out 1, bl BK208.out 0, bl BK208.out 1⟩ (fun hHeld => ?_); clear hK K; refine norm_ (a' := ?_) ?_ ?_; rotate_left
    ·show Act.put _ (some 25) _ = _; simp only [Act.put, List.setIfInBounds_toArray, List.set_cons_zero, List.set_cons_succ, i64_w, i32_w]; rfl
    refine pure_ (i := 4) (N := some 26) (v := ?_) (a' := ?_) #[true, true, true, true, true] rfl rfl (by kernel_rfl) (fun _ _ _ h => h) (Or.inl ⟨by rfl, ?_⟩) ?_ ?_; rotate_left
    ·intro w'; go_simp
     with_reducible rfl
    rotate_left
    ·simp only [Act.put, List.setIfInBounds_toArray, List.set_cons_zero, List.set_cons_succ, i64_w, i32_w]; rfl
    refine done_ (by kernel_rfl) ?_; (try go_wp2); go_ret; exact ⟨by first | rfl | (simp [errW_none, errW_some] <;> rfl) | (simp [*, errW_none, errW_some] <;> rfl), by exact bw HB.out⟩
   ·replace c14 := Bool.eq_false_iff.mpr c14; subst c14
    have H1 : (none) = some r := by rw [if_neg (show ¬ (false = true) by decide)] at H; exact H
    clear H; have H := H1; clear H1; exact absurd H (by simp)
  ·rw [if_neg c11] at H; exact absurd H (by simp)

/-- THE ONE PURE STATEMENT of laws_FnExactFormatMatrix. -/
def laws_FnExactFormatMatrix.Pure : Prop := ∀ (a0_0 : Int) (l0_1 : List Int), (Lit.int .i64 a0_0).wf = true → l0_1.length ≤ maxLen → (∀ x ∈ l0_1, (Lit.int .i64 x).wf = true) → ∃ k, laws_FnExactFormatMatrix.f k a0_0 l0_1 = some true
theorem laws_FnExactFormatMatrix.walk (P : laws_FnExactFormatMatrix.Pure) (a0_0 : Int) (a0_1 : Option Addr) (len0_1 cap0_1 : Nat) (z0_1 : List Int) (w : World) (w0_0 : (Lit.int .i64 a0_0).wf = true) (w0_1 : (a0_1 = none ∧ len0_1 = 0 ∧ cap0_1 = 0 ∧ z0_1 = []) ∨ ∃ x, a0_1 = some x ∧ len0_1 ≤ cap0_1 ∧ cap0_1 ≤ maxLen ∧ z0_1.length = cap0_1 ∧ (∀ i, i < z0_1.length → w.cell? (x.add i) = some (.int .i64 (z0_1.getD i 0))) ∧ ∀ n ∈ z0_1, (Lit.int .i64 n).wf = true) (hD : Door w) :
  Calls Tryd.prog 8 #[.agg #[.int .i64 a0_0, .slice a0_1 len0_1 cap0_1]] w fun e w' => e = .returned (.bool true) ∧ Below w.heap.size w w' := by
 obtain ⟨l0_1, rfl, hr0_1, hm0_1, hw0_1, hc0_1⟩ := ReadsInt.ofRowC w0_1; obtain ⟨k, h⟩ := P a0_0 l0_1 w0_0 hm0_1 hw0_1; refine (laws_FnExactFormatMatrix.calls k a0_0 _ _ l0_1 true w (Kd.C_of_reads (d := (0 : Int)) (h1 := fun _ => rfl) hr0_1) hc0_1 h hD).mono ?_; rintro e w' ⟨rfl, hd⟩; exact ⟨rfl, hd⟩

end Go.Proofs.YtmnfbnpclanafaaDoor.PGF
