-- Written by a program (wip/myprint.py): the machine side of one law: each function that it reaches, as a plain function, and the proof that a call comes to just that.
import Derived.Test.YtmnfbnpclanafaaDoorPGPx0
import Derived.Test.YtmnfbnpclanafaaDoorPGPx1
import Derived.Test.YtmnfbnpclanafaaDoorPGPx2
import Derived.Test.YtmnfbnpclanafaaDoorPGPx3
namespace Go.Proofs.YtmnfbnpclanafaaDoor.PGP
open Go.RowKit Go.Proofs.YtmnfbnpclanafaaDoorW.PrintWords Go.Proofs.YtmnfbnpclanafaaDoorW.PrintLast Go.Proofs.YtmnfbnpclanafaaDoorW.PrintMore
attribute [local go_sem] max2_int min2_int max_two min_two max_three min_three max_four min_four   -- for this text's walks alone
set_option linter.unusedVariables false
set_option linter.unusedSimpArgs false

/-! ### spec_l1All: function 64 -/
def spec_l1All.l0 : Nat → List Int → Int → Int → Option (Bool)
 | 0, _, _, _ => none
 | k + 1, x5, x6, x7 => if x7 < x6 then (if 0 ≤ x7 then (if x7 < (x5.length : Int) then ((spec_CostValid.f (rd x5 x7)).bind fun t209 => (if t209 = true then (spec_l1All.l0 k x5 x6 (wrap64 (x7 + 1))) else (some false))) else (none)) else (none)) else (some true)
def spec_l1All.f (k : Nat) (l0 : List Int) : Option (Bool) := spec_l1All.l0 k l0 (l0.length : Int) 0
theorem spec_l1All.mono_l : ∀ k, (∀ y0 y1 y2, LeO (spec_l1All.l0 k y0 y1 y2) (spec_l1All.l0 (k + 1) y0 y1 y2))
 | 0 => fun _ _ _ r h => by simp [spec_l1All.l0] at h
 | k + 1 => by
  have ih0 := spec_l1All.mono_l k
  ·intro y0 y1 y2; unfold spec_l1All.l0; repeat' first
   | (with_reducible exact ih0 _ _ _)
   | (with_reducible exact LeO.refl _)
   | (with_reducible exact LeO.none _)
   | (with_reducible refine LeO.ite ?_ ?_)
   | (with_reducible refine LeO.bind ?_ (fun _ => ?_))
   | exact ih0 _ _ _
   | exact LeO.none _
   | refine LeO.ite ?_ ?_
   | refine LeO.bind ?_ (fun _ => ?_)
theorem spec_l1All.mono : ∀ a0 k, LeO (spec_l1All.f k a0) (spec_l1All.f (k + 1) a0) := by
 intro a0 k; have ih0 := spec_l1All.mono_l k; unfold spec_l1All.f; repeat' first
   | (with_reducible exact ih0 _ _ _)
   | (with_reducible exact LeO.refl _)
   | (with_reducible exact LeO.none _)
   | (with_reducible refine LeO.ite ?_ ?_)
   | (with_reducible refine LeO.bind ?_ (fun _ => ?_))
   | exact ih0 _ _ _
   | exact LeO.none _
   | refine LeO.ite ?_ ?_
   | refine LeO.bind ?_ (fun _ => ?_)
set_option maxHeartbeats 8000000 in
set_option maxRecDepth 100000 in
theorem spec_l1All.calls (k : Nat) (A0 : Option Addr) (c0 : Nat) (l0 : List Int) (r : Bool) (w : World) (hr0 : Kd.C (Kd.int .i64) w A0 l0.length l0) (hc0 : l0.length ≤ c0) (h : spec_l1All.f k l0 = some r) :
  Calls Tryd.prog 64 #[.slice A0 l0.length c0] w fun e w' => e = .returned (.bool r) ∧ Drawn0 w w' := by
 have HR0 := am hr0; have HC0 := am hc0; clear hr0 hc0; have H : (spec_l1All.l0 k l0 (l0.length : Int) 0) = some r := h; clear h; have H' := am H; clear H; go_enter Tryd.func64, Tryd.ntmps64; go_wp2; go_loopg [7] k (fun kq v7 w' => ∃ (x7_1 : Int), v7 = .int .i64 x7_1 ∧ Aside0 (spec_l1All.l0 kq l0 (l0.length : Int) x7_1 = some r) ∧ Aside0 (kq ≤ k) ∧ Drawn0 w w')
 case atStart => exact ⟨(0), (by first | rfl | (simp; done) | (simp [*]; done)), H', ⟨Nat.le_refl _⟩, by repeat (first | exact Drawn0.refl _ | apply Drawn0.step)⟩
 case round =>
  clear H'; obtain ⟨x7_1, rfl, HA, HK1, ⟨m1, rfl⟩⟩ := hrel
  cases gk with
  | zero => exact absurd HA.out (by simp [spec_l1All.l0])
  | succ k1 =>
   have H := HA.out; clear HA; simp only [spec_l1All.l0] at H; by_cases c2 : x7_1 < (l0.length : Int)
   ·rw [if_pos c2] at H; have c2b0 : decide (x7_1 < (l0.length : Int)) = true := decide_eq_true c2; clear c2; by_cases c3 : 0 ≤ x7_1
    ·rw [if_pos c3] at H; have c3b0 : decide (0 ≤ x7_1) = true := decide_eq_true c3; clear c3; by_cases c4 : x7_1 < (l0.length : Int)
     ·rw [if_pos c4] at H; have c4b0 : decide (x7_1 < (l0.length : Int)) = true := decide_eq_true c4; clear c4; replace H := Option.bind_eq_some_iff.mp H; obtain ⟨t209, A50, H⟩ := H; (try dsimp only at H); have A5 := am A50; clear A50; by_cases c6 : t209 = true
      ·subst c6
       have H1 : (spec_l1All.l0 k1 l0 (l0.length : Int) (wrap64 (x7_1 + 1))) = some r := by rw [if_pos rfl] at H; exact H
       clear H; have H := H1; clear H1; have H' := am H; clear H; have p208 : 0 ≤ (x7_1 : Int) := da; have q208 : x7_1 < (l0.length : Int) := da; obtain ⟨ad208, e208, hx208_0⟩ := Kd.at_int HR0.out x7_1 p208 q208; cases e208; replace p208 := eq_true p208; replace q208 := eq_true q208; go_wp2_with (first | ((with_reducible refine gy 45 rfl ?_); refine gl Tryd.func45 #[.int .i64 (rd l0 x7_1)] ?_; (with_reducible refine (spec_CostValid.calls (rd l0 x7_1) true _ A5.out).mono ?_); rintro e w' ⟨rfl, ⟨nd, rfl⟩⟩; refine ⟨_, rfl, ?_⟩)); go_roundg k1
       case measure => have := HK1.out; omega
       case rel => exact ⟨(wrap64 (x7_1 + 1)), (by first | rfl | (simp; done) | (simp [*]; done)), H', ⟨by have := HK1.out; omega⟩, by repeat (first | exact Drawn0.refl _ | apply Drawn0.step)⟩
      ·replace c6 := Bool.eq_false_iff.mpr c6; subst c6
       have H1 : (some false) = some r := by rw [if_neg (show ¬ (false = true) by decide)] at H; exact H
       clear H; have H := H1; clear H1; obtain rfl := Option.some.inj H; have p208 : 0 ≤ (x7_1 : Int) := da; have q208 : x7_1 < (l0.length : Int) := da; obtain ⟨ad208, e208, hx208_0⟩ := Kd.at_int HR0.out x7_1 p208 q208; cases e208; replace p208 := eq_true p208; replace q208 := eq_true q208; go_wp2_with (first | ((with_reducible refine gy 45 rfl ?_); refine gl Tryd.func45 #[.int .i64 (rd l0 x7_1)] ?_; (with_reducible refine (spec_CostValid.calls (rd l0 x7_1) false _ A5.out).mono ?_); rintro e w' ⟨rfl, ⟨nd, rfl⟩⟩; refine ⟨_, rfl, ?_⟩)); go_ret; exact ⟨by first | rfl | (simp; done) | (simp [*]; done), by repeat (first | exact Drawn0.refl _ | apply Drawn0.step)⟩
     ·rw [if_neg c4] at H; exact absurd H (by simp)
    ·rw [if_neg c3] at H; exact absurd H (by simp)
   ·rw [if_neg c2] at H; have c2b0 : decide (x7_1 < (l0.length : Int)) = false := decide_eq_false c2; clear c2; obtain rfl := Option.some.inj H; go_wp2; go_ret; exact ⟨by first | rfl | (simp; done) | (simp [*]; done), by repeat (first | exact Drawn0.refl _ | apply Drawn0.step)⟩

/-! ### spec_MatrixValid: function 39 -/
def spec_MatrixValid.f (k : Nat) (a0_0 : Int) (l0_1 : List Int) : Option (Bool) := (spec_l1In.f a0_0 1 4).bind fun t211 => (if t211 = true then (if (l0_1.length : Int) = (wrap64 (a0_0 * a0_0)) then ((spec_l1All.f k l0_1).bind fun t212 => (some t212)) else (some false)) else (some false))
theorem spec_MatrixValid.mono : ∀ a0 a1 k, LeO (spec_MatrixValid.f k a0 a1) (spec_MatrixValid.f (k + 1) a0 a1) := by
 intro a0 a1 k; unfold spec_MatrixValid.f; repeat' first
   | (with_reducible exact spec_l1All.mono _ _)
   | (with_reducible exact LeO.refl _)
   | (with_reducible exact LeO.none _)
   | (with_reducible refine LeO.ite ?_ ?_)
   | (with_reducible refine LeO.bind ?_ (fun _ => ?_))
   | exact spec_l1All.mono _ _
   | exact LeO.none _
   | refine LeO.ite ?_ ?_
   | refine LeO.bind ?_ (fun _ => ?_)
set_option maxHeartbeats 8000000 in
set_option maxRecDepth 100000 in
theorem spec_MatrixValid.calls (k : Nat) (a0_0 : Int) (A0_1 : Option Addr) (c0_1 : Nat) (l0_1 : List Int) (r : Bool) (w : World) (hr0_1 : Kd.C (Kd.int .i64) w A0_1 l0_1.length l0_1) (hc0_1 : l0_1.length ≤ c0_1) (h : spec_MatrixValid.f k a0_0 l0_1 = some r) :
  Calls Tryd.prog 39 #[.agg #[.int .i64 a0_0, .slice A0_1 l0_1.length c0_1]] w fun e w' => e = .returned (.bool r) ∧ Below w.heap.size w w' := by
 have hu44 := Tryd.underlying44; have HR0_1 := am hr0_1; have HC0_1 := am hc0_1; clear hr0_1 hc0_1; have HB := am (Below.refl w.heap.size w); have H : ((spec_l1In.f a0_0 1 4).bind fun t211 => (if t211 = true then (if (l0_1.length : Int) = (wrap64 (a0_0 * a0_0)) then ((spec_l1All.f k l0_1).bind fun t212 => (some t212)) else (some false)) else (some false))) = some r := h; clear h; replace H := Option.bind_eq_some_iff.mp H; obtain ⟨t211, A20, H⟩ := H; (try dsimp only at H); have A2 := am A20; clear A20; by_cases c3 : t211 = true
 ·subst c3
  have H1 : (if (l0_1.length : Int) = (wrap64 (a0_0 * a0_0)) then ((spec_l1All.f k l0_1).bind fun t212 => (some t212)) else (some false)) = some r := by rw [if_pos rfl] at H; exact H
  clear H; have H := H1; clear H1; by_cases c4 : (l0_1.length : Int) = (wrap64 (a0_0 * a0_0))
  ·rw [if_pos c4] at H; have c4b0 : ((l0_1.length : Int) == (wrap64 (a0_0 * a0_0))) = true := beq_iff_eq.mpr c4; have c4b1 : ((l0_1.length : Int) != (wrap64 (a0_0 * a0_0))) = false := bne_eq_false_iff_eq.mpr c4; clear c4; replace H := Option.bind_eq_some_iff.mp H; obtain ⟨t212, A50, H⟩ := H; (try dsimp only at H); have A5 := am A50; clear A50; obtain rfl := Option.some.inj H; go_enter Tryd.func39, Tryd.ntmps39; go_wp2_with (first | ((with_reducible refine gx 1 rfl ?_); (try (refine gate_guard (by rfl) ?_; dsimp only)); refine be (cs := #[.int .i64 a0_0, .slice A0_1 l0_1.length c0_1]) (t := 44) ?_; intro gb210 hg w6 hbox hb; have n0_ := hs HB hb; have n1_ := am (hbox); have n2_ := gs hg (bz HB.out); have n3_ := gs hg (bz HB.out); clear HB; revert n0_ n1_ n2_ n3_; intro HB BK210 GW210 GE210; clear hb hbox hg; have hz7 := zf2 BK210.out) | ((with_reducible refine gy 51 rfl ?_); refine gl Tryd.func51 #[.int .i64 a0_0, .int .i64 1, .int .i64 4] ?_; (with_reducible refine (spec_l1In.calls a0_0 1 4 true _ A2.out).mono ?_); rintro e w' ⟨rfl, ⟨nd, rfl⟩⟩; refine ⟨_, rfl, ?_⟩) | (go_at_call 64; (with_reducible refine (spec_l1All.calls k _ _ l0_1 t212 _ ?side1 ?side2 A5.out).mono ?_); (case side1 => exact cc (Kd.C_below HR0_1.out (bw HB.out))); (case side2 => exact HC0_1.out); rintro e w' ⟨rfl, ⟨nd, rfl⟩⟩)); go_ret; exact ⟨by first | rfl | (simp [errW_none, errW_some] <;> rfl) | (simp [*, errW_none, errW_some] <;> rfl), by exact bw HB.out⟩
  ·rw [if_neg c4] at H; have c4b0 : ((l0_1.length : Int) == (wrap64 (a0_0 * a0_0))) = false := beq_eq_false_iff_ne.mpr c4; have c4b1 : ((l0_1.length : Int) != (wrap64 (a0_0 * a0_0))) = true := bne_iff_ne.mpr c4; obtain rfl := Option.some.inj H; go_enter Tryd.func39, Tryd.ntmps39; go_wp2_with (first | ((with_reducible refine gx 1 rfl ?_); (try (refine gate_guard (by rfl) ?_; dsimp only)); refine be (cs := #[.int .i64 a0_0, .slice A0_1 l0_1.length c0_1]) (t := 44) ?_; intro gb210 hg w8 hbox hb; have n0_ := hs HB hb; have n1_ := am (hbox); have n2_ := gs hg (bz HB.out); have n3_ := gs hg (bz HB.out); clear HB; revert n0_ n1_ n2_ n3_; intro HB BK210 GW210 GE210; clear hb hbox hg; have hz9 := zf2 BK210.out) | ((with_reducible refine gy 51 rfl ?_); refine gl Tryd.func51 #[.int .i64 a0_0, .int .i64 1, .int .i64 4] ?_; (with_reducible refine (spec_l1In.calls a0_0 1 4 true _ A2.out).mono ?_); rintro e w' ⟨rfl, ⟨nd, rfl⟩⟩; refine ⟨_, rfl, ?_⟩)); go_ret; exact ⟨by first | rfl | (simp [errW_none, errW_some] <;> rfl) | (simp [*, errW_none, errW_some] <;> rfl), by exact bw HB.out⟩
 ·replace c3 := Bool.eq_false_iff.mpr c3; subst c3
  have H1 : (some false) = some r := by rw [if_neg (show ¬ (false = true) by decide)] at H; exact H
  clear H; have H := H1; clear H1; obtain rfl := Option.some.inj H; go_enter Tryd.func39, Tryd.ntmps39; go_wp2_with (first | ((with_reducible refine gx 1 rfl ?_); (try (refine gate_guard (by rfl) ?_; dsimp only)); refine be (cs := #[.int .i64 a0_0, .slice A0_1 l0_1.length c0_1]) (t := 44) ?_; intro gb210 hg w10 hbox hb; have n0_ := hs HB hb; have n1_ := am (hbox); have n2_ := gs hg (bz HB.out); have n3_ := gs hg (bz HB.out); clear HB; revert n0_ n1_ n2_ n3_; intro HB BK210 GW210 GE210; clear hb hbox hg; have hz11 := zf2 BK210.out) | ((with_reducible refine gy 51 rfl ?_); refine gl Tryd.func51 #[.int .i64 a0_0, .int .i64 1, .int .i64 4] ?_; (with_reducible refine (spec_l1In.calls a0_0 1 4 false _ A2.out).mono ?_); rintro e w' ⟨rfl, ⟨nd, rfl⟩⟩; refine ⟨_, rfl, ?_⟩)); go_ret; exact ⟨by first | rfl | (simp [errW_none, errW_some] <;> rfl) | (simp [*, errW_none, errW_some] <;> rfl), by exact bw HB.out⟩

/-! ### spec_ParseMatrix: function 33 -/
def spec_ParseMatrix.l0 : Nat → List ByteArray → List ByteArray → Int → Int → Int → List Int → Option (Int × List Int × Bool)
 | 0, _, _, _, _, _, _ => none
 | k + 1, x5, x14, x15, x16, x218000, x218001 => if x16 < x15 then (if 0 ≤ x16 then (if x16 < (x14.length : Int) then ((spec_ParseCosts.f k (rdOf ByteArray.empty x14 x16)).bind fun bt222 => (if bt222.2 = true then (if (bt222.1.length : Int) = (x5.length : Int) then (if x218001.length + bt222.1.length < 17592186044416 then (spec_ParseMatrix.l0 k x5 x14 x15 (wrap64 (x16 + 1)) x218000 (x218001 ++ bt222.1)) else (none)) else (some (0, ([] : List Int), false))) else (some (0, ([] : List Int), false)))) else (none)) else (none)) else ((spec_MatrixValid.f k (x5.length : Int) x218001).bind fun t229 => (if t229 = true then (some ((x5.length : Int), x218001, true)) else (some (0, ([] : List Int), false))))
def spec_ParseMatrix.f (k : Nat) (a0 : ByteArray) : Option (Int × List Int × Bool) := (spec_l13Cut.f k a0 47).bind fun t218 => (spec_ParseMatrix.l0 k t218 t218 (t218.length : Int) 0 0 (([] : List Int)))
theorem spec_ParseMatrix.mono_l : ∀ k, (∀ y0 y1 y2 y3 y4 y5, LeO (spec_ParseMatrix.l0 k y0 y1 y2 y3 y4 y5) (spec_ParseMatrix.l0 (k + 1) y0 y1 y2 y3 y4 y5))
 | 0 => fun _ _ _ _ _ _ r h => by simp [spec_ParseMatrix.l0] at h
 | k + 1 => by
  have ih0 := spec_ParseMatrix.mono_l k
  ·intro y0 y1 y2 y3 y4 y5; unfold spec_ParseMatrix.l0; repeat' first
   | (with_reducible exact ih0 _ _ _ _ _ _)
   | (with_reducible exact spec_MatrixValid.mono _ _ _)
   | (with_reducible exact spec_ParseCosts.mono _ _)
   | (with_reducible exact spec_l13Cut.mono _ _ _)
   | (with_reducible exact LeO.refl _)
   | (with_reducible exact LeO.none _)
   | (with_reducible refine LeO.ite ?_ ?_)
   | (with_reducible refine LeO.bind ?_ (fun _ => ?_))
   | exact ih0 _ _ _ _ _ _
   | exact spec_MatrixValid.mono _ _ _
   | exact spec_ParseCosts.mono _ _
   | exact spec_l13Cut.mono _ _ _
   | exact LeO.none _
   | refine LeO.ite ?_ ?_
   | refine LeO.bind ?_ (fun _ => ?_)
theorem spec_ParseMatrix.mono : ∀ a0 k, LeO (spec_ParseMatrix.f k a0) (spec_ParseMatrix.f (k + 1) a0) := by
 intro a0 k; have ih0 := spec_ParseMatrix.mono_l k; unfold spec_ParseMatrix.f; repeat' first
   | (with_reducible exact ih0 _ _ _ _ _ _)
   | (with_reducible exact spec_MatrixValid.mono _ _ _)
   | (with_reducible exact spec_ParseCosts.mono _ _)
   | (with_reducible exact spec_l13Cut.mono _ _ _)
   | (with_reducible exact LeO.refl _)
   | (with_reducible exact LeO.none _)
   | (with_reducible refine LeO.ite ?_ ?_)
   | (with_reducible refine LeO.bind ?_ (fun _ => ?_))
   | exact ih0 _ _ _ _ _ _
   | exact spec_MatrixValid.mono _ _ _
   | exact spec_ParseCosts.mono _ _
   | exact spec_l13Cut.mono _ _ _
   | exact LeO.none _
   | refine LeO.ite ?_ ?_
   | refine LeO.bind ?_ (fun _ => ?_)
set_option maxHeartbeats 8000000 in
set_option maxRecDepth 100000 in
theorem spec_ParseMatrix.calls (k : Nat) (a0 : ByteArray) (r1 : Int) (r2 : List Int) (r3 : Bool) (w : World) (h : spec_ParseMatrix.f k a0 = some (r1, r2, r3)) :
  Calls Tryd.prog 33 #[.string a0] w fun e w' => ∃ v1_ : Value, e = .returned (.tuple #[.agg #[.int .i64 r1, v1_], .bool r3]) ∧ Kd.R (Kd.int .i64) 3 w' w.heap.size (fun _ => True) v1_ r2 ∧ Below w.heap.size w w' := by
 have hu44 := Tryd.underlying44; have HB := am (Below.refl w.heap.size w); have H : ((spec_l13Cut.f k a0 47).bind fun t218 => (spec_ParseMatrix.l0 k t218 t218 (t218.length : Int) 0 0 (([] : List Int)))) = some (r1, r2, r3) := h; clear h; obtain ⟨y214, hy214⟩ : ∃ y_ : List Int, y_ = (([] : List Int)) := ⟨_, rfl⟩
 replace H : ((spec_l13Cut.f k a0 47).bind fun t218 => (spec_ParseMatrix.l0 k t218 t218 (t218.length : Int) 0 0 y214)) = some (r1, r2, r3) := by first | (rw [hy214]; with_reducible exact H) | (have H2_ := (Option.bind_some _ _).symm.trans H; rw [hy214]; with_reducible exact H2_) | (have H2_ := (Option.bind_some _ _).symm.trans H; with_reducible exact H2_) | with_reducible exact H | (rw [hy214]; exact H) | exact H
 have Ny214 := am hy214; clear hy214; replace H := Option.bind_eq_some_iff.mp H; obtain ⟨t218, A20, H⟩ := H; (try dsimp only at H); have A2 := am A20; clear A20; have H' := am H; clear H; go_enter Tryd.func33, Tryd.ntmps33; go_wp2_with (first | ((with_reducible refine gx 2 rfl ?_); (try (refine gate_guard (by rfl) ?_; dsimp only)); refine be (cs := #[.int .i64 0, .slice none 0 0]) (t := 44) ?_; intro gb213 hg w3 hbox hb; have n0_ := hs HB hb; have n1_ := am (hbox); have n2_ := gs hg (bz HB.out); have n3_ := gs hg (bz HB.out); clear HB; revert n0_ n1_ n2_ n3_; intro HB BK213 GW213 GE213; clear hb hbox hg) | ((with_reducible refine gx 10 rfl ?_); (try (refine gate_guard (by rfl) ?_; dsimp only)); refine Kd.R_lit (Kd.int .i64) _ 3 ?hg (N := 10) ?hd (xs := ([] : List Int)) (inner := []) (ok := fun _ => True) (okp := fun _ => True) ?hr ?hp (fun _ hk => hk) trivial (Below.refl _ _) (Nat.le_refl _) (by simp) ?_; (case hd => rfl); (case hg => rfl); (case hr => first | (go_simp; done) | (go_simp; rfl)); (case hp => exact (Reps.none _ _)); intro v215 w4 ho5 hb hg_ hnew_; clear hg_ hnew_; (first | rw [← Ny214.out] at ho5 | (simp only [Int.reduceToNat] at ho5; rw [← Ny214.out] at ho5)); have n0_ := am (Kd.R_lower ho5 (below_size (bw HB.out))); have n1_ := bk BK213 hb; have n2_ := hs HB hb; clear BK213 HB; revert n0_ n1_ n2_; intro HO216 BK213 HB; clear hb ho5; obtain ⟨Ao6, co6, eo6⟩ := Kd.R_slice HO216.out; subst eo6) | ((with_reducible refine gx 4 rfl ?_); (try (refine gate_guard (by rfl) ?_; dsimp only)); refine be (cs := #[.int .i64 0, .slice none 0 0]) (t := 44) ?_; intro gb217 hg w7 hbox hb; have n0_ := rb HO216 hb; have n1_ := bk BK213 hb; have n2_ := hs HB hb; have n3_ := am (hbox); have n4_ := gs hg (bw HB.out); have n5_ := gs hg (bw HB.out); have n6_ := nl hg (kz BK213.out); have n7_ := nr hg (kz BK213.out); clear HO216 BK213 HB; revert n0_ n1_ n2_ n3_ n4_ n5_ n6_ n7_; intro HO216 BK213 HB BK217 GW217 GE217 NB213_217 NB217_213; clear hb hbox hg; have hnb8 := NB217_213.out; have hnc8 := NB213_217.out; have hz9 := zf2 BK217.out) | ((with_reducible refine gy 53 rfl ?_); refine gl Tryd.func53 #[.string a0, .int .u8 47] ?_; (with_reducible refine (spec_l13Cut.calls k a0 47 t218 _ A2.out).mono ?_); rintro e w10 ⟨v219, rfl, ho0, hb⟩; refine ⟨_, rfl, ?_⟩; have n0_ := am (Kd.R_below (r2z HO216 BK217 (by decide)) hb); have n1_ := am (Kd.R_lower ho0 (below_size (bw HB.out))); have n2_ := am (blk_below (kf BK213.out) hb); have n3_ := am (blk_below (kp BK217.out) hb); have n4_ := hs HB hb; clear HO216 BK213 BK217 HB; revert n0_ n1_ n2_ n3_ n4_; intro HO216 HO220 BK213 BK217 HB; (try clear hb); (try clear hb2); (try clear hk); (try clear hi); (try clear ho0); obtain ⟨Ao11, co11, eo11⟩ := Kd.R_slice HO220.out; subst eo11)); go_loopg [16] k (fun kq v16 w' => ∃ (x16_1 : Int) (x214000_1 : Int) (x218001_1 : List Int) (u218001 : Value), v16 = .int .i64 x16_1 ∧ Aside0 (spec_ParseMatrix.l0 kq t218 t218 (t218.length : Int) x16_1 0 x218001_1 = some (r1, r2, r3)) ∧ Aside0 (kq ≤ k) ∧ Aside0 (Kd.R Kd.string 9 w' w.heap.size (fun _ => True) (.slice Ao11 t218.length co11) t218) ∧ Aside0 (Kd.R Kd.string 9 w' w.heap.size (fun _ => True) (.slice Ao11 t218.length co11) t218) ∧ Aside0 (Kd.R (Kd.int .i64) 3 w' w.heap.size (fun _ => True) u218001 x218001_1) ∧ Aside0 (w'.heap[gb213]? = some (.cells #[.int .i64 x214000_1, (.slice none 0 0)] 44 (0, 0))) ∧ Aside0 (w'.heap[gb217]? = some (.cells #[.int .i64 0, u218001] 44 (0, 0))) ∧ Aside0 (Below w.heap.size w w'))
 case atStart => exact ⟨(0), (0), (y214), (.slice Ao6 y214.length co6), (by first | rfl | (simp; done) | (simp [*]; done)), H', ⟨Nat.le_refl _⟩, ⟨rz HO220.out⟩, ⟨rz HO220.out⟩, ⟨rz HO216.out⟩, ⟨kz BK213.out⟩, ⟨kz BK217.out⟩, ⟨by exact bw HB.out⟩⟩
 case round =>
  clear H'; (try clear p2); (try clear c3); (try clear c5); (try clear c8); obtain ⟨x16_1, x214000_1, x218001_1, u218001, rfl, HA, HK1, HO_5, HO_14, HO_218001, BK213, BK217, HB⟩ := hrel
  cases gk with
  | zero => exact absurd HA.out (by simp [spec_ParseMatrix.l0])
  | succ k1 =>
   have H := HA.out; clear HA; simp only [spec_ParseMatrix.l0] at H; by_cases c12 : x16_1 < (t218.length : Int)
   ·rw [if_pos c12] at H; have c12b0 : decide (x16_1 < (t218.length : Int)) = true := decide_eq_true c12; clear c12; by_cases c13 : 0 ≤ x16_1
    ·rw [if_pos c13] at H; have c13b0 : decide (0 ≤ x16_1) = true := decide_eq_true c13; clear c13; by_cases c14 : x16_1 < (t218.length : Int)
     ·rw [if_pos c14] at H; have c14b0 : decide (x16_1 < (t218.length : Int)) = true := decide_eq_true c14; clear c14; replace H := Option.bind_eq_some_iff.mp H; obtain ⟨⟨t222, t223⟩, A150, H⟩ := H; (try dsimp only at H); have A15 := am A150; clear A150; by_cases c16 : t223 = true
      ·subst c16
       have H1 : (if (t222.length : Int) = (t218.length : Int) then (if x218001_1.length + t222.length < 17592186044416 then (spec_ParseMatrix.l0 k1 t218 t218 (t218.length : Int) (wrap64 (x16_1 + 1)) 0 (x218001_1 ++ t222)) else (none)) else (some (0, ([] : List Int), false))) = some (r1, r2, r3) := by rw [if_pos rfl] at H; exact H
       clear H; have H := H1; clear H1; by_cases c17 : (t222.length : Int) = (t218.length : Int)
       ·rw [if_pos c17] at H; have c17b0 : ((t222.length : Int) == (t218.length : Int)) = true := beq_iff_eq.mpr c17; have c17b1 : ((t222.length : Int) != (t218.length : Int)) = false := bne_eq_false_iff_eq.mpr c17
        have c17b2 : (t222.length == t218.length) = true := by first | simpa using c17 | (simp at c17 ⊢; omega)
        clear c17; by_cases c18 : x218001_1.length + t222.length < 17592186044416
        ·rw [if_pos c18] at H; have LMc18 := am c18; clear c18; obtain ⟨y226, hy226⟩ : ∃ y_ : List Int, y_ = (x218001_1 ++ t222) := ⟨_, rfl⟩
         replace H : (spec_ParseMatrix.l0 k1 t218 t218 (t218.length : Int) (wrap64 (x16_1 + 1)) 0 y226) = some (r1, r2, r3) := by first | (rw [hy226]; with_reducible exact H) | (have H2_ := (Option.bind_some _ _).symm.trans H; rw [hy226]; with_reducible exact H2_) | (have H2_ := (Option.bind_some _ _).symm.trans H; with_reducible exact H2_) | with_reducible exact H | (rw [hy226]; exact H) | exact H
         have Ny226 := am hy226; clear hy226; have H' := am H; clear H; have p221 : 0 ≤ (x16_1 : Int) := da; have q221 : x16_1 < (t218.length : Int) := da; obtain ⟨ad221, e221, hx221_0⟩ := Kd.at_string (Kd.R_reads' HO_14.out).2.2 x16_1 p221 q221; cases e221; replace p221 := eq_true p221; replace q221 := eq_true q221; go_wp2_with (first | ((with_reducible refine gy 19 rfl ?_); refine gl Tryd.func19 #[.string (rdOf ByteArray.empty t218 x16_1)] ?_; (with_reducible refine (spec_ParseCosts.calls k1 (rdOf ByteArray.empty t218 x16_1) t222 true _ A15.out).mono ?_); rintro e w19 ⟨v224, rfl, ho0, hb⟩; refine ⟨_, rfl, ?_⟩; have n0_ := rb HO_5 hb; have n1_ := rb HO_14 hb; have n2_ := el HO_218001 (Kd.R_base ho0) hb; have n3_ := am (Kd.R_lower (Kd.R_new' ho0 (Kd.R_lt (rz HO_218001.out))) (below_size (bw HB.out))); have n4_ := bk BK213 hb; have n5_ := bk BK217 hb; have n6_ := hs HB hb; clear HO_5 HO_14 HO_218001 BK213 BK217 HB; revert n0_ n1_ n2_ n3_ n4_ n5_ n6_; intro HO_5 HO_14 HO_218001 HO225 BK213 BK217 HB; (try clear hb); (try clear hb2); (try clear hk); (try clear hi); (try clear ho0); obtain ⟨Ao20, co20, eo20⟩ := Kd.R_slice HO225.out; subst eo20; have hnb21 := NB217_213.out; have hnc21 := NB213_217.out; have hz22 := zf2 BK217.out) | ((with_reducible refine gate_builtin (b := .append) (xs := #[.tmp 36, .tmp 37]) rfl ?_); (try (refine gate_guard (by rfl) ?_; dsimp only)); at_builtin; refine Kd.R_append_rows (Kd.int .i64) (w0 := w) w.heap.size rfl (.tmp 36) (.tmp 37) 24 3 (.int .i64 0) 8 rfl Tryd.underlying24 info3 rfl (by decide) (by omega) u218001 x218001_1 t222 _ _ _ (fun k_ => NS Ao20 t222 co20 k_) (fun _ => False) rfl rfl ?aO ?aR (fun _ _ h => h) (fun _ h => h.elim) ?aF ?aB ?aS ?aL ?_; (case aR => exact cc ((Kd.R_reads' HO225.out).2.2)); (case aB => exact (bw HB.out)); (case aF => exact (fun k_ hk => Kd.fresh' (Kd.R_lt (rz HO225.out)) k_ hk)); (case aO => exact (rq (Kd.R_mono HO_218001.out (fun _ hk => hk.2)))); (case aS => exact (below_size (bw HB.out))); (case aL => have := LMc18.out; omega); intro v227 w23 ho hb hg hat; rw [← Ny226.out] at ho; have n0_ := am (Kd.R_over' (rz HO_5.out) (Kd.R_typed (rz HO_218001.out)) (by decide) hg); have n1_ := am (Kd.R_over' (rz HO_14.out) (Kd.R_typed (rz HO_218001.out)) (by decide) hg); have n2_ := am (blk_grown (kz BK213.out) hg (Kd.R_ne HO_218001.out BK213.out (by decide))); have n3_ := am (blk_grown (kz BK217.out) hg (Kd.R_ne HO_218001.out BK217.out (by decide))); have n4_ := am (Kd.R_after (ok := (fun _ => True)) (rz HO225.out) hg hat); have n5_ := am (hb); have n6_ := am (ho); clear HO_5 HO_14 BK213 BK217 HO225 HB HO_218001; revert n0_ n1_ n2_ n3_ n4_ n5_ n6_; intro HO_5 HO_14 BK213 BK217 HO225 HB HO228; clear ho hb hg hat; obtain ⟨Ao24, co24, eo24⟩ := Kd.R_slice HO228.out; subst eo24; have hz25 := zf2 BK217.out)); go_roundg k1
         case measure => have := HK1.out; omega
         case rel => exact ⟨(wrap64 (x16_1 + 1)), (x214000_1), (y226), (.slice Ao24 y226.length co24), (by first | rfl | (simp; done) | (simp [*]; done)), H', ⟨by have := HK1.out; omega⟩, ⟨rq (Kd.R_mono (q1 HO_5.out BK217.out (by decide)) (fun _ hk => trivial))⟩, ⟨rq (Kd.R_mono (q1 HO_14.out BK217.out (by decide)) (fun _ hk => trivial))⟩, ⟨rq (Kd.R_mono (q1 HO228.out BK217.out (by decide)) (fun _ hk => trivial))⟩, ⟨kp BK213.out⟩, ⟨kp BK217.out⟩, ⟨by exact bw HB.out⟩⟩
        ·rw [if_neg c18] at H; exact absurd H (by simp)
       ·rw [if_neg c17] at H; have c17b0 : ((t222.length : Int) == (t218.length : Int)) = false := beq_eq_false_iff_ne.mpr c17; have c17b1 : ((t222.length : Int) != (t218.length : Int)) = true := bne_iff_ne.mpr c17
        have c17b2 : (t222.length == t218.length) = false := by first | simpa using c17 | (simp at c17 ⊢; omega)
        simp only [Option.some.injEq, Prod.mk.injEq] at H; obtain ⟨rfl, rfl, rfl⟩ := H; have p221 : 0 ≤ (x16_1 : Int) := da; have q221 : x16_1 < (t218.length : Int) := da; obtain ⟨ad221, e221, hx221_0⟩ := Kd.at_string (Kd.R_reads' HO_14.out).2.2 x16_1 p221 q221; cases e221; replace p221 := eq_true p221; replace q221 := eq_true q221; go_wp2_with (first | ((with_reducible refine gy 19 rfl ?_); refine gl Tryd.func19 #[.string (rdOf ByteArray.empty t218 x16_1)] ?_; (with_reducible refine (spec_ParseCosts.calls k1 (rdOf ByteArray.empty t218 x16_1) t222 true _ A15.out).mono ?_); rintro e w26 ⟨v224, rfl, ho0, hb⟩; refine ⟨_, rfl, ?_⟩; have n0_ := rb HO_5 hb; have n1_ := rb HO_14 hb; have n2_ := el HO_218001 (Kd.R_base ho0) hb; have n3_ := am (Kd.R_lower (Kd.R_new' ho0 (Kd.R_lt (rz HO_218001.out))) (below_size (bw HB.out))); have n4_ := bk BK213 hb; have n5_ := bk BK217 hb; have n6_ := hs HB hb; clear HO_5 HO_14 HO_218001 BK213 BK217 HB; revert n0_ n1_ n2_ n3_ n4_ n5_ n6_; intro HO_5 HO_14 HO_218001 HO225 BK213 BK217 HB; (try clear hb); (try clear hb2); (try clear hk); (try clear hi); (try clear ho0); obtain ⟨Ao27, co27, eo27⟩ := Kd.R_slice HO225.out; subst eo27; have hnb28 := NB213_217.out; have hnc28 := NB217_213.out; have hz29 := zf2 BK213.out)); refine bodyPost_ret (results_ct rfl _ _ gb213 44 #[.int .i64 0, .slice none 0 0] (0, 0) _ rfl (kp BK213.out) Tryd.underlying44 rfl (by kernel_rfl)) rfl ?_; exact ⟨_, by first | rfl | (simp [errW_none, errW_some] <;> rfl) | (simp [*, errW_none, errW_some] <;> rfl), by first | exact Kd.R_nil _ _ _ _ _ | exact Kd.N_nil _ _ _ _ _ | exact Kd.V_nil _ _ _ _ _ | exact Kd.Q_nil _ _ _ _ _ | exact Kd.S_nil _ _ _ _ _, by exact bw HB.out⟩
      ·replace c16 := Bool.eq_false_iff.mpr c16; subst c16
       have H1 : (some (0, ([] : List Int), false)) = some (r1, r2, r3) := by rw [if_neg (show ¬ (false = true) by decide)] at H; exact H
       clear H; have H := H1; clear H1; simp only [Option.some.injEq, Prod.mk.injEq] at H; obtain ⟨rfl, rfl, rfl⟩ := H; have p221 : 0 ≤ (x16_1 : Int) := da; have q221 : x16_1 < (t218.length : Int) := da; obtain ⟨ad221, e221, hx221_0⟩ := Kd.at_string (Kd.R_reads' HO_14.out).2.2 x16_1 p221 q221; cases e221; replace p221 := eq_true p221; replace q221 := eq_true q221; go_wp2_with (first | ((with_reducible refine gy 19 rfl ?_); refine gl Tryd.func19 #[.string (rdOf ByteArray.empty t218 x16_1)] ?_; (with_reducible refine (spec_ParseCosts.calls k1 (rdOf ByteArray.empty t218 x16_1) t222 false _ A15.out).mono ?_); rintro e w30 ⟨v224, rfl, ho0, hb⟩; refine ⟨_, rfl, ?_⟩; have n0_ := rb HO_5 hb; have n1_ := rb HO_14 hb; have n2_ := el HO_218001 (Kd.R_base ho0) hb; have n3_ := am (Kd.R_lower (Kd.R_new' ho0 (Kd.R_lt (rz HO_218001.out))) (below_size (bw HB.out))); have n4_ := bk BK213 hb; have n5_ := bk BK217 hb; have n6_ := hs HB hb; clear HO_5 HO_14 HO_218001 BK213 BK217 HB; revert n0_ n1_ n2_ n3_ n4_ n5_ n6_; intro HO_5 HO_14 HO_218001 HO225 BK213 BK217 HB; (try clear hb); (try clear hb2); (try clear hk); (try clear hi); (try clear ho0); have hnb31 := NB213_217.out; have hnc31 := NB217_213.out; have hz32 := zf2 BK213.out)); refine bodyPost_ret (results_ct rfl _ _ gb213 44 #[.int .i64 0, .slice none 0 0] (0, 0) _ rfl (kp BK213.out) Tryd.underlying44 rfl (by kernel_rfl)) rfl ?_; exact ⟨_, by first | rfl | (simp [errW_none, errW_some] <;> rfl) | (simp [*, errW_none, errW_some] <;> rfl), by first | exact Kd.R_nil _ _ _ _ _ | exact Kd.N_nil _ _ _ _ _ | exact Kd.V_nil _ _ _ _ _ | exact Kd.Q_nil _ _ _ _ _ | exact Kd.S_nil _ _ _ _ _, by exact bw HB.out⟩
     ·rw [if_neg c14] at H; exact absurd H (by simp)
    ·rw [if_neg c13] at H; exact absurd H (by simp)
   ·rw [if_neg c12] at H; have c12b0 : decide (x16_1 < (t218.length : Int)) = false := decide_eq_false c12; clear c12; replace H := Option.bind_eq_some_iff.mp H; obtain ⟨t229, A330, H⟩ := H; (try dsimp only at H); have A33 := am A330; clear A330; by_cases c34 : t229 = true
    ·subst c34
     have H1 : (some ((t218.length : Int), x218001_1, true)) = some (r1, r2, r3) := by rw [if_pos rfl] at H; exact H
     clear H; have H := H1; clear H1; simp only [Option.some.injEq, Prod.mk.injEq] at H; obtain ⟨rfl, rfl, rfl⟩ := H; have hnb35 := NB217_213.out; have hnc35 := NB213_217.out; have hz36 := zf2 BK217.out; obtain ⟨Ao37, co37, eo37⟩ := Kd.R_slice HO_218001.out; subst eo37; go_wp2_with (first | ((with_reducible refine gy 39 rfl ?_); refine gl Tryd.func39 #[.agg #[.int .i64 (t218.length : Int), .slice Ao37 x218001_1.length co37]] ?_; (with_reducible refine (spec_MatrixValid.calls k1 (t218.length : Int) _ _ x218001_1 true _ ?side1 ?side2 A33.out).mono ?_); (case side1 => refine (Kd.R_reads' (e := 3) (base := w.heap.size) (ok := fun k_ => True) (n := x218001_1.length) (c := co37) ?_).2.2; exact (rq (q1 HO_218001.out BK217.out (by decide)))); (case side2 => exact (Kd.R_reads' HO_218001.out).2.1); rintro e w38 ⟨rfl, hb⟩; refine ⟨_, rfl, ?_⟩; have n0_ := am (Kd.R_below (rq (q1 HO_5.out BK217.out (by decide))) hb); have n1_ := am (Kd.R_below (rq (q1 HO_14.out BK217.out (by decide))) hb); have n2_ := am (Kd.R_below (rq (q1 HO_218001.out BK217.out (by decide))) hb); have n3_ := am (blk_below (kf BK213.out) hb); have n4_ := am (blk_below (kp BK217.out) hb); have n5_ := hs HB hb; clear HO_5 HO_14 HO_218001 BK213 BK217 HB; revert n0_ n1_ n2_ n3_ n4_ n5_; intro HO_5 HO_14 HO_218001 BK213 BK217 HB; (try clear hb); (try clear hb2); (try clear hk); (try clear hi); have hz39 := zf2 BK217.out; have hz40 := zf2 BK213.out)); refine bodyPost_ret (results_ct rfl _ _ gb213 44 #[.int .i64 (t218.length : Int), .slice Ao37 x218001_1.length co37] (0, 0) _ rfl (kp BK213.out) Tryd.underlying44 rfl (by kernel_rfl)) rfl ?_; exact ⟨_, by first | rfl | (simp [errW_none, errW_some] <;> rfl) | (simp [*, errW_none, errW_some] <;> rfl), rq (Kd.R_mono (q2 HO_218001.out BK213.out (by decide)) (fun _ hk => trivial)), by exact bw HB.out⟩
    ·replace c34 := Bool.eq_false_iff.mpr c34; subst c34
     have H1 : (some (0, ([] : List Int), false)) = some (r1, r2, r3) := by rw [if_neg (show ¬ (false = true) by decide)] at H; exact H
     clear H; have H := H1; clear H1; simp only [Option.some.injEq, Prod.mk.injEq] at H; obtain ⟨rfl, rfl, rfl⟩ := H; have hnb41 := NB217_213.out; have hnc41 := NB213_217.out; have hz42 := zf2 BK217.out; obtain ⟨Ao43, co43, eo43⟩ := Kd.R_slice HO_218001.out; subst eo43; go_wp2_with (first | ((with_reducible refine gy 39 rfl ?_); refine gl Tryd.func39 #[.agg #[.int .i64 (t218.length : Int), .slice Ao43 x218001_1.length co43]] ?_; (with_reducible refine (spec_MatrixValid.calls k1 (t218.length : Int) _ _ x218001_1 false _ ?side1 ?side2 A33.out).mono ?_); (case side1 => refine (Kd.R_reads' (e := 3) (base := w.heap.size) (ok := fun k_ => True) (n := x218001_1.length) (c := co43) ?_).2.2; exact (rq (q1 HO_218001.out BK217.out (by decide)))); (case side2 => exact (Kd.R_reads' HO_218001.out).2.1); rintro e w44 ⟨rfl, hb⟩; refine ⟨_, rfl, ?_⟩; have n0_ := am (Kd.R_below (rq (q1 HO_5.out BK217.out (by decide))) hb); have n1_ := am (Kd.R_below (rq (q1 HO_14.out BK217.out (by decide))) hb); have n2_ := am (Kd.R_below (rq (q1 HO_218001.out BK217.out (by decide))) hb); have n3_ := am (blk_below (kf BK213.out) hb); have n4_ := am (blk_below (kp BK217.out) hb); have n5_ := hs HB hb; clear HO_5 HO_14 HO_218001 BK213 BK217 HB; revert n0_ n1_ n2_ n3_ n4_ n5_; intro HO_5 HO_14 HO_218001 BK213 BK217 HB; (try clear hb); (try clear hb2); (try clear hk); (try clear hi); have hz45 := zf2 BK213.out)); refine bodyPost_ret (results_ct rfl _ _ gb213 44 #[.int .i64 0, .slice none 0 0] (0, 0) _ rfl (kp BK213.out) Tryd.underlying44 rfl (by kernel_rfl)) rfl ?_; exact ⟨_, by first | rfl | (simp [errW_none, errW_some] <;> rfl) | (simp [*, errW_none, errW_some] <;> rfl), by first | exact Kd.R_nil _ _ _ _ _ | exact Kd.N_nil _ _ _ _ _ | exact Kd.V_nil _ _ _ _ _ | exact Kd.Q_nil _ _ _ _ _ | exact Kd.S_nil _ _ _ _ _, by exact bw HB.out⟩

/-! ### impl_MatrixValid_1: function 63 -/
def impl_MatrixValid_1.f (a0 : Int) : Option (Bool) := (impl_CostValid.f a0).bind fun t240 => (some (!t240))
set_option maxHeartbeats 8000000 in
set_option maxRecDepth 100000 in
theorem impl_MatrixValid_1.calls (a0 : Int) (r : Bool) (w : World) (h : impl_MatrixValid_1.f a0 = some r) :
  Calls Tryd.prog 63 #[.int .i64 a0] w fun e w' => e = .returned (.bool r) ∧ Drawn0 w w' := by
 have H : ((impl_CostValid.f a0).bind fun t240 => (some (!t240))) = some r := h; clear h; replace H := Option.bind_eq_some_iff.mp H; obtain ⟨t240, A20, H⟩ := H; (try dsimp only at H); have A2 := am A20; clear A20; obtain rfl := Option.some.inj H; go_enter Tryd.func63, Tryd.ntmps63; go_wp2_with (first | ((with_reducible refine gy 47 rfl ?_); refine gl Tryd.func47 #[.int .i64 a0] ?_; (with_reducible refine (impl_CostValid.calls a0 t240 _ A2.out).mono ?_); rintro e w' ⟨rfl, ⟨nd, rfl⟩⟩; refine ⟨_, rfl, ?_⟩)); go_ret; exact ⟨by first | rfl | (simp; done) | (simp [*]; done), by repeat (first | exact Drawn0.refl _ | apply Drawn0.step)⟩

/-! ### slices_IndexFunc_int_int_at_impl_MatrixValid_1: function 200001 -/
def slices_IndexFunc_int_int_at_impl_MatrixValid_1.l0 : Nat → List Int → Int → Int → Option (Int)
 | 0, _, _, _ => none
 | k + 1, x0, x7, x8 => if x8 < x7 then (if 0 ≤ x8 then (if x8 < (x0.length : Int) then ((impl_MatrixValid_1.f (rd x0 x8)).bind fun t242 => (if t242 = true then (some x8) else (slices_IndexFunc_int_int_at_impl_MatrixValid_1.l0 k x0 x7 (wrap64 (x8 + 1))))) else (none)) else (none)) else (some (-1))
def slices_IndexFunc_int_int_at_impl_MatrixValid_1.f (k : Nat) (l0 : List Int) : Option (Int) := slices_IndexFunc_int_int_at_impl_MatrixValid_1.l0 k l0 (l0.length : Int) 0
theorem slices_IndexFunc_int_int_at_impl_MatrixValid_1.mono_l : ∀ k, (∀ y0 y1 y2, LeO (slices_IndexFunc_int_int_at_impl_MatrixValid_1.l0 k y0 y1 y2) (slices_IndexFunc_int_int_at_impl_MatrixValid_1.l0 (k + 1) y0 y1 y2))
 | 0 => fun _ _ _ r h => by simp [slices_IndexFunc_int_int_at_impl_MatrixValid_1.l0] at h
 | k + 1 => by
  have ih0 := slices_IndexFunc_int_int_at_impl_MatrixValid_1.mono_l k
  ·intro y0 y1 y2; unfold slices_IndexFunc_int_int_at_impl_MatrixValid_1.l0; repeat' first
   | (with_reducible exact ih0 _ _ _)
   | (with_reducible exact LeO.refl _)
   | (with_reducible exact LeO.none _)
   | (with_reducible refine LeO.ite ?_ ?_)
   | (with_reducible refine LeO.bind ?_ (fun _ => ?_))
   | exact ih0 _ _ _
   | exact LeO.none _
   | refine LeO.ite ?_ ?_
   | refine LeO.bind ?_ (fun _ => ?_)
theorem slices_IndexFunc_int_int_at_impl_MatrixValid_1.mono : ∀ a0 k, LeO (slices_IndexFunc_int_int_at_impl_MatrixValid_1.f k a0) (slices_IndexFunc_int_int_at_impl_MatrixValid_1.f (k + 1) a0) := by
 intro a0 k; have ih0 := slices_IndexFunc_int_int_at_impl_MatrixValid_1.mono_l k; unfold slices_IndexFunc_int_int_at_impl_MatrixValid_1.f; repeat' first
   | (with_reducible exact ih0 _ _ _)
   | (with_reducible exact LeO.refl _)
   | (with_reducible exact LeO.none _)
   | (with_reducible refine LeO.ite ?_ ?_)
   | (with_reducible refine LeO.bind ?_ (fun _ => ?_))
   | exact ih0 _ _ _
   | exact LeO.none _
   | refine LeO.ite ?_ ?_
   | refine LeO.bind ?_ (fun _ => ?_)
set_option maxHeartbeats 8000000 in
set_option maxRecDepth 100000 in
theorem slices_IndexFunc_int_int_at_impl_MatrixValid_1.calls (k : Nat) (A0 : Option Addr) (c0 : Nat) (l0 : List Int) (r : Int) (w : World) (hr0 : Kd.C (Kd.int .i64) w A0 l0.length l0) (hc0 : l0.length ≤ c0) (h : slices_IndexFunc_int_int_at_impl_MatrixValid_1.f k l0 = some r) :
  Calls Tryd.prog 79 #[.slice A0 l0.length c0, .func (.func 63) #[] #[]] w fun e w' => e = .returned (.int .i64 r) ∧ Drawn0 w w' := by
 have HR0 := am hr0; have HC0 := am hc0; clear hr0 hc0; have H : (slices_IndexFunc_int_int_at_impl_MatrixValid_1.l0 k l0 (l0.length : Int) 0) = some r := h; clear h; have H' := am H; clear H; go_enter Tryd.func79, Tryd.ntmps79; go_wp2; go_loopg [8] k (fun kq v8 w' => ∃ (x8_1 : Int), v8 = .int .i64 x8_1 ∧ Aside0 (slices_IndexFunc_int_int_at_impl_MatrixValid_1.l0 kq l0 (l0.length : Int) x8_1 = some r) ∧ Aside0 (kq ≤ k) ∧ Drawn0 w w')
 case atStart => exact ⟨(0), (by first | rfl | (simp; done) | (simp [*]; done)), H', ⟨Nat.le_refl _⟩, by repeat (first | exact Drawn0.refl _ | apply Drawn0.step)⟩
 case round =>
  clear H'; obtain ⟨x8_1, rfl, HA, HK1, ⟨m1, rfl⟩⟩ := hrel
  cases gk with
  | zero => exact absurd HA.out (by simp [slices_IndexFunc_int_int_at_impl_MatrixValid_1.l0])
  | succ k1 =>
   have H := HA.out; clear HA; simp only [slices_IndexFunc_int_int_at_impl_MatrixValid_1.l0] at H; by_cases c2 : x8_1 < (l0.length : Int)
   ·rw [if_pos c2] at H; have c2b0 : decide (x8_1 < (l0.length : Int)) = true := decide_eq_true c2; clear c2; by_cases c3 : 0 ≤ x8_1
    ·rw [if_pos c3] at H; have c3b0 : decide (0 ≤ x8_1) = true := decide_eq_true c3; clear c3; by_cases c4 : x8_1 < (l0.length : Int)
     ·rw [if_pos c4] at H; have c4b0 : decide (x8_1 < (l0.length : Int)) = true := decide_eq_true c4; clear c4; replace H := Option.bind_eq_some_iff.mp H; obtain ⟨t242, A50, H⟩ := H; (try dsimp only at H); have A5 := am A50; clear A50; by_cases c6 : t242 = true
      ·subst c6
       have H1 : (some x8_1) = some r := by rw [if_pos rfl] at H; exact H
       clear H; have H := H1; clear H1; obtain rfl := Option.some.inj H; have p241 : 0 ≤ (x8_1 : Int) := da; have q241 : x8_1 < (l0.length : Int) := da; obtain ⟨ad241, e241, hx241_0⟩ := Kd.at_int HR0.out x8_1 p241 q241; cases e241; replace p241 := eq_true p241; replace q241 := eq_true q241; go_wp2_with (first | ((with_reducible refine gate_value 11 rfl ?_); refine goesV_ (some 16) rfl rfl Tryd.func63 (by kernel_rfl) rfl #[.int .i64 (rd l0 x8_1)] #[] #[.int .i64 (rd l0 x8_1)] rfl rfl (by (try simp only [List.map_toArray, List.map_cons, List.map_nil]); first | done | rfl | (simp only [List.length_drop, List.length_take]; rfl)) rfl ?_; (with_reducible refine (impl_MatrixValid_1.calls (rd l0 x8_1) true _ A5.out).mono ?_); rintro e w' ⟨rfl, ⟨nd, rfl⟩⟩; refine ⟨_, rfl, ?_⟩)); go_ret; exact ⟨by first | rfl | (simp; done) | (simp [*]; done), by repeat (first | exact Drawn0.refl _ | apply Drawn0.step)⟩
      ·replace c6 := Bool.eq_false_iff.mpr c6; subst c6
       have H1 : (slices_IndexFunc_int_int_at_impl_MatrixValid_1.l0 k1 l0 (l0.length : Int) (wrap64 (x8_1 + 1))) = some r := by rw [if_neg (show ¬ (false = true) by decide)] at H; exact H
       clear H; have H := H1; clear H1; have H' := am H; clear H; have p241 : 0 ≤ (x8_1 : Int) := da; have q241 : x8_1 < (l0.length : Int) := da; obtain ⟨ad241, e241, hx241_0⟩ := Kd.at_int HR0.out x8_1 p241 q241; cases e241; replace p241 := eq_true p241; replace q241 := eq_true q241; go_wp2_with (first | ((with_reducible refine gate_value 11 rfl ?_); refine goesV_ (some 16) rfl rfl Tryd.func63 (by kernel_rfl) rfl #[.int .i64 (rd l0 x8_1)] #[] #[.int .i64 (rd l0 x8_1)] rfl rfl (by (try simp only [List.map_toArray, List.map_cons, List.map_nil]); first | done | rfl | (simp only [List.length_drop, List.length_take]; rfl)) rfl ?_; (with_reducible refine (impl_MatrixValid_1.calls (rd l0 x8_1) false _ A5.out).mono ?_); rintro e w' ⟨rfl, ⟨nd, rfl⟩⟩; refine ⟨_, rfl, ?_⟩)); go_roundg k1
       case measure => have := HK1.out; omega
       case rel => exact ⟨(wrap64 (x8_1 + 1)), (by first | rfl | (simp; done) | (simp [*]; done)), H', ⟨by have := HK1.out; omega⟩, by repeat (first | exact Drawn0.refl _ | apply Drawn0.step)⟩
     ·rw [if_neg c4] at H; exact absurd H (by simp)
    ·rw [if_neg c3] at H; exact absurd H (by simp)
   ·rw [if_neg c2] at H; have c2b0 : decide (x8_1 < (l0.length : Int)) = false := decide_eq_false c2; clear c2; obtain rfl := Option.some.inj H; go_wp2; go_ret; exact ⟨by first | rfl | (simp; done) | (simp [*]; done), by repeat (first | exact Drawn0.refl _ | apply Drawn0.step)⟩

/-! ### slices_ContainsFunc_int_int_at_impl_MatrixValid_1: function 200000 -/
def slices_ContainsFunc_int_int_at_impl_MatrixValid_1.f (k : Nat) (l0 : List Int) : Option (Bool) := (slices_IndexFunc_int_int_at_impl_MatrixValid_1.f k l0).bind fun t243 => (some (decide (t243 ≥ 0)))
theorem slices_ContainsFunc_int_int_at_impl_MatrixValid_1.mono : ∀ a0 k, LeO (slices_ContainsFunc_int_int_at_impl_MatrixValid_1.f k a0) (slices_ContainsFunc_int_int_at_impl_MatrixValid_1.f (k + 1) a0) := by
 intro a0 k; unfold slices_ContainsFunc_int_int_at_impl_MatrixValid_1.f; repeat' first
   | (with_reducible exact slices_IndexFunc_int_int_at_impl_MatrixValid_1.mono _ _)
   | (with_reducible exact LeO.refl _)
   | (with_reducible exact LeO.none _)
   | (with_reducible refine LeO.ite ?_ ?_)
   | (with_reducible refine LeO.bind ?_ (fun _ => ?_))
   | exact slices_IndexFunc_int_int_at_impl_MatrixValid_1.mono _ _
   | exact LeO.none _
   | refine LeO.ite ?_ ?_
   | refine LeO.bind ?_ (fun _ => ?_)
set_option maxHeartbeats 8000000 in
set_option maxRecDepth 100000 in
theorem slices_ContainsFunc_int_int_at_impl_MatrixValid_1.calls (k : Nat) (A0 : Option Addr) (c0 : Nat) (l0 : List Int) (r : Bool) (w : World) (hr0 : Kd.C (Kd.int .i64) w A0 l0.length l0) (hc0 : l0.length ≤ c0) (h : slices_ContainsFunc_int_int_at_impl_MatrixValid_1.f k l0 = some r) :
  Calls Tryd.prog 62 #[.slice A0 l0.length c0, .func (.func 63) #[] #[]] w fun e w' => e = .returned (.bool r) ∧ Drawn0 w w' := by
 have HR0 := am hr0; have HC0 := am hc0; clear hr0 hc0; have H : ((slices_IndexFunc_int_int_at_impl_MatrixValid_1.f k l0).bind fun t243 => (some (decide (t243 ≥ 0)))) = some r := h; clear h; replace H := Option.bind_eq_some_iff.mp H; obtain ⟨t243, A20, H⟩ := H; (try dsimp only at H); have A2 := am A20; clear A20; obtain rfl := Option.some.inj H; go_enter Tryd.func62, Tryd.ntmps62; go_wp2_with (first | ((with_reducible refine gy 79 rfl ?_); refine gl Tryd.func79 #[.slice A0 l0.length c0, .func (.func 63) #[] #[]] ?_; (with_reducible refine (slices_IndexFunc_int_int_at_impl_MatrixValid_1.calls k _ _ l0 t243 _ ?side1 ?side2 A2.out).mono ?_); (case side1 => exact cc HR0.out); (case side2 => exact HC0.out); rintro e w' ⟨rfl, ⟨nd, rfl⟩⟩; refine ⟨_, rfl, ?_⟩)); go_ret; exact ⟨by first | rfl | (simp; done) | (simp [*]; done), by repeat (first | exact Drawn0.refl _ | apply Drawn0.step)⟩

/-! ### impl_MatrixValid: function 38 -/
def impl_MatrixValid.f (k : Nat) (a0_0 : Int) (l0_1 : List Int) : Option (Bool) := if a0_0 < 1 then (some false) else (if a0_0 > 4 then (some false) else (if (l0_1.length : Int) = (wrap64 (a0_0 * a0_0)) then ((slices_ContainsFunc_int_int_at_impl_MatrixValid_1.f k l0_1).bind fun t245 => (some (!t245))) else (some false)))
theorem impl_MatrixValid.mono : ∀ a0 a1 k, LeO (impl_MatrixValid.f k a0 a1) (impl_MatrixValid.f (k + 1) a0 a1) := by
 intro a0 a1 k; unfold impl_MatrixValid.f; repeat' first
   | (with_reducible exact slices_ContainsFunc_int_int_at_impl_MatrixValid_1.mono _ _)
   | (with_reducible exact LeO.refl _)
   | (with_reducible exact LeO.none _)
   | (with_reducible refine LeO.ite ?_ ?_)
   | (with_reducible refine LeO.bind ?_ (fun _ => ?_))
   | exact slices_ContainsFunc_int_int_at_impl_MatrixValid_1.mono _ _
   | exact LeO.none _
   | refine LeO.ite ?_ ?_
   | refine LeO.bind ?_ (fun _ => ?_)
set_option maxHeartbeats 8000000 in
set_option maxRecDepth 100000 in
theorem impl_MatrixValid.calls (k : Nat) (a0_0 : Int) (A0_1 : Option Addr) (c0_1 : Nat) (l0_1 : List Int) (r : Bool) (w : World) (hr0_1 : Kd.C (Kd.int .i64) w A0_1 l0_1.length l0_1) (hc0_1 : l0_1.length ≤ c0_1) (h : impl_MatrixValid.f k a0_0 l0_1 = some r) :
  Calls Tryd.prog 38 #[.agg #[.int .i64 a0_0, .slice A0_1 l0_1.length c0_1]] w fun e w' => e = .returned (.bool r) ∧ Below w.heap.size w w' := by
 have hu44 := Tryd.underlying44; have HR0_1 := am hr0_1; have HC0_1 := am hc0_1; clear hr0_1 hc0_1; have HB := am (Below.refl w.heap.size w); have H : (if a0_0 < 1 then (some false) else (if a0_0 > 4 then (some false) else (if (l0_1.length : Int) = (wrap64 (a0_0 * a0_0)) then ((slices_ContainsFunc_int_int_at_impl_MatrixValid_1.f k l0_1).bind fun t245 => (some (!t245))) else (some false)))) = some r := h; clear h; by_cases c2 : a0_0 < 1
 ·rw [if_pos c2] at H; have c2b0 : decide (a0_0 < 1) = true := decide_eq_true c2; clear c2; obtain rfl := Option.some.inj H; go_enter Tryd.func38, Tryd.ntmps38; go_wp2_with (first | ((with_reducible refine gx 1 rfl ?_); (try (refine gate_guard (by rfl) ?_; dsimp only)); refine be (cs := #[.int .i64 a0_0, .slice A0_1 l0_1.length c0_1]) (t := 44) ?_; intro gb244 hg w3 hbox hb; have n0_ := hs HB hb; have n1_ := am (hbox); have n2_ := gs hg (bz HB.out); have n3_ := gs hg (bz HB.out); clear HB; revert n0_ n1_ n2_ n3_; intro HB BK244 GW244 GE244; clear hb hbox hg; have hz4 := zf2 BK244.out)); go_ret; exact ⟨by first | rfl | (simp [errW_none, errW_some] <;> rfl) | (simp [*, errW_none, errW_some] <;> rfl), by exact bw HB.out⟩
 ·rw [if_neg c2] at H; have c2b0 : decide (a0_0 < 1) = false := decide_eq_false c2; clear c2; by_cases c5 : a0_0 > 4
  ·rw [if_pos c5] at H; have c5b0 : decide (4 < a0_0) = true := decide_eq_true c5; clear c5; obtain rfl := Option.some.inj H; go_enter Tryd.func38, Tryd.ntmps38; go_wp2_with (first | ((with_reducible refine gx 1 rfl ?_); (try (refine gate_guard (by rfl) ?_; dsimp only)); refine be (cs := #[.int .i64 a0_0, .slice A0_1 l0_1.length c0_1]) (t := 44) ?_; intro gb244 hg w6 hbox hb; have n0_ := hs HB hb; have n1_ := am (hbox); have n2_ := gs hg (bz HB.out); have n3_ := gs hg (bz HB.out); clear HB; revert n0_ n1_ n2_ n3_; intro HB BK244 GW244 GE244; clear hb hbox hg; have hz7 := zf2 BK244.out)); go_ret; exact ⟨by first | rfl | (simp [errW_none, errW_some] <;> rfl) | (simp [*, errW_none, errW_some] <;> rfl), by exact bw HB.out⟩
  ·rw [if_neg c5] at H; have c5b0 : decide (4 < a0_0) = false := decide_eq_false c5; clear c5; by_cases c8 : (l0_1.length : Int) = (wrap64 (a0_0 * a0_0))
   ·rw [if_pos c8] at H; have c8b0 : ((l0_1.length : Int) == (wrap64 (a0_0 * a0_0))) = true := beq_iff_eq.mpr c8; have c8b1 : ((l0_1.length : Int) != (wrap64 (a0_0 * a0_0))) = false := bne_eq_false_iff_eq.mpr c8; clear c8; replace H := Option.bind_eq_some_iff.mp H; obtain ⟨t245, A90, H⟩ := H; (try dsimp only at H); have A9 := am A90; clear A90; obtain rfl := Option.some.inj H; go_enter Tryd.func38, Tryd.ntmps38; go_wp2_with (first | ((with_reducible refine gx 1 rfl ?_); (try (refine gate_guard (by rfl) ?_; dsimp only)); refine be (cs := #[.int .i64 a0_0, .slice A0_1 l0_1.length c0_1]) (t := 44) ?_; intro gb244 hg w10 hbox hb; have n0_ := hs HB hb; have n1_ := am (hbox); have n2_ := gs hg (bz HB.out); have n3_ := gs hg (bz HB.out); clear HB; revert n0_ n1_ n2_ n3_; intro HB BK244 GW244 GE244; clear hb hbox hg; have hz11 := zf2 BK244.out) | ((with_reducible refine gy 62 rfl ?_); refine gl Tryd.func62 #[.slice A0_1 l0_1.length c0_1, .func (.func 63) #[] #[]] ?_; (with_reducible refine (slices_ContainsFunc_int_int_at_impl_MatrixValid_1.calls k _ _ l0_1 t245 _ ?side1 ?side2 A9.out).mono ?_); (case side1 => exact cc (Kd.C_below HR0_1.out HB.out)); (case side2 => exact HC0_1.out); rintro e w' ⟨rfl, ⟨nd, rfl⟩⟩; refine ⟨_, rfl, ?_⟩)); go_ret; exact ⟨by first | rfl | (simp [errW_none, errW_some] <;> rfl) | (simp [*, errW_none, errW_some] <;> rfl), by exact bw HB.out⟩
   ·rw [if_neg c8] at H; have c8b0 : ((l0_1.length : Int) == (wrap64 (a0_0 * a0_0))) = false := beq_eq_false_iff_ne.mpr c8; have c8b1 : ((l0_1.length : Int) != (wrap64 (a0_0 * a0_0))) = true := bne_iff_ne.mpr c8; obtain rfl := Option.some.inj H; go_enter Tryd.func38, Tryd.ntmps38; go_wp2_with (first | ((with_reducible refine gx 1 rfl ?_); (try (refine gate_guard (by rfl) ?_; dsimp only)); refine be (cs := #[.int .i64 a0_0, .slice A0_1 l0_1.length c0_1]) (t := 44) ?_; intro gb244 hg w12 hbox hb; have n0_ := hs HB hb; have n1_ := am (hbox); have n2_ := gs hg (bz HB.out); have n3_ := gs hg (bz HB.out); clear HB; revert n0_ n1_ n2_ n3_; intro HB BK244 GW244 GE244; clear hb hbox hg; have hz13 := zf2 BK244.out)); go_ret; exact ⟨by first | rfl | (simp [errW_none, errW_some] <;> rfl) | (simp [*, errW_none, errW_some] <;> rfl), by exact bw HB.out⟩

/-! ### impl_rows_at_impl_FormatCosts: function 200002 -/
def impl_rows_at_impl_FormatCosts.l0 : Nat → List ByteArray → Int → Int → Int → List Int → Option (ByteArray)
 | 0, _, _, _, _, _ => none
 | k + 1, x5, x9, x10, x247000, x247001 => if x10 < x9 then (if 0 ≤ (wrap64 (x10 * x247000)) then (if (wrap64 (x10 * x247000)) ≤ (wrap64 ((wrap64 (x10 + 1)) * x247000)) then (if (wrap64 ((wrap64 (x10 + 1)) * x247000)) ≤ (x247001.length : Int) then ((impl_FormatCosts.f k ((x247001.take ((wrap64 ((wrap64 (x10 + 1)) * x247000)) : Int).toNat).drop ((wrap64 (x10 * x247000)) : Int).toNat)).bind fun t251 => (if x5.length < 8796093022208 then (impl_rows_at_impl_FormatCosts.l0 k (x5 ++ [t251]) x9 (wrap64 (x10 + 1)) x247000 x247001) else (none))) else (none)) else (none)) else (none)) else ((strings_Join.f x5 (⟨#[47]⟩ : ByteArray)).bind fun t255 => (some t255))
def impl_rows_at_impl_FormatCosts.f (k : Nat) (a0_0 : Int) (l0_1 : List Int) : Option (ByteArray) := impl_rows_at_impl_FormatCosts.l0 k (([] : List ByteArray)) a0_0 0 a0_0 l0_1
theorem impl_rows_at_impl_FormatCosts.mono_l : ∀ k, (∀ y0 y1 y2 y3 y4, LeO (impl_rows_at_impl_FormatCosts.l0 k y0 y1 y2 y3 y4) (impl_rows_at_impl_FormatCosts.l0 (k + 1) y0 y1 y2 y3 y4))
 | 0 => fun _ _ _ _ _ r h => by simp [impl_rows_at_impl_FormatCosts.l0] at h
 | k + 1 => by
  have ih0 := impl_rows_at_impl_FormatCosts.mono_l k
  ·intro y0 y1 y2 y3 y4; unfold impl_rows_at_impl_FormatCosts.l0; repeat' first
   | (with_reducible exact ih0 _ _ _ _ _)
   | (with_reducible exact impl_FormatCosts.mono _ _)
   | (with_reducible exact LeO.refl _)
   | (with_reducible exact LeO.none _)
   | (with_reducible refine LeO.ite ?_ ?_)
   | (with_reducible refine LeO.bind ?_ (fun _ => ?_))
   | exact ih0 _ _ _ _ _
   | exact impl_FormatCosts.mono _ _
   | exact LeO.none _
   | refine LeO.ite ?_ ?_
   | refine LeO.bind ?_ (fun _ => ?_)
theorem impl_rows_at_impl_FormatCosts.mono : ∀ a0 a1 k, LeO (impl_rows_at_impl_FormatCosts.f k a0 a1) (impl_rows_at_impl_FormatCosts.f (k + 1) a0 a1) := by
 intro a0 a1 k; have ih0 := impl_rows_at_impl_FormatCosts.mono_l k; unfold impl_rows_at_impl_FormatCosts.f; repeat' first
   | (with_reducible exact ih0 _ _ _ _ _)
   | (with_reducible exact impl_FormatCosts.mono _ _)
   | (with_reducible exact LeO.refl _)
   | (with_reducible exact LeO.none _)
   | (with_reducible refine LeO.ite ?_ ?_)
   | (with_reducible refine LeO.bind ?_ (fun _ => ?_))
   | exact ih0 _ _ _ _ _
   | exact impl_FormatCosts.mono _ _
   | exact LeO.none _
   | refine LeO.ite ?_ ?_
   | refine LeO.bind ?_ (fun _ => ?_)
set_option maxHeartbeats 8000000 in
set_option maxRecDepth 100000 in
theorem impl_rows_at_impl_FormatCosts.calls (k : Nat) (a0_0 : Int) (A0_1 : Option Addr) (c0_1 : Nat) (l0_1 : List Int) (r : ByteArray) (w : World) (hr0_1 : Kd.C (Kd.int .i64) w A0_1 l0_1.length l0_1) (hc0_1 : l0_1.length ≤ c0_1) (h : impl_rows_at_impl_FormatCosts.f k a0_0 l0_1 = some r) (hD : Door w) :
  Calls Tryd.prog 60 #[.agg #[.int .i64 a0_0, .slice A0_1 l0_1.length c0_1], .func (.func 15) #[] #[]] w fun e w' => e = .returned (.string r) ∧ Below w.heap.size w w' := by
 have HD := am hD; clear hD; have hu44 := Tryd.underlying44; have HR0_1 := am hr0_1; have HC0_1 := am hc0_1; clear hr0_1 hc0_1; have HB := am (Below.refl w.heap.size w); have H : (impl_rows_at_impl_FormatCosts.l0 k (([] : List ByteArray)) a0_0 0 a0_0 l0_1) = some r := h; clear h; obtain ⟨y247, hy247⟩ : ∃ y_ : List ByteArray, y_ = (([] : List ByteArray)) := ⟨_, rfl⟩
 replace H : (impl_rows_at_impl_FormatCosts.l0 k y247 a0_0 0 a0_0 l0_1) = some r := by first | (rw [hy247]; with_reducible exact H) | (have H2_ := (Option.bind_some _ _).symm.trans H; rw [hy247]; with_reducible exact H2_) | (have H2_ := (Option.bind_some _ _).symm.trans H; with_reducible exact H2_) | with_reducible exact H | (rw [hy247]; exact H) | exact H
 have Ny247 := am hy247; clear hy247; have H' := am H; clear H; go_enter Tryd.func60, Tryd.ntmps60; go_wp2_with (first | ((with_reducible refine gx 2 rfl ?_); refine be (cs := #[.int .i64 a0_0, .slice A0_1 l0_1.length c0_1]) (t := 44) ?_; intro gb246 hg w2 hbox hb; have n0_ := hs HB hb; have n1_ := am (hbox); have n2_ := gs hg (bz HB.out); have n3_ := gs hg (bz HB.out); clear HB; revert n0_ n1_ n2_ n3_; intro HB BK246 GW246 GE246; clear hb hbox hg) | ((with_reducible refine gx 7 rfl ?_); refine Kd.R_lit Kd.string _ 9 ?hg (N := 7) ?hd (xs := ([] : List ByteArray)) (inner := []) (ok := fun _ => True) (okp := fun _ => True) ?hr ?hp (fun _ hk => hk) trivial (Below.refl _ _) (Nat.le_refl _) (by simp) ?_; (case hd => rfl); (case hg => rfl); (case hr => first | (go_simp; done) | (go_simp; rfl)); (case hp => exact (Reps.none _ _)); intro v248 w3 ho4 hb hg_ hnew_; clear hg_ hnew_; (first | rw [← Ny247.out] at ho4 | (simp only [Int.reduceToNat] at ho4; rw [← Ny247.out] at ho4)); have n0_ := am (Kd.R_lower ho4 (below_size (bw HB.out))); have n1_ := bk BK246 hb; have n2_ := hs HB hb; clear BK246 HB; revert n0_ n1_ n2_; intro HO249 BK246 HB; clear hb ho4; have hz5 := zf2 BK246.out)); go_loopg [5, 10] k (fun kq v5 v10 w' => ∃ (x5_1 : List ByteArray) (x10_1 : Int), v10 = .int .i64 x10_1 ∧ Aside0 (impl_rows_at_impl_FormatCosts.l0 kq x5_1 a0_0 x10_1 a0_0 l0_1 = some r) ∧ Aside0 (kq ≤ k) ∧ Aside0 (Kd.R Kd.string 9 w' w.heap.size (fun _ => True) v5 x5_1) ∧ Aside0 (w'.heap[gb246]? = some (.cells #[.int .i64 a0_0, (.slice A0_1 l0_1.length c0_1)] 44 (0, 0))) ∧ Aside0 (Below w.heap.size w w'))
 case atStart => exact ⟨(y247), (0), (by first | rfl | (simp; done) | (simp [*]; done)), H', ⟨Nat.le_refl _⟩, ⟨rz HO249.out⟩, ⟨kz BK246.out⟩, ⟨by exact bw HB.out⟩⟩
 case round =>
  clear H'; (try clear c2); (try clear p2); obtain ⟨x5_1, x10_1, rfl, HA, HK1, HO_5, BK246, HB⟩ := hrel
  cases gk with
  | zero => exact absurd HA.out (by simp [impl_rows_at_impl_FormatCosts.l0])
  | succ k1 =>
   have H := HA.out; clear HA; simp only [impl_rows_at_impl_FormatCosts.l0] at H; by_cases c6 : x10_1 < a0_0
   ·rw [if_pos c6] at H; have c6b0 : decide (x10_1 < a0_0) = true := decide_eq_true c6; clear c6; obtain ⟨ji7, hji7⟩ : ∃ j_ : Int, (wrap64 (x10_1 * a0_0)) = j_ := ⟨_, rfl⟩
    replace H : (if 0 ≤ (ji7) then (if (ji7) ≤ (wrap64 ((wrap64 (x10_1 + 1)) * a0_0)) then (if (wrap64 ((wrap64 (x10_1 + 1)) * a0_0)) ≤ (l0_1.length : Int) then ((impl_FormatCosts.f k1 ((l0_1.take ((wrap64 ((wrap64 (x10_1 + 1)) * a0_0)) : Int).toNat).drop ((ji7) : Int).toNat)).bind fun t251 => (if x5_1.length < 8796093022208 then (impl_rows_at_impl_FormatCosts.l0 k1 (x5_1 ++ [t251]) a0_0 (wrap64 (x10_1 + 1)) a0_0 l0_1) else (none))) else (none)) else (none)) else (none)) = some r := by first | (rw [hji7] at H; exact H) | (simp only [hji7] at H ⊢; exact H)
    have hji7w : (IntKind.i64.wrap (x10_1 * a0_0)) = ji7 := (i64_w _).trans hji7; by_cases c8 : 0 ≤ (ji7)
    ·rw [if_pos c8] at H; have c8b0 := eq_true c8; have c8b1 : decide (0 ≤ (ji7)) = true := decide_eq_true c8; clear c8; by_cases c9 : (ji7) ≤ (wrap64 ((wrap64 (x10_1 + 1)) * a0_0))
     ·rw [if_pos c9] at H; have c9b0 := eq_true c9; have c9b1 : decide ((ji7) ≤ (wrap64 ((wrap64 (x10_1 + 1)) * a0_0))) = true := decide_eq_true c9; by_cases c10 : (wrap64 ((wrap64 (x10_1 + 1)) * a0_0)) ≤ (l0_1.length : Int)
      ·rw [if_pos c10] at H; have c10b0 := eq_true c10; have c10b1 : decide ((wrap64 ((wrap64 (x10_1 + 1)) * a0_0)) ≤ (l0_1.length : Int)) = true := decide_eq_true c10; replace H := Option.bind_eq_some_iff.mp H; obtain ⟨t251, A110, H⟩ := H; (try dsimp only at H); have A11 := am A110; clear A110; by_cases c12 : x5_1.length < 8796093022208
       ·rw [if_pos c12] at H; have LMc12 := am c12; clear c12; obtain ⟨y252, hy252⟩ : ∃ y_ : List ByteArray, y_ = (x5_1 ++ [t251]) := ⟨_, rfl⟩
        replace H : (impl_rows_at_impl_FormatCosts.l0 k1 y252 a0_0 (wrap64 (x10_1 + 1)) a0_0 l0_1) = some r := by first | (rw [hy252]; with_reducible exact H) | (have H2_ := (Option.bind_some _ _).symm.trans H; rw [hy252]; with_reducible exact H2_) | (have H2_ := (Option.bind_some _ _).symm.trans H; with_reducible exact H2_) | with_reducible exact H | (rw [hy252]; exact H) | exact H
        have Ny252 := am hy252; clear hy252; have H' := am H; clear H; have hz13 := zf2 BK246.out; obtain ⟨i014, hi014, _, hsz14, _⟩ := info_parts info3; obtain ⟨A14, hcut14, hA14, hC14⟩ := print_mid_of (P := Tryd.prog) (Value.int .i64) 0 24 3 .i64 .i64 Tryd.underlying24 hi014 hsz14 A0_1 c0_1 l0_1 (ji7) (wrap64 ((wrap64 (x10_1 + 1)) * a0_0)) (da) (by first | omega | exact da) (da) HC0_1.out; have HR250 := am (Kd.C_of_reads (h1 := fun _ => rfl) (hA14 _ (Kd.reads_of_C HR0_1.out))); have HC250 := am hC14; clear hA14 hC14 hi014 hsz14; go_wp2_with (first | ((with_reducible refine gate_value 14 rfl ?_); refine goesV_ (some 27) rfl rfl Tryd.func15 (by kernel_rfl) rfl #[.slice A14 ((l0_1.take ((wrap64 ((wrap64 (x10_1 + 1)) * a0_0)) : Int).toNat).drop ((ji7) : Int).toNat).length (c0_1 - (ji7).toNat)] #[] #[.slice A14 ((l0_1.take ((wrap64 ((wrap64 (x10_1 + 1)) * a0_0)) : Int).toNat).drop ((ji7) : Int).toNat).length (c0_1 - (ji7).toNat)] rfl rfl (by (try simp only [List.map_toArray, List.map_cons, List.map_nil]); first | done | (rw [show ((l0_1.take ((wrap64 ((wrap64 (x10_1 + 1)) * a0_0)) : Int).toNat).drop ((ji7) : Int).toNat).length = ((wrap64 ((wrap64 (x10_1 + 1)) * a0_0)).toNat - (ji7).toNat) from (by rw [List.length_drop, List.length_take]; have h_ : ((wrap64 ((wrap64 (x10_1 + 1)) * a0_0)) : Int) ≤ (l0_1.length : Int) := da; omega)] <;> rfl) | (simp only [hji7]; rfl) | rfl | (simp only [List.length_drop, List.length_take]; rfl)) rfl ?_; (with_reducible refine (impl_FormatCosts.calls k1 _ _ ((l0_1.take ((wrap64 ((wrap64 (x10_1 + 1)) * a0_0)) : Int).toNat).drop ((ji7) : Int).toNat) t251 _ ?side1 ?side2 A11.out ?sideD).mono ?_); (case sideD => exact door_up HD.out (bw HB.out)); (case side1 => exact cc (Kd.C_below HR250.out HB.out)); (case side2 => exact HC250.out); rintro e w15 ⟨rfl, hb⟩; refine ⟨_, rfl, ?_⟩; have n0_ := rb HO_5 hb; have n1_ := bk BK246 hb; have n2_ := hs HB hb; clear HO_5 BK246 HB; revert n0_ n1_ n2_; intro HO_5 BK246 HB; (try clear hb); (try clear hb2); (try clear hk); (try clear hi)) | ((with_reducible refine gate_builtin (b := .append) (xs := #[.tmp 13, .tmp 28]) rfl ?_); at_builtin; refine Kd.R_append Kd.string (w0 := w) w.heap.size rfl (.tmp 13) (.tmp 28) 56 9 (.string ⟨#[]⟩) 16 rfl Tryd.underlying56 info9 rfl (by decide) (by omega) u5 x5_1 t251 [.string t251] (fun _ => True) (fun _ => False) rfl rfl ?aP (fun _ hk => hk.elim) ?aF ?aO ?aB ?aS ?aL ?_; (case aP => exact rfl); (case aB => exact (bw HB.out)); (case aF => exact (fun _ _ => trivial)); (case aO => exact (rz HO_5.out)); (case aS => exact (below_size (bw HB.out))); (case aL => have := LMc12.out; omega); intro v253 w16 ho hb hg hat; rw [← Ny252.out] at ho; have n0_ := am (blk_grown (kz BK246.out) hg (Kd.R_ne HO_5.out BK246.out (by decide))); have n1_ := am (hb); have n2_ := am (ho); clear BK246 HB HO_5; revert n0_ n1_ n2_; intro BK246 HB HO254; clear ho hb hg hat)); go_roundg k1
        case measure => have := HK1.out; omega
        case rel => exact ⟨(y252), (wrap64 (x10_1 + 1)), (by first | rfl | (simp; done) | (simp [*]; done)), H', ⟨by have := HK1.out; omega⟩, ⟨rz HO254.out⟩, ⟨kz BK246.out⟩, ⟨by exact bw HB.out⟩⟩
       ·rw [if_neg c12] at H; exact absurd H (by simp)
      ·rw [if_neg c10] at H; exact absurd H (by simp)
     ·rw [if_neg c9] at H; exact absurd H (by simp)
    ·rw [if_neg c8] at H; exact absurd H (by simp)
   ·rw [if_neg c6] at H; have c6b0 : decide (x10_1 < a0_0) = false := decide_eq_false c6; clear c6; replace H := Option.bind_eq_some_iff.mp H; obtain ⟨t255, A170, H⟩ := H; (try dsimp only at H); have A17 := am A170; clear A170; obtain rfl := Option.some.inj H; obtain ⟨Ao18, co18, eo18⟩ := Kd.R_slice HO_5.out; subst eo18; go_wp2_with (first | ((with_reducible refine gy 49 rfl ?_); refine gl Tryd.func49 #[.slice Ao18 x5_1.length co18, .string (⟨#[47]⟩ : ByteArray)] ?_; (with_reducible refine (strings_Join.calls _ _ x5_1 (⟨#[47]⟩ : ByteArray) t255 _ ?side1 ?side2 A17.out ?sideP).mono ?_); (case sideP => exact plain_any (by assumption)); (case side1 => exact cc ((Kd.R_reads' HO_5.out).2.2)); (case side2 => exact (Kd.R_reads' HO_5.out).2.1); rintro e w19 ⟨rfl, hb⟩; refine ⟨_, rfl, ?_⟩; have n0_ := rb HO_5 hb; have n1_ := bk BK246 hb; have n2_ := hs HB hb; clear HO_5 BK246 HB; revert n0_ n1_ n2_; intro HO_5 BK246 HB; (try clear hb); (try clear hb2); (try clear hk); (try clear hi))); go_ret; exact ⟨by first | rfl | (simp [errW_none, errW_some] <;> rfl) | (simp [*, errW_none, errW_some] <;> rfl), by exact bw HB.out⟩

/-! ### impl_FormatMatrix: function 31 -/
def impl_FormatMatrix.f (k : Nat) (a0_0 : Int) (l0_1 : List Int) : Option (ByteArray) := (impl_MatrixValid.f k a0_0 l0_1).bind fun t257 => (if t257 = true then ((impl_rows_at_impl_FormatCosts.f k a0_0 l0_1).bind fun t258 => (some t258)) else (some (⟨#[]⟩ : ByteArray)))
theorem impl_FormatMatrix.mono : ∀ a0 a1 k, LeO (impl_FormatMatrix.f k a0 a1) (impl_FormatMatrix.f (k + 1) a0 a1) := by
 intro a0 a1 k; unfold impl_FormatMatrix.f; repeat' first
   | (with_reducible exact impl_MatrixValid.mono _ _ _)
   | (with_reducible exact impl_rows_at_impl_FormatCosts.mono _ _ _)
   | (with_reducible exact LeO.refl _)
   | (with_reducible exact LeO.none _)
   | (with_reducible refine LeO.ite ?_ ?_)
   | (with_reducible refine LeO.bind ?_ (fun _ => ?_))
   | exact impl_MatrixValid.mono _ _ _
   | exact impl_rows_at_impl_FormatCosts.mono _ _ _
   | exact LeO.none _
   | refine LeO.ite ?_ ?_
   | refine LeO.bind ?_ (fun _ => ?_)
set_option maxHeartbeats 8000000 in
set_option maxRecDepth 100000 in
theorem impl_FormatMatrix.calls (k : Nat) (a0_0 : Int) (A0_1 : Option Addr) (c0_1 : Nat) (l0_1 : List Int) (r : ByteArray) (w : World) (hr0_1 : Kd.C (Kd.int .i64) w A0_1 l0_1.length l0_1) (hc0_1 : l0_1.length ≤ c0_1) (h : impl_FormatMatrix.f k a0_0 l0_1 = some r) (hD : Door w) :
  Calls Tryd.prog 31 #[.agg #[.int .i64 a0_0, .slice A0_1 l0_1.length c0_1]] w fun e w' => e = .returned (.string r) ∧ Below w.heap.size w w' := by
 have HD := am hD; clear hD; have hu44 := Tryd.underlying44; have HR0_1 := am hr0_1; have HC0_1 := am hc0_1; clear hr0_1 hc0_1; have HB := am (Below.refl w.heap.size w); have H : ((impl_MatrixValid.f k a0_0 l0_1).bind fun t257 => (if t257 = true then ((impl_rows_at_impl_FormatCosts.f k a0_0 l0_1).bind fun t258 => (some t258)) else (some (⟨#[]⟩ : ByteArray)))) = some r := h; clear h; replace H := Option.bind_eq_some_iff.mp H; obtain ⟨t257, A20, H⟩ := H; (try dsimp only at H); have A2 := am A20; clear A20; by_cases c3 : t257 = true
 ·subst c3
  have H1 : ((impl_rows_at_impl_FormatCosts.f k a0_0 l0_1).bind fun t258 => (some t258)) = some r := by rw [if_pos rfl] at H; exact H
  clear H; have H := H1; clear H1; replace H := Option.bind_eq_some_iff.mp H; obtain ⟨t258, A40, H⟩ := H; (try dsimp only at H); have A4 := am A40; clear A40; obtain rfl := Option.some.inj H; go_enter Tryd.func31, Tryd.ntmps31; go_wp2_with (first | ((with_reducible refine gx 1 rfl ?_); refine be (cs := #[.int .i64 a0_0, .slice A0_1 l0_1.length c0_1]) (t := 44) ?_; intro gb256 hg w5 hbox hb; have n0_ := hs HB hb; have n1_ := am (hbox); have n2_ := gs hg (bz HB.out); have n3_ := gs hg (bz HB.out); clear HB; revert n0_ n1_ n2_ n3_; intro HB BK256 GW256 GE256; clear hb hbox hg; have hz6 := zf2 BK256.out) | ((with_reducible refine gy 38 rfl ?_); refine gl Tryd.func38 #[.agg #[.int .i64 a0_0, .slice A0_1 l0_1.length c0_1]] ?_; (with_reducible refine (impl_MatrixValid.calls k a0_0 _ _ l0_1 true _ ?side1 ?side2 A2.out).mono ?_); (case side1 => exact cc (Kd.C_below HR0_1.out HB.out)); (case side2 => exact HC0_1.out); rintro e w7 ⟨rfl, hb⟩; refine ⟨_, rfl, ?_⟩; have n0_ := bk BK256 hb; have n1_ := hs HB hb; clear BK256 HB; revert n0_ n1_; intro BK256 HB; (try clear hb); (try clear hb2); (try clear hk); (try clear hi); have hz8 := zf2 BK256.out) | ((with_reducible refine gy 60 rfl ?_); refine gl Tryd.func60 #[.agg #[.int .i64 a0_0, .slice A0_1 l0_1.length c0_1], .func (.func 15) #[] #[]] ?_; (with_reducible refine (impl_rows_at_impl_FormatCosts.calls k a0_0 _ _ l0_1 t258 _ ?side1 ?side2 A4.out ?sideD).mono ?_); (case sideD => exact door_up HD.out (bw HB.out)); (case side1 => exact cc (Kd.C_below HR0_1.out HB.out)); (case side2 => exact HC0_1.out); rintro e w9 ⟨rfl, hb⟩; refine ⟨_, rfl, ?_⟩; have n0_ := bk BK256 hb; have n1_ := hs HB hb; clear BK256 HB; revert n0_ n1_; intro BK256 HB; (try clear hb); (try clear hb2); (try clear hk); (try clear hi))); go_ret; exact ⟨by first | rfl | (simp [errW_none, errW_some] <;> rfl) | (simp [*, errW_none, errW_some] <;> rfl), by exact bw HB.out⟩
 ·replace c3 := Bool.eq_false_iff.mpr c3; subst c3
  have H1 : (some (⟨#[]⟩ : ByteArray)) = some r := by rw [if_neg (show ¬ (false = true) by decide)] at H; exact H
  clear H; have H := H1; clear H1; obtain rfl := Option.some.inj H; go_enter Tryd.func31, Tryd.ntmps31; go_wp2_with (first | ((with_reducible refine gx 1 rfl ?_); refine be (cs := #[.int .i64 a0_0, .slice A0_1 l0_1.length c0_1]) (t := 44) ?_; intro gb256 hg w10 hbox hb; have n0_ := hs HB hb; have n1_ := am (hbox); have n2_ := gs hg (bz HB.out); have n3_ := gs hg (bz HB.out); clear HB; revert n0_ n1_ n2_ n3_; intro HB BK256 GW256 GE256; clear hb hbox hg; have hz11 := zf2 BK256.out) | ((with_reducible refine gy 38 rfl ?_); refine gl Tryd.func38 #[.agg #[.int .i64 a0_0, .slice A0_1 l0_1.length c0_1]] ?_; (with_reducible refine (impl_MatrixValid.calls k a0_0 _ _ l0_1 false _ ?side1 ?side2 A2.out).mono ?_); (case side1 => exact cc (Kd.C_below HR0_1.out HB.out)); (case side2 => exact HC0_1.out); rintro e w12 ⟨rfl, hb⟩; refine ⟨_, rfl, ?_⟩; have n0_ := bk BK256 hb; have n1_ := hs HB hb; clear BK256 HB; revert n0_ n1_; intro BK256 HB; (try clear hb); (try clear hb2); (try clear hk); (try clear hi))); go_ret; exact ⟨by first | rfl | (simp [errW_none, errW_some] <;> rfl) | (simp [*, errW_none, errW_some] <;> rfl), by exact bw HB.out⟩

/-! ### impl_ParseMatrix: function 34 -/
def impl_ParseMatrix.l0 : Nat → ByteArray → List ByteArray → Int → Int → Int → List Int → Option (Int × List Int × Bool)
 | 0, _, _, _, _, _, _ => none
 | k + 1, x0, x10, x11, x12, x261000, x261001 => if x12 < x11 then (if 0 ≤ x12 then (if x12 < (x10.length : Int) then ((impl_ParseCosts.f k (rdOf ByteArray.empty x10 x12)).bind fun bt265 => (if bt265.2 = true then (if x261001.length + bt265.1.length < 17592186044416 then (impl_ParseMatrix.l0 k x0 x10 x11 (wrap64 (x12 + 1)) (wrap64 (x261000 + 1)) (x261001 ++ bt265.1)) else (none)) else (some (0, ([] : List Int), false)))) else (none)) else (none)) else (if x0.toList = ([] : List UInt8) then (some (0, ([] : List Int), false)) else ((impl_FormatMatrix.f k x261000 x261001).bind fun t272 => (if t272.toList = x0.toList then (some (x261000, x261001, true)) else (some (0, ([] : List Int), false)))))
def impl_ParseMatrix.f (k : Nat) (a0 : ByteArray) : Option (Int × List Int × Bool) := (strings_Split.f a0 (⟨#[47]⟩ : ByteArray)).bind fun t261 => (impl_ParseMatrix.l0 k a0 t261 (t261.length : Int) 0 0 ([] : List Int))
theorem impl_ParseMatrix.mono_l : ∀ k, (∀ y0 y1 y2 y3 y4 y5, LeO (impl_ParseMatrix.l0 k y0 y1 y2 y3 y4 y5) (impl_ParseMatrix.l0 (k + 1) y0 y1 y2 y3 y4 y5))
 | 0 => fun _ _ _ _ _ _ r h => by simp [impl_ParseMatrix.l0] at h
 | k + 1 => by
  have ih0 := impl_ParseMatrix.mono_l k
  ·intro y0 y1 y2 y3 y4 y5; unfold impl_ParseMatrix.l0; repeat' first
   | (with_reducible exact ih0 _ _ _ _ _ _)
   | (with_reducible exact impl_FormatMatrix.mono _ _ _)
   | (with_reducible exact impl_ParseCosts.mono _ _)
   | (with_reducible exact LeO.refl _)
   | (with_reducible exact LeO.none _)
   | (with_reducible refine LeO.ite ?_ ?_)
   | (with_reducible refine LeO.bind ?_ (fun _ => ?_))
   | exact ih0 _ _ _ _ _ _
   | exact impl_FormatMatrix.mono _ _ _
   | exact impl_ParseCosts.mono _ _
   | exact LeO.none _
   | refine LeO.ite ?_ ?_
   | refine LeO.bind ?_ (fun _ => ?_)
theorem impl_ParseMatrix.mono : ∀ a0 k, LeO (impl_ParseMatrix.f k a0) (impl_ParseMatrix.f (k + 1) a0) := by
 intro a0 k; have ih0 := impl_ParseMatrix.mono_l k; unfold impl_ParseMatrix.f; repeat' first
   | (with_reducible exact ih0 _ _ _ _ _ _)
   | (with_reducible exact impl_FormatMatrix.mono _ _ _)
   | (with_reducible exact impl_ParseCosts.mono _ _)
   | (with_reducible exact LeO.refl _)
   | (with_reducible exact LeO.none _)
   | (with_reducible refine LeO.ite ?_ ?_)
   | (with_reducible refine LeO.bind ?_ (fun _ => ?_))
   | exact ih0 _ _ _ _ _ _
   | exact impl_FormatMatrix.mono _ _ _
   | exact impl_ParseCosts.mono _ _
   | exact LeO.none _
   | refine LeO.ite ?_ ?_
   | refine LeO.bind ?_ (fun _ => ?_)
set_option maxHeartbeats 8000000 in
set_option maxRecDepth 100000 in
theorem impl_ParseMatrix.calls (k : Nat) (a0 : ByteArray) (r1 : Int) (r2 : List Int) (r3 : Bool) (w : World) (h : impl_ParseMatrix.f k a0 = some (r1, r2, r3)) (hD : Door w) :
  Calls Tryd.prog 34 #[.string a0] w fun e w' => ∃ v1_ : Value, e = .returned (.tuple #[.agg #[.int .i64 r1, v1_], .bool r3]) ∧ Kd.R (Kd.int .i64) 3 w' w.heap.size (fun _ => True) v1_ r2 ∧ Below w.heap.size w w' := by
 have HD := am hD; clear hD; have hu44 := Tryd.underlying44; have HB := am (Below.refl w.heap.size w); have H : ((strings_Split.f a0 (⟨#[47]⟩ : ByteArray)).bind fun t261 => (impl_ParseMatrix.l0 k a0 t261 (t261.length : Int) 0 0 ([] : List Int))) = some (r1, r2, r3) := h; clear h; replace H := Option.bind_eq_some_iff.mp H; obtain ⟨t261, A20, H⟩ := H; (try dsimp only at H); have A2 := am A20; clear A20; have H' := am H; clear H; go_enter Tryd.func34, Tryd.ntmps34; go_wp2_with (first | ((with_reducible refine gx 2 rfl ?_); refine be (cs := #[.int .i64 0, .slice none 0 0]) (t := 44) ?_; intro gb259 hg w3 hbox hb; have n0_ := hs HB hb; have n1_ := am (hbox); have n2_ := gs hg (bz HB.out); have n3_ := gs hg (bz HB.out); clear HB; revert n0_ n1_ n2_ n3_; intro HB BK259 GW259 GE259; clear hb hbox hg) | ((with_reducible refine gx 4 rfl ?_); refine be (cs := #[.int .i64 0, .slice none 0 0]) (t := 44) ?_; intro gb260 hg w4 hbox hb; have n0_ := bk BK259 hb; have n1_ := hs HB hb; have n2_ := am (hbox); have n3_ := gs hg (bw HB.out); have n4_ := gs hg (bw HB.out); have n5_ := nl hg (kz BK259.out); have n6_ := nr hg (kz BK259.out); clear BK259 HB; revert n0_ n1_ n2_ n3_ n4_ n5_ n6_; intro BK259 HB BK260 GW260 GE260 NB259_260 NB260_259; clear hb hbox hg) | ((with_reducible refine gy 54 rfl ?_); refine gl Tryd.func54 #[.string a0, .string (⟨#[47]⟩ : ByteArray)] ?_; (with_reducible refine (strings_Split.calls a0 (⟨#[47]⟩ : ByteArray) t261 _ A2.out ?sideD).mono ?_); (case sideD => exact door_up HD.out (bw HB.out)); rintro e w5 ⟨v262, rfl, ho0, hb⟩; refine ⟨_, rfl, ?_⟩; have n0_ := am (Kd.R_lower ho0 (below_size (bw HB.out))); have n1_ := bk BK259 hb; have n2_ := bk BK260 hb; have n3_ := hs HB hb; clear BK259 BK260 HB; revert n0_ n1_ n2_ n3_; intro HO263 BK259 BK260 HB; (try clear hb); (try clear hb2); (try clear hk); (try clear hi); (try clear ho0); obtain ⟨Ao6, co6, eo6⟩ := Kd.R_slice HO263.out; subst eo6)); go_loopg [12] k (fun kq v12 w' => ∃ (x12_1 : Int) (x260000_1 : Int) (x261000_1 : Int) (x261001_1 : List Int) (u261001 : Value), v12 = .int .i64 x12_1 ∧ Aside0 (impl_ParseMatrix.l0 kq a0 t261 (t261.length : Int) x12_1 x261000_1 x261001_1 = some (r1, r2, r3)) ∧ Aside0 (kq ≤ k) ∧ Aside0 (Kd.R Kd.string 9 w' w.heap.size (fun _ => True) (.slice Ao6 t261.length co6) t261) ∧ Aside0 (Kd.R (Kd.int .i64) 3 w' w.heap.size (fun _ => True) u261001 x261001_1) ∧ Aside0 (w'.heap[gb259]? = some (.cells #[.int .i64 x260000_1, (.slice none 0 0)] 44 (0, 0))) ∧ Aside0 (w'.heap[gb260]? = some (.cells #[.int .i64 x261000_1, u261001] 44 (0, 0))) ∧ Aside0 (Below w.heap.size w w'))
 case atStart => exact ⟨(0), (0), (0), (([] : List Int)), (.slice none 0 0), (by first | rfl | (simp; done) | (simp [*]; done)), H', ⟨Nat.le_refl _⟩, ⟨rz HO263.out⟩, ⟨by first | exact Kd.R_nil _ _ _ _ _ | exact Kd.N_nil _ _ _ _ _ | exact Kd.V_nil _ _ _ _ _ | exact Kd.Q_nil _ _ _ _ _ | exact Kd.S_nil _ _ _ _ _⟩, ⟨kz BK259.out⟩, ⟨kz BK260.out⟩, ⟨by exact bw HB.out⟩⟩
 case round =>
  clear H'; (try clear p2); (try clear c3); (try clear c5); obtain ⟨x12_1, x260000_1, x261000_1, x261001_1, u261001, rfl, HA, HK1, HO_10, HO_261001, BK259, BK260, HB⟩ := hrel
  cases gk with
  | zero => exact absurd HA.out (by simp [impl_ParseMatrix.l0])
  | succ k1 =>
   have H := HA.out; clear HA; simp only [impl_ParseMatrix.l0] at H; by_cases c7 : x12_1 < (t261.length : Int)
   ·rw [if_pos c7] at H; have c7b0 : decide (x12_1 < (t261.length : Int)) = true := decide_eq_true c7; clear c7; by_cases c8 : 0 ≤ x12_1
    ·rw [if_pos c8] at H; have c8b0 : decide (0 ≤ x12_1) = true := decide_eq_true c8; clear c8; by_cases c9 : x12_1 < (t261.length : Int)
     ·rw [if_pos c9] at H; have c9b0 : decide (x12_1 < (t261.length : Int)) = true := decide_eq_true c9; clear c9; replace H := Option.bind_eq_some_iff.mp H; obtain ⟨⟨t265, t266⟩, A100, H⟩ := H; (try dsimp only at H); have A10 := am A100; clear A100; by_cases c11 : t266 = true
      ·subst c11
       have H1 : (if x261001_1.length + t265.length < 17592186044416 then (impl_ParseMatrix.l0 k1 a0 t261 (t261.length : Int) (wrap64 (x12_1 + 1)) (wrap64 (x261000_1 + 1)) (x261001_1 ++ t265)) else (none)) = some (r1, r2, r3) := by rw [if_pos rfl] at H; exact H
       clear H; have H := H1; clear H1; by_cases c12 : x261001_1.length + t265.length < 17592186044416
       ·rw [if_pos c12] at H; have LMc12 := am c12; clear c12; obtain ⟨y269, hy269⟩ : ∃ y_ : List Int, y_ = (x261001_1 ++ t265) := ⟨_, rfl⟩
        replace H : (impl_ParseMatrix.l0 k1 a0 t261 (t261.length : Int) (wrap64 (x12_1 + 1)) (wrap64 (x261000_1 + 1)) y269) = some (r1, r2, r3) := by first | (rw [hy269]; with_reducible exact H) | (have H2_ := (Option.bind_some _ _).symm.trans H; rw [hy269]; with_reducible exact H2_) | (have H2_ := (Option.bind_some _ _).symm.trans H; with_reducible exact H2_) | with_reducible exact H | (rw [hy269]; exact H) | exact H
        have Ny269 := am hy269; clear hy269; have H' := am H; clear H; have p264 : 0 ≤ (x12_1 : Int) := da; have q264 : x12_1 < (t261.length : Int) := da; obtain ⟨ad264, e264, hx264_0⟩ := Kd.at_string (Kd.R_reads' HO_10.out).2.2 x12_1 p264 q264; cases e264; replace p264 := eq_true p264; replace q264 := eq_true q264; go_wp2_with (first | ((with_reducible refine gy 20 rfl ?_); refine gl Tryd.func20 #[.string (rdOf ByteArray.empty t261 x12_1)] ?_; (with_reducible refine (impl_ParseCosts.calls k1 (rdOf ByteArray.empty t261 x12_1) t265 true _ A10.out ?sideD).mono ?_); (case sideD => exact door_up HD.out (bw HB.out)); rintro e w13 ⟨v267, rfl, ho0, hb⟩; refine ⟨_, rfl, ?_⟩; have n0_ := rb HO_10 hb; have n1_ := el HO_261001 (Kd.R_base ho0) hb; have n2_ := am (Kd.R_lower (Kd.R_new' ho0 (Kd.R_lt (rz HO_261001.out))) (below_size (bw HB.out))); have n3_ := bk BK259 hb; have n4_ := bk BK260 hb; have n5_ := hs HB hb; clear HO_10 HO_261001 BK259 BK260 HB; revert n0_ n1_ n2_ n3_ n4_ n5_; intro HO_10 HO_261001 HO268 BK259 BK260 HB; (try clear hb); (try clear hb2); (try clear hk); (try clear hi); (try clear ho0); have hnb14 := NB260_259.out; have hnc14 := NB259_260.out; have hz15 := zf2 BK260.out; obtain ⟨Ao17, co17, eo17⟩ := Kd.R_slice HO268.out; subst eo17) | ((with_reducible refine gate_builtin (b := .append) (xs := #[.tmp 29, .tmp 30]) rfl ?_); at_builtin; refine Kd.R_append_rows (Kd.int .i64) (w0 := w) w.heap.size rfl (.tmp 29) (.tmp 30) 24 3 (.int .i64 0) 8 rfl Tryd.underlying24 info3 rfl (by decide) (by omega) u261001 x261001_1 t265 _ _ _ (fun k_ => NS Ao17 t265 co17 k_) (fun _ => False) rfl rfl ?aO ?aR (fun _ _ h => h) (fun _ h => h.elim) ?aF ?aB ?aS ?aL ?_; (case aR => refine (Kd.R_reads' (e := 3) (base := w.heap.size) (ok := fun k_ => (True ∧ some k_ ≠ (u261001 : Value).ownBlock)) (n := t265.length) (c := co17) ?_).2.2; exact (rq (q1 HO268.out BK260.out (by decide)))); (case aB => exact (bw HB.out)); (case aF => exact (fun k_ hk => Kd.fresh' (Kd.R_lt (rq (q1 HO268.out BK260.out (by decide)))) k_ hk)); (case aO => exact (rq (Kd.R_mono (q1 HO_261001.out BK260.out (by decide)) (fun _ hk => hk.2)))); (case aS => exact (below_size (bw HB.out))); (case aL => have := LMc12.out; omega); intro v270 w16 ho hb hg hat; rw [← Ny269.out] at ho; have n0_ := am (Kd.R_over' (rq (q1 HO_10.out BK260.out (by decide))) (Kd.R_typed (rq (q1 HO_261001.out BK260.out (by decide)))) (by decide) hg); have n1_ := am (blk_grown (g := gb259) (o := .cells #[.int .i64 x260000_1, .slice none 0 0] 44 (0, 0)) (kf BK259.out) hg (Kd.R_ne HO_261001.out BK259.out (by decide))); have n2_ := am (blk_grown (g := gb260) (o := .cells #[.int .i64 (wrap64 (x261000_1 + 1)), u261001] 44 (0, 0)) (kp BK260.out) hg (Kd.R_ne HO_261001.out BK260.out (by decide))); have n3_ := am (Kd.R_after (ok := (fun _ => True)) (rq (Kd.R_mono (q1 HO268.out BK260.out (by decide)) (fun _ hk => ⟨trivial, hk.2⟩))) hg hat); have n4_ := am (hb); have n5_ := am (ho); clear HO_10 BK259 BK260 HO268 HB HO_261001; revert n0_ n1_ n2_ n3_ n4_ n5_; intro HO_10 BK259 BK260 HO268 HB HO271; clear ho hb hg hat; obtain ⟨Ao18, co18, eo18⟩ := Kd.R_slice HO271.out; subst eo18; have hz19 := zf2 BK260.out)); go_roundg k1
        case measure => have := HK1.out; omega
        case rel => exact ⟨(wrap64 (x12_1 + 1)), (x260000_1), (wrap64 (x261000_1 + 1)), (y269), (.slice Ao18 y269.length co18), (by first | rfl | (simp; done) | (simp [*]; done)), H', ⟨by have := HK1.out; omega⟩, ⟨rq (Kd.R_mono (q1 HO_10.out BK260.out (by decide)) (fun _ hk => trivial))⟩, ⟨rq (Kd.R_mono (q1 HO271.out BK260.out (by decide)) (fun _ hk => trivial))⟩, ⟨kp BK259.out⟩, ⟨kp BK260.out⟩, ⟨by exact bw HB.out⟩⟩
       ·rw [if_neg c12] at H; exact absurd H (by simp)
      ·replace c11 := Bool.eq_false_iff.mpr c11; subst c11
       have H1 : (some (0, ([] : List Int), false)) = some (r1, r2, r3) := by rw [if_neg (show ¬ (false = true) by decide)] at H; exact H
       clear H; have H := H1; clear H1; simp only [Option.some.injEq, Prod.mk.injEq] at H; obtain ⟨rfl, rfl, rfl⟩ := H; have p264 : 0 ≤ (x12_1 : Int) := da; have q264 : x12_1 < (t261.length : Int) := da; obtain ⟨ad264, e264, hx264_0⟩ := Kd.at_string (Kd.R_reads' HO_10.out).2.2 x12_1 p264 q264; cases e264; replace p264 := eq_true p264; replace q264 := eq_true q264; go_wp2_with (first | ((with_reducible refine gy 20 rfl ?_); refine gl Tryd.func20 #[.string (rdOf ByteArray.empty t261 x12_1)] ?_; (with_reducible refine (impl_ParseCosts.calls k1 (rdOf ByteArray.empty t261 x12_1) t265 false _ A10.out ?sideD).mono ?_); (case sideD => exact door_up HD.out (bw HB.out)); rintro e w20 ⟨v267, rfl, ho0, hb⟩; refine ⟨_, rfl, ?_⟩; have n0_ := rb HO_10 hb; have n1_ := el HO_261001 (Kd.R_base ho0) hb; have n2_ := am (Kd.R_lower (Kd.R_new' ho0 (Kd.R_lt (rz HO_261001.out))) (below_size (bw HB.out))); have n3_ := bk BK259 hb; have n4_ := bk BK260 hb; have n5_ := hs HB hb; clear HO_10 HO_261001 BK259 BK260 HB; revert n0_ n1_ n2_ n3_ n4_ n5_; intro HO_10 HO_261001 HO268 BK259 BK260 HB; (try clear hb); (try clear hb2); (try clear hk); (try clear hi); (try clear ho0); have hnb21 := NB259_260.out; have hnc21 := NB260_259.out; have hz22 := zf2 BK259.out)); refine bodyPost_ret (results_ct rfl _ _ gb259 44 #[.int .i64 0, .slice none 0 0] (0, 0) _ rfl (kp BK259.out) Tryd.underlying44 rfl (by kernel_rfl)) rfl ?_; exact ⟨_, by first | rfl | (simp [errW_none, errW_some] <;> rfl) | (simp [*, errW_none, errW_some] <;> rfl), by first | exact Kd.R_nil _ _ _ _ _ | exact Kd.N_nil _ _ _ _ _ | exact Kd.V_nil _ _ _ _ _ | exact Kd.Q_nil _ _ _ _ _ | exact Kd.S_nil _ _ _ _ _, by exact bw HB.out⟩
     ·rw [if_neg c9] at H; exact absurd H (by simp)
    ·rw [if_neg c8] at H; exact absurd H (by simp)
   ·rw [if_neg c7] at H; have c7b0 : decide (x12_1 < (t261.length : Int)) = false := decide_eq_false c7; clear c7; by_cases c23 : a0.toList = ([] : List UInt8)
    ·rw [if_pos c23] at H; have c23b0 : (a0.toList == ([] : List UInt8)) = true := beq_iff_eq.mpr c23; have c23b1 : (a0.toList != ([] : List UInt8)) = false := bne_eq_false_iff_eq.mpr c23; clear c23; simp only [Option.some.injEq, Prod.mk.injEq] at H; obtain ⟨rfl, rfl, rfl⟩ := H; have hnb24 := NB259_260.out; have hnc24 := NB260_259.out; have hz25 := zf2 BK259.out; go_wp2; refine bodyPost_ret (results_ct rfl _ _ gb259 44 #[.int .i64 0, .slice none 0 0] (0, 0) _ rfl (kp BK259.out) Tryd.underlying44 rfl (by kernel_rfl)) rfl ?_; exact ⟨_, by first | rfl | (simp [errW_none, errW_some] <;> rfl) | (simp [*, errW_none, errW_some] <;> rfl), by first | exact Kd.R_nil _ _ _ _ _ | exact Kd.N_nil _ _ _ _ _ | exact Kd.V_nil _ _ _ _ _ | exact Kd.Q_nil _ _ _ _ _ | exact Kd.S_nil _ _ _ _ _, by exact bw HB.out⟩
    ·rw [if_neg c23] at H; have c23b0 : (a0.toList == ([] : List UInt8)) = false := beq_eq_false_iff_ne.mpr c23; have c23b1 : (a0.toList != ([] : List UInt8)) = true := bne_iff_ne.mpr c23; replace H := Option.bind_eq_some_iff.mp H; obtain ⟨t272, A260, H⟩ := H; (try dsimp only at H); have A26 := am A260; clear A260; by_cases c27 : t272.toList = a0.toList
     ·rw [if_pos c27] at H; have c27b0 : (t272.toList == a0.toList) = true := beq_iff_eq.mpr c27; have c27b1 : (t272.toList != a0.toList) = false := bne_eq_false_iff_eq.mpr c27; clear c27; simp only [Option.some.injEq, Prod.mk.injEq] at H; obtain ⟨rfl, rfl, rfl⟩ := H; have hnb28 := NB260_259.out; have hnc28 := NB259_260.out; have hz29 := zf2 BK260.out; obtain ⟨Ao30, co30, eo30⟩ := Kd.R_slice HO_261001.out; subst eo30; go_wp2_with (first | (go_at_call 31; (with_reducible refine (impl_FormatMatrix.calls k1 x261000_1 _ _ x261001_1 t272 _ ?side1 ?side2 A26.out ?sideD).mono ?_); (case sideD => exact door_up HD.out (bw HB.out)); (case side1 => exact cc ((Kd.R_reads' HO_261001.out).2.2)); (case side2 => exact (Kd.R_reads' HO_261001.out).2.1); rintro e w31 ⟨rfl, hb⟩; have n0_ := rb HO_10 hb; have n1_ := rb HO_261001 hb; have n2_ := bk BK259 hb; have n3_ := bk BK260 hb; have n4_ := hs HB hb; clear HO_10 HO_261001 BK259 BK260 HB; revert n0_ n1_ n2_ n3_ n4_; intro HO_10 HO_261001 BK259 BK260 HB; (try clear hb); (try clear hb2); (try clear hk); (try clear hi); have hz32 := zf2 BK260.out; have hz33 := zf2 BK259.out)); refine bodyPost_ret (results_ct rfl _ _ gb259 44 #[.int .i64 x261000_1, .slice Ao30 x261001_1.length co30] (0, 0) _ rfl (kp BK259.out) Tryd.underlying44 rfl (by kernel_rfl)) rfl ?_; exact ⟨_, by first | rfl | (simp [errW_none, errW_some] <;> rfl) | (simp [*, errW_none, errW_some] <;> rfl), rq (Kd.R_mono (q2 HO_261001.out BK259.out (by decide)) (fun _ hk => trivial)), by exact bw HB.out⟩
     ·rw [if_neg c27] at H; have c27b0 : (t272.toList == a0.toList) = false := beq_eq_false_iff_ne.mpr c27; have c27b1 : (t272.toList != a0.toList) = true := bne_iff_ne.mpr c27; simp only [Option.some.injEq, Prod.mk.injEq] at H; obtain ⟨rfl, rfl, rfl⟩ := H; have hnb34 := NB260_259.out; have hnc34 := NB259_260.out; have hz35 := zf2 BK260.out; obtain ⟨Ao36, co36, eo36⟩ := Kd.R_slice HO_261001.out; subst eo36; go_wp2_with (first | (go_at_call 31; (with_reducible refine (impl_FormatMatrix.calls k1 x261000_1 _ _ x261001_1 t272 _ ?side1 ?side2 A26.out ?sideD).mono ?_); (case sideD => exact door_up HD.out (bw HB.out)); (case side1 => exact cc ((Kd.R_reads' HO_261001.out).2.2)); (case side2 => exact (Kd.R_reads' HO_261001.out).2.1); rintro e w37 ⟨rfl, hb⟩; have n0_ := rb HO_10 hb; have n1_ := rb HO_261001 hb; have n2_ := bk BK259 hb; have n3_ := bk BK260 hb; have n4_ := hs HB hb; clear HO_10 HO_261001 BK259 BK260 HB; revert n0_ n1_ n2_ n3_ n4_; intro HO_10 HO_261001 BK259 BK260 HB; (try clear hb); (try clear hb2); (try clear hk); (try clear hi); have hz38 := zf2 BK259.out)); refine bodyPost_ret (results_ct rfl _ _ gb259 44 #[.int .i64 0, .slice none 0 0] (0, 0) _ rfl (kp BK259.out) Tryd.underlying44 rfl (by kernel_rfl)) rfl ?_; exact ⟨_, by first | rfl | (simp [errW_none, errW_some] <;> rfl) | (simp [*, errW_none, errW_some] <;> rfl), by first | exact Kd.R_nil _ _ _ _ _ | exact Kd.N_nil _ _ _ _ _ | exact Kd.V_nil _ _ _ _ _ | exact Kd.Q_nil _ _ _ _ _ | exact Kd.S_nil _ _ _ _ _, by exact bw HB.out⟩

end Go.Proofs.YtmnfbnpclanafaaDoor.PGP
