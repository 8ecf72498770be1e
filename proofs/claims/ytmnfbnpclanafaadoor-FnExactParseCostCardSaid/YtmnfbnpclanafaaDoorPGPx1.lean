-- Written by a program (wip/myprint.py): the machine side of one law: each function that it reaches, as a plain function, and the proof that a call comes to just that.
import Derived.Test.YtmnfbnpclanafaaDoorPGPx0
namespace Go.Proofs.YtmnfbnpclanafaaDoor.PGP
open Go.RowKit Go.Proofs.YtmnfbnpclanafaaDoorW.PrintWords Go.Proofs.YtmnfbnpclanafaaDoorW.PrintLast Go.Proofs.YtmnfbnpclanafaaDoorW.PrintMore
attribute [local go_sem] max2_int min2_int max_two min_two max_three min_three max_four min_four   -- for this text's walks alone
set_option linter.unusedVariables false
set_option linter.unusedSimpArgs false

/-! ### spec_l13Num: function 50 -/
mutual
def spec_l13Num.j0 : Nat → ByteArray → Bool → Option (Int × Bool)
 | 0, _, _ => none
 | k + 1, x0, x4 => if x4 = true then (if 1 ≤ (x0.size : Int) then (spec_l13Num.j1 k (x0.extract 1 x0.size) x4) else (none)) else (spec_l13Num.j1 k x0 x4)
def spec_l13Num.j1 : Nat → ByteArray → Bool → Option (Int × Bool)
 | 0, _, _ => none
 | k + 1, x0, x4 => if (x0.size : Int) = 0 then (spec_l13Num.j2 k x0 x4 true) else (if (x0.size : Int) > 17 then (spec_l13Num.j2 k x0 x4 true) else (if 0 < (x0.size : Int) then (if (bt x0 0) = 48 then (if (x0.size : Int) > 1 then (spec_l13Num.j2 k x0 x4 true) else (spec_l13Num.j2 k x0 x4 x4)) else (spec_l13Num.j2 k x0 x4 false)) else (none)))
def spec_l13Num.j2 : Nat → ByteArray → Bool → Bool → Option (Int × Bool)
 | 0, _, _, _ => none
 | k + 1, x0, x4, x38 => if x38 = true then (some (0, false)) else (spec_l13Num.l0 k x0 x4 0 0)
def spec_l13Num.l0 : Nat → ByteArray → Bool → Int → Int → Option (Int × Bool)
 | 0, _, _, _, _ => none
 | k + 1, x0, x4, x5, x6 => if x6 < (x0.size : Int) then (if 0 ≤ x6 then (if (bt x0 x6) < 48 then (some (0, false)) else (if (bt x0 x6) > 57 then (some (0, false)) else (spec_l13Num.l0 k x0 x4 (wrap64 ((wrap64 (x5 * 10)) + (((bt x0 x6) - 48) % 256))) (wrap64 (x6 + 1))))) else (none)) else (if x4 = true then (some (wrap64 (-x5), true)) else (some (x5, true)))
end
def spec_l13Num.f (k : Nat) (a0 : ByteArray) : Option (Int × Bool) := if (a0.size : Int) > 0 then (if 0 < (a0.size : Int) then (spec_l13Num.j0 k a0 ((bt a0 0) == 45)) else (none)) else (spec_l13Num.j0 k a0 false)
theorem spec_l13Num.mono_l : ∀ k, (∀ y0 y1, LeO (spec_l13Num.j0 k y0 y1) (spec_l13Num.j0 (k + 1) y0 y1)) ∧ (∀ y0 y1, LeO (spec_l13Num.j1 k y0 y1) (spec_l13Num.j1 (k + 1) y0 y1)) ∧ (∀ y0 y1 y2, LeO (spec_l13Num.j2 k y0 y1 y2) (spec_l13Num.j2 (k + 1) y0 y1 y2)) ∧ (∀ y0 y1 y2 y3, LeO (spec_l13Num.l0 k y0 y1 y2 y3) (spec_l13Num.l0 (k + 1) y0 y1 y2 y3))
 | 0 => ⟨fun _ _ r h => by simp [spec_l13Num.j0] at h, fun _ _ r h => by simp [spec_l13Num.j1] at h, fun _ _ _ r h => by simp [spec_l13Num.j2] at h, fun _ _ _ _ r h => by simp [spec_l13Num.l0] at h⟩
 | k + 1 => by
  obtain ⟨ih0, ih1, ih2, ih3⟩ := spec_l13Num.mono_l k; refine ⟨?_, ?_, ?_, ?_⟩
  ·intro y0 y1; unfold spec_l13Num.j0; repeat' first
   | (with_reducible exact ih0 _ _)
   | (with_reducible exact ih1 _ _)
   | (with_reducible exact ih2 _ _ _)
   | (with_reducible exact ih3 _ _ _ _)
   | (with_reducible exact LeO.refl _)
   | (with_reducible exact LeO.none _)
   | (with_reducible refine LeO.ite ?_ ?_)
   | (with_reducible refine LeO.bind ?_ (fun _ => ?_))
   | exact ih0 _ _
   | exact ih1 _ _
   | exact ih2 _ _ _
   | exact ih3 _ _ _ _
   | exact LeO.none _
   | refine LeO.ite ?_ ?_
   | refine LeO.bind ?_ (fun _ => ?_)
  ·intro y0 y1; unfold spec_l13Num.j1; repeat' first
   | (with_reducible exact ih0 _ _)
   | (with_reducible exact ih1 _ _)
   | (with_reducible exact ih2 _ _ _)
   | (with_reducible exact ih3 _ _ _ _)
   | (with_reducible exact LeO.refl _)
   | (with_reducible exact LeO.none _)
   | (with_reducible refine LeO.ite ?_ ?_)
   | (with_reducible refine LeO.bind ?_ (fun _ => ?_))
   | exact ih0 _ _
   | exact ih1 _ _
   | exact ih2 _ _ _
   | exact ih3 _ _ _ _
   | exact LeO.none _
   | refine LeO.ite ?_ ?_
   | refine LeO.bind ?_ (fun _ => ?_)
  ·intro y0 y1 y2; unfold spec_l13Num.j2; repeat' first
   | (with_reducible exact ih0 _ _)
   | (with_reducible exact ih1 _ _)
   | (with_reducible exact ih2 _ _ _)
   | (with_reducible exact ih3 _ _ _ _)
   | (with_reducible exact LeO.refl _)
   | (with_reducible exact LeO.none _)
   | (with_reducible refine LeO.ite ?_ ?_)
   | (with_reducible refine LeO.bind ?_ (fun _ => ?_))
   | exact ih0 _ _
   | exact ih1 _ _
   | exact ih2 _ _ _
   | exact ih3 _ _ _ _
   | exact LeO.none _
   | refine LeO.ite ?_ ?_
   | refine LeO.bind ?_ (fun _ => ?_)
  ·intro y0 y1 y2 y3; unfold spec_l13Num.l0; repeat' first
   | (with_reducible exact ih0 _ _)
   | (with_reducible exact ih1 _ _)
   | (with_reducible exact ih2 _ _ _)
   | (with_reducible exact ih3 _ _ _ _)
   | (with_reducible exact LeO.refl _)
   | (with_reducible exact LeO.none _)
   | (with_reducible refine LeO.ite ?_ ?_)
   | (with_reducible refine LeO.bind ?_ (fun _ => ?_))
   | exact ih0 _ _
   | exact ih1 _ _
   | exact ih2 _ _ _
   | exact ih3 _ _ _ _
   | exact LeO.none _
   | refine LeO.ite ?_ ?_
   | refine LeO.bind ?_ (fun _ => ?_)
theorem spec_l13Num.mono : ∀ a0 k, LeO (spec_l13Num.f k a0) (spec_l13Num.f (k + 1) a0) := by
 intro a0 k; obtain ⟨ih0, ih1, ih2, ih3⟩ := spec_l13Num.mono_l k; unfold spec_l13Num.f; repeat' first
   | (with_reducible exact ih0 _ _)
   | (with_reducible exact ih1 _ _)
   | (with_reducible exact ih2 _ _ _)
   | (with_reducible exact ih3 _ _ _ _)
   | (with_reducible exact LeO.refl _)
   | (with_reducible exact LeO.none _)
   | (with_reducible refine LeO.ite ?_ ?_)
   | (with_reducible refine LeO.bind ?_ (fun _ => ?_))
   | exact ih0 _ _
   | exact ih1 _ _
   | exact ih2 _ _ _
   | exact ih3 _ _ _ _
   | exact LeO.none _
   | refine LeO.ite ?_ ?_
   | refine LeO.bind ?_ (fun _ => ?_)
set_option maxHeartbeats 8000000 in
set_option maxRecDepth 100000 in
theorem spec_l13Num.calls (k : Nat) (a0 : ByteArray) (r1 : Int) (r2 : Bool) (w : World) (h : spec_l13Num.f k a0 = some (r1, r2)) :
  Calls Tryd.prog 50 #[.string a0] w fun e w' => e = .returned (.tuple #[.int .i64 r1, .bool r2]) ∧ Drawn0 w w' := by
 have H : (if (a0.size : Int) > 0 then (if 0 < (a0.size : Int) then (spec_l13Num.j0 k a0 ((bt a0 0) == 45)) else (none)) else (spec_l13Num.j0 k a0 false)) = some (r1, r2) := h; clear h; have HC2 := am H; clear H; go_enter Tryd.func50, Tryd.ntmps50; go_upto_region 1 with (fail); go_cut [4] (fun v4 wc => ∃ (kq : Nat) (x4_1 : Bool), v4 = .bool x4_1 ∧ Aside0 (spec_l13Num.j0 kq a0 x4_1 = some (r1, r2)) ∧ Aside0 (kq ≤ k) ∧ Drawn0 w wc)
 case first =>
  have H := HC2.out; clear HC2; by_cases c3 : (a0.size : Int) > 0
  ·rw [if_pos c3] at H; have c3b0 : decide (0 < (a0.size : Int)) = true := decide_eq_true c3; have c3b1 : decide (0 < a0.size) = true := decide_eq_true (by omega); clear c3; (first | rw [c3b0] | (simp only [i64_w, i32_w]; rw [c3b0]) | skip); by_cases c4 : 0 < (a0.size : Int)
   ·rw [if_pos c4] at H; have c4b0 : decide (0 < (a0.size : Int)) = true := decide_eq_true c4; have c4b1 : decide (0 < a0.size) = true := decide_eq_true (by omega); clear c4; have H' := am H; clear H; have p5 : 0 ≤ (0 : Int) := (by omega); have q5 : 0 < a0.size := (by have : (0 : Int) < (a0.size : Int) := da; omega); have hx5 : ∀ h : 0 < a0.size, ((a0[0]'h).toNat : Int) = bt a0 0 := bt_at a0 0; clear p5; have qi5 : (0 < (a0.size : Int)) = True := eq_true (da); replace q5 := eq_true q5; go_wp2; go_meet
    case rel => exact ⟨_, (((bt a0 0) == 45)), (by first | rfl | (simp; done) | (simp [*]; done)), H', ⟨by first | omega | exact Nat.le_refl _⟩, by repeat (first | exact Drawn0.refl _ | apply Drawn0.step)⟩
   ·rw [if_neg c4] at H; exact absurd H (by simp)
  ·rw [if_neg c3] at H; have c3b0 : decide (0 < (a0.size : Int)) = false := decide_eq_false c3; have c3b1 : decide (0 < a0.size) = false := decide_eq_false (by omega); clear c3; (first | rw [c3b0] | (simp only [i64_w, i32_w]; rw [c3b0]) | skip); have H' := am H; clear H; go_wp2; go_meet
   case rel => exact ⟨_, (false), (by first | rfl | (simp; done) | (simp [*]; done)), H', ⟨by first | omega | exact Nat.le_refl _⟩, by repeat (first | exact Drawn0.refl _ | apply Drawn0.step)⟩
 case rest =>
  clear HC2; (try clear p2); (try clear c3); (try clear c3b0); (try clear c3b1); (try clear c4); (try clear c4b0); (try clear c4b1); (try clear c5); (try clear p5); (try clear q5); (try clear hx5); (try clear qi5); (try clear p5); (try clear q5); obtain ⟨kq, x4_1, rfl, HA, HJ1, ⟨mc1, rfl⟩⟩ := hcut
  cases kq with
  | zero => exact absurd HA.out (by simp [spec_l13Num.j0])
  | succ kj1 =>
   have H := HA.out; clear HA; simp only [spec_l13Num.j0] at H; have HC6 := am H; clear H; go_upto_if 15 with (fail); go_cut [0] (fun v0 wc => ∃ (kq : Nat) (x0_5 : ByteArray), v0 = .string x0_5 ∧ Aside0 (spec_l13Num.j1 kq x0_5 x4_1 = some (r1, r2)) ∧ Aside0 (kq ≤ kj1) ∧ Drawn0 w wc)
   case first =>
    have H := HC6.out; clear HC6; by_cases c7 : x4_1 = true
    ·subst c7
     have H1 : (if 1 ≤ (a0.size : Int) then (spec_l13Num.j1 kj1 (a0.extract 1 a0.size) true) else (none)) = some (r1, r2) := by rw [if_pos rfl] at H; exact H
     clear H; have H := H1; clear H1; by_cases c8 : 1 ≤ (a0.size : Int)
     ·rw [if_pos c8] at H; have c8b0 := eq_true c8; have c8b1 : decide (1 ≤ (a0.size : Int)) = true := decide_eq_true c8; clear c8; have H' := am H; clear H; go_wp2; go_meet
      case rel => exact ⟨_, (a0.extract 1 a0.size), (by first | rfl | (simp; done) | (simp [*]; done)), H', ⟨by have := HJ1.out; first | omega | exact Nat.le_refl _⟩, by repeat (first | exact Drawn0.refl _ | apply Drawn0.step)⟩
     ·rw [if_neg c8] at H; exact absurd H (by simp)
    ·replace c7 := Bool.eq_false_iff.mpr c7; subst c7
     have H1 : (spec_l13Num.j1 kj1 a0 false) = some (r1, r2) := by rw [if_neg (show ¬ (false = true) by decide)] at H; exact H
     clear H; have H := H1; clear H1; have H' := am H; clear H; go_wp2; go_meet
     case rel => exact ⟨_, (a0), (by first | rfl | (simp; done) | (simp [*]; done)), H', ⟨by have := HJ1.out; first | omega | exact Nat.le_refl _⟩, by repeat (first | exact Drawn0.refl _ | apply Drawn0.step)⟩
   case rest =>
    clear HC6; (try clear c1); (try clear p2); (try clear c3); (try clear c3b0); (try clear c3b1); (try clear c4); (try clear c4b0); (try clear c4b1); (try clear c5); (try clear p5); (try clear q5); (try clear hx5); (try clear qi5); (try clear c7); (try clear c8); (try clear c8b0); (try clear c8b1); (try clear p2); (try clear p5); (try clear q5); obtain ⟨kq, x0_5, rfl, HA, HJ5, ⟨mc5, rfl⟩⟩ := hcut
    cases kq with
    | zero => exact absurd HA.out (by simp [spec_l13Num.j1])
    | succ kj5 =>
     have H := HA.out; clear HA; simp only [spec_l13Num.j1] at H; have HC9 := am H; clear H; go_upto_region 4 with (fail); go_cut [38] (fun v38 wc => ∃ (kq : Nat) (x38_8 : Bool), v38 = .bool x38_8 ∧ Aside0 (spec_l13Num.j2 kq x0_5 x4_1 x38_8 = some (r1, r2)) ∧ Aside0 (kq ≤ kj5) ∧ Drawn0 w wc)
     case first =>
      have H := HC9.out; clear HC9; by_cases c10 : (x0_5.size : Int) = 0
      ·rw [if_pos c10] at H; have c10b0 : ((x0_5.size : Int) == 0) = true := beq_iff_eq.mpr c10; have c10b1 : ((x0_5.size : Int) != 0) = false := bne_eq_false_iff_eq.mpr c10; clear c10; (first | rw [c10b0] | (simp only [i64_w, i32_w]; rw [c10b0]) | skip); have H' := am H; clear H; go_wp2; go_meet
       case rel => exact ⟨_, (true), (by first | rfl | (simp; done) | (simp [*]; done)), H', ⟨by have := HJ1.out; have := HJ5.out; first | omega | exact Nat.le_refl _⟩, by repeat (first | exact Drawn0.refl _ | apply Drawn0.step)⟩
      ·rw [if_neg c10] at H; have c10b0 : ((x0_5.size : Int) == 0) = false := beq_eq_false_iff_ne.mpr c10; have c10b1 : ((x0_5.size : Int) != 0) = true := bne_iff_ne.mpr c10; (first | rw [c10b0] | (simp only [i64_w, i32_w]; rw [c10b0]) | skip); by_cases c11 : (x0_5.size : Int) > 17
       ·rw [if_pos c11] at H; have c11b0 : decide (17 < (x0_5.size : Int)) = true := decide_eq_true c11; have c11b1 : decide (17 < x0_5.size) = true := decide_eq_true (by omega); clear c11; have H' := am H; clear H; go_wp2; go_meet
        case rel => exact ⟨_, (true), (by first | rfl | (simp; done) | (simp [*]; done)), H', ⟨by have := HJ1.out; have := HJ5.out; first | omega | exact Nat.le_refl _⟩, by repeat (first | exact Drawn0.refl _ | apply Drawn0.step)⟩
       ·rw [if_neg c11] at H; have c11b0 : decide (17 < (x0_5.size : Int)) = false := decide_eq_false c11; have c11b1 : decide (17 < x0_5.size) = false := decide_eq_false (by omega); clear c11; by_cases c12 : 0 < (x0_5.size : Int)
        ·rw [if_pos c12] at H; have c12b0 : decide (0 < (x0_5.size : Int)) = true := decide_eq_true c12; have c12b1 : decide (0 < x0_5.size) = true := decide_eq_true (by omega); clear c12; by_cases c14 : (bt x0_5 0) = 48
         ·rw [if_pos c14] at H; have c14b0 : ((bt x0_5 0) == 48) = true := beq_iff_eq.mpr c14; have c14b1 : ((bt x0_5 0) != 48) = false := bne_eq_false_iff_eq.mpr c14; clear c14; by_cases c15 : (x0_5.size : Int) > 1
          ·rw [if_pos c15] at H; have c15b0 : decide (1 < (x0_5.size : Int)) = true := decide_eq_true c15; have c15b1 : decide (1 < x0_5.size) = true := decide_eq_true (by omega); clear c15; have H' := am H; clear H; have p13 : 0 ≤ (0 : Int) := (by omega); have q13 : 0 < x0_5.size := (by have : (0 : Int) < (x0_5.size : Int) := da; omega); have hx13 : ∀ h : 0 < x0_5.size, ((x0_5[0]'h).toNat : Int) = bt x0_5 0 := bt_at x0_5 0; clear p13; have qi13 : (0 < (x0_5.size : Int)) = True := eq_true (da); replace q13 := eq_true q13; go_wp2; go_meet
           case rel => exact ⟨_, (true), (by first | rfl | (simp; done) | (simp [*]; done)), H', ⟨by have := HJ1.out; have := HJ5.out; first | omega | exact Nat.le_refl _⟩, by repeat (first | exact Drawn0.refl _ | apply Drawn0.step)⟩
          ·rw [if_neg c15] at H; have c15b0 : decide (1 < (x0_5.size : Int)) = false := decide_eq_false c15; have c15b1 : decide (1 < x0_5.size) = false := decide_eq_false (by omega); clear c15; have H' := am H; clear H; have p13 : 0 ≤ (0 : Int) := (by omega); have q13 : 0 < x0_5.size := (by have : (0 : Int) < (x0_5.size : Int) := da; omega); have hx13 : ∀ h : 0 < x0_5.size, ((x0_5[0]'h).toNat : Int) = bt x0_5 0 := bt_at x0_5 0; clear p13; have qi13 : (0 < (x0_5.size : Int)) = True := eq_true (da); replace q13 := eq_true q13; go_wp2; go_meet
           case rel => exact ⟨_, (x4_1), (by first | rfl | (simp; done) | (simp [*]; done)), H', ⟨by have := HJ1.out; have := HJ5.out; first | omega | exact Nat.le_refl _⟩, by repeat (first | exact Drawn0.refl _ | apply Drawn0.step)⟩
         ·rw [if_neg c14] at H; have c14b0 : ((bt x0_5 0) == 48) = false := beq_eq_false_iff_ne.mpr c14; have c14b1 : ((bt x0_5 0) != 48) = true := bne_iff_ne.mpr c14; have H' := am H; clear H; have p13 : 0 ≤ (0 : Int) := (by omega); have q13 : 0 < x0_5.size := (by have : (0 : Int) < (x0_5.size : Int) := da; omega); have hx13 : ∀ h : 0 < x0_5.size, ((x0_5[0]'h).toNat : Int) = bt x0_5 0 := bt_at x0_5 0; clear p13; have qi13 : (0 < (x0_5.size : Int)) = True := eq_true (da); replace q13 := eq_true q13; go_wp2; go_meet
          case rel => exact ⟨_, (false), (by first | rfl | (simp; done) | (simp [*]; done)), H', ⟨by have := HJ1.out; have := HJ5.out; first | omega | exact Nat.le_refl _⟩, by repeat (first | exact Drawn0.refl _ | apply Drawn0.step)⟩
        ·rw [if_neg c12] at H; exact absurd H (by simp)
     case rest =>
      clear HC9; (try clear c1); (try clear p1); (try clear q1); (try clear hx1); (try clear qi1); (try clear p2); (try clear c3); (try clear c3b0); (try clear c3b1); (try clear c4); (try clear c4b0); (try clear c4b1); (try clear c5); (try clear p5); (try clear q5); (try clear hx5); (try clear qi5); (try clear c7); (try clear c8); (try clear c8b0); (try clear c8b1); (try clear c10); (try clear c10b0); (try clear c10b1); (try clear c11); (try clear c11b0); (try clear c11b1); (try clear c12); (try clear c12b0); (try clear c12b1); (try clear p13); (try clear q13); (try clear hx13); (try clear qi13); (try clear c14); (try clear c14b0); (try clear c14b1); (try clear c15); (try clear c15b0); (try clear c15b1); (try clear p13); (try clear p2); (try clear p5); (try clear q13); (try clear q5); obtain ⟨kq, x38_8, rfl, HA, HJ8, ⟨mc8, rfl⟩⟩ := hcut
      cases kq with
      | zero => exact absurd HA.out (by simp [spec_l13Num.j2])
      | succ kj8 =>
       have H := HA.out; clear HA; simp only [spec_l13Num.j2] at H; by_cases c16 : x38_8 = true
       ·subst c16
        have H1 : (some (0, false)) = some (r1, r2) := by rw [if_pos rfl] at H; exact H
        clear H; have H := H1; clear H1; simp only [Option.some.injEq, Prod.mk.injEq] at H; obtain ⟨rfl, rfl⟩ := H; go_wp2; go_ret2; exact ⟨by first | rfl | (simp; done) | (simp [*]; done), by repeat (first | exact Drawn0.refl _ | apply Drawn0.step)⟩
       ·replace c16 := Bool.eq_false_iff.mpr c16; subst c16
        have H1 : (spec_l13Num.l0 kj8 x0_5 x4_1 0 0) = some (r1, r2) := by rw [if_neg (show ¬ (false = true) by decide)] at H; exact H
        clear H; have H := H1; clear H1; have H' := am H; clear H; go_wp2; go_loopg [5, 6] kj8 (fun kq v5 v6 w' => ∃ (x5_4 : Int) (x6_4 : Int), v5 = .int .i64 x5_4 ∧ v6 = .int .i64 x6_4 ∧ Aside0 (spec_l13Num.l0 kq x0_5 x4_1 x5_4 x6_4 = some (r1, r2)) ∧ Aside0 (kq ≤ kj8) ∧ Drawn0 w w')
        case atStart => exact ⟨(0), (0), (by first | rfl | (simp; done) | (simp [*]; done)), (by first | rfl | (simp; done) | (simp [*]; done)), H', ⟨Nat.le_refl _⟩, by repeat (first | exact Drawn0.refl _ | apply Drawn0.step)⟩
        case round =>
         clear H'; (try clear c1); (try clear p1); (try clear q1); (try clear hx1); (try clear qi1); (try clear p2); (try clear c3); (try clear c3b0); (try clear c3b1); (try clear c4); (try clear c4b0); (try clear c4b1); (try clear c5); (try clear p5); (try clear q5); (try clear hx5); (try clear qi5); (try clear c7); (try clear c8); (try clear c8b0); (try clear c8b1); (try clear c10); (try clear c10b0); (try clear c10b1); (try clear c11); (try clear c11b0); (try clear c11b1); (try clear c12); (try clear c12b0); (try clear c12b1); (try clear p13); (try clear q13); (try clear hx13); (try clear qi13); (try clear c14); (try clear c14b0); (try clear c14b1); (try clear c15); (try clear c15b0); (try clear c15b1); (try clear c16); (try clear p1); (try clear p13); (try clear p2); (try clear p5); (try clear q1); (try clear q13); (try clear q5); obtain ⟨x5_4, x6_4, rfl, rfl, HA, HK4, ⟨m4, rfl⟩⟩ := hrel
         cases gk with
         | zero => exact absurd HA.out (by simp [spec_l13Num.l0])
         | succ k4 =>
          have H := HA.out; clear HA; simp only [spec_l13Num.l0] at H; by_cases c17 : x6_4 < (x0_5.size : Int)
          ·rw [if_pos c17] at H; have c17b0 : decide (x6_4 < (x0_5.size : Int)) = true := decide_eq_true c17; clear c17; by_cases c18 : 0 ≤ x6_4
           ·rw [if_pos c18] at H; have c18b0 : decide (0 ≤ x6_4) = true := decide_eq_true c18; clear c18; by_cases c20 : (bt x0_5 x6_4) < 48
            ·rw [if_pos c20] at H; have c20b0 : decide ((bt x0_5 x6_4) < 48) = true := decide_eq_true c20; clear c20; simp only [Option.some.injEq, Prod.mk.injEq] at H; obtain ⟨rfl, rfl⟩ := H; have p19 : 0 ≤ (x6_4 : Int) := da; have q19 : x6_4 < (x0_5.size : Int) := da; have hx19 := bt_at x0_5 x6_4; replace p19 := eq_true p19; replace q19 := eq_true q19; go_wp2; go_ret2; exact ⟨by first | rfl | (simp; done) | (simp [*]; done), by repeat (first | exact Drawn0.refl _ | apply Drawn0.step)⟩
            ·rw [if_neg c20] at H; have c20b0 : decide ((bt x0_5 x6_4) < 48) = false := decide_eq_false c20; clear c20; by_cases c22 : (bt x0_5 x6_4) > 57
             ·rw [if_pos c22] at H; have c22b0 : decide (57 < (bt x0_5 x6_4)) = true := decide_eq_true c22; clear c22; simp only [Option.some.injEq, Prod.mk.injEq] at H; obtain ⟨rfl, rfl⟩ := H; have p19 : 0 ≤ (x6_4 : Int) := da; have q19 : x6_4 < (x0_5.size : Int) := da; have hx19 := bt_at x0_5 x6_4; replace p19 := eq_true p19; replace q19 := eq_true q19; have p21 : 0 ≤ (x6_4 : Int) := da; have q21 : x6_4 < (x0_5.size : Int) := da; have hx21 := bt_at x0_5 x6_4; replace p21 := eq_true p21; replace q21 := eq_true q21; go_wp2; go_ret2; exact ⟨by first | rfl | (simp; done) | (simp [*]; done), by repeat (first | exact Drawn0.refl _ | apply Drawn0.step)⟩
             ·rw [if_neg c22] at H; have c22b0 : decide (57 < (bt x0_5 x6_4)) = false := decide_eq_false c22; clear c22; have H' := am H; clear H; have p19 : 0 ≤ (x6_4 : Int) := da; have q19 : x6_4 < (x0_5.size : Int) := da; have hx19 := bt_at x0_5 x6_4; replace p19 := eq_true p19; replace q19 := eq_true q19; have p21 : 0 ≤ (x6_4 : Int) := da; have q21 : x6_4 < (x0_5.size : Int) := da; have hx21 := bt_at x0_5 x6_4; replace p21 := eq_true p21; replace q21 := eq_true q21; have p23 : 0 ≤ (x6_4 : Int) := da; have q23 : x6_4 < (x0_5.size : Int) := da; have hx23 := bt_at x0_5 x6_4; replace p23 := eq_true p23; replace q23 := eq_true q23; go_wp2; go_roundg k4
              case measure => have := HJ1.out; have := HJ5.out; have := HJ8.out; have := HK4.out; omega
              case rel => exact ⟨(wrap64 ((wrap64 (x5_4 * 10)) + (((bt x0_5 x6_4) - 48) % 256))), (wrap64 (x6_4 + 1)), (by first | rfl | (simp; done) | (simp [*]; done)), (by first | rfl | (simp; done) | (simp [*]; done)), H', ⟨by have := HJ1.out; have := HJ5.out; have := HJ8.out; have := HK4.out; omega⟩, by repeat (first | exact Drawn0.refl _ | apply Drawn0.step)⟩
           ·rw [if_neg c18] at H; exact absurd H (by simp)
          ·rw [if_neg c17] at H; have c17b0 : decide (x6_4 < (x0_5.size : Int)) = false := decide_eq_false c17; clear c17; by_cases c24 : x4_1 = true
           ·subst c24
            have H1 : (some (wrap64 (-x5_4), true)) = some (r1, r2) := by rw [if_pos rfl] at H; exact H
            clear H; have H := H1; clear H1; simp only [Option.some.injEq, Prod.mk.injEq] at H; obtain ⟨rfl, rfl⟩ := H; go_wp2; go_ret2; exact ⟨by first | rfl | (simp; done) | (simp [*]; done), by repeat (first | exact Drawn0.refl _ | apply Drawn0.step)⟩
           ·replace c24 := Bool.eq_false_iff.mpr c24; subst c24
            have H1 : (some (x5_4, true)) = some (r1, r2) := by rw [if_neg (show ¬ (false = true) by decide)] at H; exact H
            clear H; have H := H1; clear H1; simp only [Option.some.injEq, Prod.mk.injEq] at H; obtain ⟨rfl, rfl⟩ := H; go_wp2; go_ret2; exact ⟨by first | rfl | (simp; done) | (simp [*]; done), by repeat (first | exact Drawn0.refl _ | apply Drawn0.step)⟩

/-! ### spec_l1In: function 51 -/
def spec_l1In.f (a0 : Int) (a1 : Int) (a2 : Int) : Option (Bool) := if a0 ≥ a1 then (some (decide (a0 ≤ a2))) else (some false)
set_option maxHeartbeats 8000000 in
set_option maxRecDepth 100000 in
theorem spec_l1In.calls (a0 : Int) (a1 : Int) (a2 : Int) (r : Bool) (w : World) (h : spec_l1In.f a0 a1 a2 = some r) :
  Calls Tryd.prog 51 #[.int .i64 a0, .int .i64 a1, .int .i64 a2] w fun e w' => e = .returned (.bool r) ∧ Drawn0 w w' := by
 have H : (if a0 ≥ a1 then (some (decide (a0 ≤ a2))) else (some false)) = some r := h; clear h; by_cases c4 : a0 ≥ a1
 ·rw [if_pos c4] at H; have c4b0 : decide (a1 ≤ a0) = true := decide_eq_true c4; clear c4; obtain rfl := Option.some.inj H; go_enter Tryd.func51, Tryd.ntmps51; go_wp2; go_ret; exact ⟨by first | rfl | (simp; done) | (simp [*]; done), by repeat (first | exact Drawn0.refl _ | apply Drawn0.step)⟩
 ·rw [if_neg c4] at H; have c4b0 : decide (a1 ≤ a0) = false := decide_eq_false c4; clear c4; obtain rfl := Option.some.inj H; go_enter Tryd.func51, Tryd.ntmps51; go_wp2; go_ret; exact ⟨by first | rfl | (simp; done) | (simp [*]; done), by repeat (first | exact Drawn0.refl _ | apply Drawn0.step)⟩

/-! ### spec_ParseCost: function 17 -/
def spec_ParseCost.f (k : Nat) (a0 : ByteArray) : Option (Int × Bool) := (spec_l13Num.f k a0).bind fun bt101 => (if a0.toList = ([45] : List UInt8) then (some (1000000, true)) else (if bt101.2 = true then ((spec_l1In.f bt101.1 0 999999).bind fun t103 => (if t103 = true then (some (bt101.1, true)) else (some (0, false)))) else (some (0, false))))
theorem spec_ParseCost.mono : ∀ a0 k, LeO (spec_ParseCost.f k a0) (spec_ParseCost.f (k + 1) a0) := by
 intro a0 k; unfold spec_ParseCost.f; repeat' first
   | (with_reducible exact spec_l13Num.mono _ _)
   | (with_reducible exact LeO.refl _)
   | (with_reducible exact LeO.none _)
   | (with_reducible refine LeO.ite ?_ ?_)
   | (with_reducible refine LeO.bind ?_ (fun _ => ?_))
   | exact spec_l13Num.mono _ _
   | exact LeO.none _
   | refine LeO.ite ?_ ?_
   | refine LeO.bind ?_ (fun _ => ?_)
set_option maxHeartbeats 8000000 in
set_option maxRecDepth 100000 in
theorem spec_ParseCost.calls (k : Nat) (a0 : ByteArray) (r1 : Int) (r2 : Bool) (w : World) (h : spec_ParseCost.f k a0 = some (r1, r2)) :
  Calls Tryd.prog 17 #[.string a0] w fun e w' => e = .returned (.tuple #[.int .i64 r1, .bool r2]) ∧ Drawn0 w w' := by
 have H : ((spec_l13Num.f k a0).bind fun bt101 => (if a0.toList = ([45] : List UInt8) then (some (1000000, true)) else (if bt101.2 = true then ((spec_l1In.f bt101.1 0 999999).bind fun t103 => (if t103 = true then (some (bt101.1, true)) else (some (0, false)))) else (some (0, false))))) = some (r1, r2) := h; clear h; replace H := Option.bind_eq_some_iff.mp H; obtain ⟨⟨t101, t102⟩, A20, H⟩ := H; (try dsimp only at H); have A2 := am A20; clear A20; by_cases c3 : a0.toList = ([45] : List UInt8)
 ·rw [if_pos c3] at H; have c3b0 : (a0.toList == ([45] : List UInt8)) = true := beq_iff_eq.mpr c3; have c3b1 : (a0.toList != ([45] : List UInt8)) = false := bne_eq_false_iff_eq.mpr c3; clear c3; simp only [Option.some.injEq, Prod.mk.injEq] at H; obtain ⟨rfl, rfl⟩ := H; go_enter Tryd.func17, Tryd.ntmps17; go_wp2_with (first | ((with_reducible refine gy 50 rfl ?_); refine gl Tryd.func50 #[.string a0] ?_; (with_reducible refine (spec_l13Num.calls k a0 t101 t102 _ A2.out).mono ?_); rintro e w' ⟨rfl, ⟨nd, rfl⟩⟩; refine ⟨_, rfl, ?_⟩)); go_ret2; exact ⟨by first | rfl | (simp; done) | (simp [*]; done), by repeat (first | exact Drawn0.refl _ | apply Drawn0.step)⟩
 ·rw [if_neg c3] at H; have c3b0 : (a0.toList == ([45] : List UInt8)) = false := beq_eq_false_iff_ne.mpr c3; have c3b1 : (a0.toList != ([45] : List UInt8)) = true := bne_iff_ne.mpr c3; by_cases c4 : t102 = true
  ·subst c4
   have H1 : ((spec_l1In.f t101 0 999999).bind fun t103 => (if t103 = true then (some (t101, true)) else (some (0, false)))) = some (r1, r2) := by rw [if_pos rfl] at H; exact H
   clear H; have H := H1; clear H1; replace H := Option.bind_eq_some_iff.mp H; obtain ⟨t103, A50, H⟩ := H; (try dsimp only at H); have A5 := am A50; clear A50; by_cases c6 : t103 = true
   ·subst c6
    have H1 : (some (t101, true)) = some (r1, r2) := by rw [if_pos rfl] at H; exact H
    clear H; have H := H1; clear H1; simp only [Option.some.injEq, Prod.mk.injEq] at H; obtain ⟨rfl, rfl⟩ := H; go_enter Tryd.func17, Tryd.ntmps17; go_wp2_with (first | ((with_reducible refine gy 50 rfl ?_); refine gl Tryd.func50 #[.string a0] ?_; (with_reducible refine (spec_l13Num.calls k a0 t101 true _ A2.out).mono ?_); rintro e w' ⟨rfl, ⟨nd, rfl⟩⟩; refine ⟨_, rfl, ?_⟩) | (go_at_call 51; (with_reducible refine (spec_l1In.calls t101 0 999999 true _ A5.out).mono ?_); rintro e w' ⟨rfl, ⟨nd, rfl⟩⟩)); go_ret2; exact ⟨by first | rfl | (simp; done) | (simp [*]; done), by repeat (first | exact Drawn0.refl _ | apply Drawn0.step)⟩
   ·replace c6 := Bool.eq_false_iff.mpr c6; subst c6
    have H1 : (some (0, false)) = some (r1, r2) := by rw [if_neg (show ¬ (false = true) by decide)] at H; exact H
    clear H; have H := H1; clear H1; simp only [Option.some.injEq, Prod.mk.injEq] at H; obtain ⟨rfl, rfl⟩ := H; go_enter Tryd.func17, Tryd.ntmps17; go_wp2_with (first | ((with_reducible refine gy 50 rfl ?_); refine gl Tryd.func50 #[.string a0] ?_; (with_reducible refine (spec_l13Num.calls k a0 t101 true _ A2.out).mono ?_); rintro e w' ⟨rfl, ⟨nd, rfl⟩⟩; refine ⟨_, rfl, ?_⟩) | (go_at_call 51; (with_reducible refine (spec_l1In.calls t101 0 999999 false _ A5.out).mono ?_); rintro e w' ⟨rfl, ⟨nd, rfl⟩⟩)); go_ret2; exact ⟨by first | rfl | (simp; done) | (simp [*]; done), by repeat (first | exact Drawn0.refl _ | apply Drawn0.step)⟩
  ·replace c4 := Bool.eq_false_iff.mpr c4; subst c4
   have H1 : (some (0, false)) = some (r1, r2) := by rw [if_neg (show ¬ (false = true) by decide)] at H; exact H
   clear H; have H := H1; clear H1; simp only [Option.some.injEq, Prod.mk.injEq] at H; obtain ⟨rfl, rfl⟩ := H; go_enter Tryd.func17, Tryd.ntmps17; go_wp2_with (first | ((with_reducible refine gy 50 rfl ?_); refine gl Tryd.func50 #[.string a0] ?_; (with_reducible refine (spec_l13Num.calls k a0 t101 false _ A2.out).mono ?_); rintro e w' ⟨rfl, ⟨nd, rfl⟩⟩; refine ⟨_, rfl, ?_⟩)); go_ret2; exact ⟨by first | rfl | (simp; done) | (simp [*]; done), by repeat (first | exact Drawn0.refl _ | apply Drawn0.step)⟩

/-! ### impl_CostValid: function 47 -/
def impl_CostValid.f (a0 : Int) : Option (Bool) := if a0 ≥ 0 then (some (decide (a0 ≤ 1000000))) else (some false)
set_option maxHeartbeats 8000000 in
set_option maxRecDepth 100000 in
theorem impl_CostValid.calls (a0 : Int) (r : Bool) (w : World) (h : impl_CostValid.f a0 = some r) :
  Calls Tryd.prog 47 #[.int .i64 a0] w fun e w' => e = .returned (.bool r) ∧ Drawn0 w w' := by
 have H : (if a0 ≥ 0 then (some (decide (a0 ≤ 1000000))) else (some false)) = some r := h; clear h; by_cases c2 : a0 ≥ 0
 ·rw [if_pos c2] at H; have c2b0 : decide (0 ≤ a0) = true := decide_eq_true c2; clear c2; obtain rfl := Option.some.inj H; go_enter Tryd.func47, Tryd.ntmps47; go_wp2; go_ret; exact ⟨by first | rfl | (simp; done) | (simp [*]; done), by repeat (first | exact Drawn0.refl _ | apply Drawn0.step)⟩
 ·rw [if_neg c2] at H; have c2b0 : decide (0 ≤ a0) = false := decide_eq_false c2; clear c2; obtain rfl := Option.some.inj H; go_enter Tryd.func47, Tryd.ntmps47; go_wp2; go_ret; exact ⟨by first | rfl | (simp; done) | (simp [*]; done), by repeat (first | exact Drawn0.refl _ | apply Drawn0.step)⟩

/-! ### strconv_Itoa_48: function 48 -/
def strconv_Itoa_48.f (a0 : Int) : Option (ByteArray) := if -9223372036854775808 ≤ a0 ∧ a0 ≤ 9223372036854775807 then some ⟨(Lib.itoa a0).toArray⟩ else none
theorem strconv_Itoa_48.calls (a0 : Int) (r : ByteArray) (w : World) (h : strconv_Itoa_48.f a0 = some r) (hD : Door w) :
    Calls Tryd.prog 48 #[.int .i64 a0] w fun e w' => e = .returned (.string r) ∧ Below w.heap.size w w' := by
  unfold strconv_Itoa_48.f at h
  split at h
  · rename_i hh
    obtain rfl := Option.some.inj h
    refine (Tryd.strconv_Itoa a0 hh.1 hh.2 w hD.tab).mono fun e w' ⟨he, k, os, hw⟩ => ⟨he, ?_⟩
    subst hw
    exact ⟨rfl, rfl, rfl, by simp [Go.Sort.grow], fun i hi => by
      show (w.heap ++ os)[i]? = w.heap[i]?
      rw [Array.getElem?_append_left hi]⟩
  · cases h


/-! ### impl_FormatCost: function 12 -/
def impl_FormatCost.f (a0 : Int) : Option (ByteArray) := (impl_CostValid.f a0).bind fun t123 => (if t123 = true then (if a0 = 1000000 then (some (⟨#[45]⟩ : ByteArray)) else ((strconv_Itoa_48.f a0).bind fun t124 => (some t124))) else (some (⟨#[]⟩ : ByteArray)))
set_option maxHeartbeats 8000000 in
set_option maxRecDepth 100000 in
theorem impl_FormatCost.calls (a0 : Int) (r : ByteArray) (w : World) (h : impl_FormatCost.f a0 = some r) (hD : Door w) :
  Calls Tryd.prog 12 #[.int .i64 a0] w fun e w' => e = .returned (.string r) ∧ Below w.heap.size w w' := by
 have HD := am hD; clear hD; have HB := am (Below.refl w.heap.size w); have H : ((impl_CostValid.f a0).bind fun t123 => (if t123 = true then (if a0 = 1000000 then (some (⟨#[45]⟩ : ByteArray)) else ((strconv_Itoa_48.f a0).bind fun t124 => (some t124))) else (some (⟨#[]⟩ : ByteArray)))) = some r := h; clear h; replace H := Option.bind_eq_some_iff.mp H; obtain ⟨t123, A20, H⟩ := H; (try dsimp only at H); have A2 := am A20; clear A20; by_cases c3 : t123 = true
 ·subst c3
  have H1 : (if a0 = 1000000 then (some (⟨#[45]⟩ : ByteArray)) else ((strconv_Itoa_48.f a0).bind fun t124 => (some t124))) = some r := by rw [if_pos rfl] at H; exact H
  clear H; have H := H1; clear H1; by_cases c4 : a0 = 1000000
  ·rw [if_pos c4] at H; have c4b0 : (a0 == 1000000) = true := beq_iff_eq.mpr c4; have c4b1 : (a0 != 1000000) = false := bne_eq_false_iff_eq.mpr c4; clear c4; obtain rfl := Option.some.inj H; go_enter Tryd.func12, Tryd.ntmps12; go_wp2_with (first | ((with_reducible refine gy 47 rfl ?_); refine gl Tryd.func47 #[.int .i64 a0] ?_; (with_reducible refine (impl_CostValid.calls a0 true _ A2.out).mono ?_); rintro e w' ⟨rfl, ⟨nd, rfl⟩⟩; refine ⟨_, rfl, ?_⟩)); go_ret; exact ⟨by first | rfl | (simp [errW_none, errW_some] <;> rfl) | (simp [*, errW_none, errW_some] <;> rfl), by exact bz HB.out⟩
  ·rw [if_neg c4] at H; have c4b0 : (a0 == 1000000) = false := beq_eq_false_iff_ne.mpr c4; have c4b1 : (a0 != 1000000) = true := bne_iff_ne.mpr c4; replace H := Option.bind_eq_some_iff.mp H; obtain ⟨t124, A50, H⟩ := H; (try dsimp only at H); have A5 := am A50; clear A50; obtain rfl := Option.some.inj H; go_enter Tryd.func12, Tryd.ntmps12; go_wp2_with (first | ((with_reducible refine gy 47 rfl ?_); refine gl Tryd.func47 #[.int .i64 a0] ?_; (with_reducible refine (impl_CostValid.calls a0 true _ A2.out).mono ?_); rintro e w' ⟨rfl, ⟨nd, rfl⟩⟩; refine ⟨_, rfl, ?_⟩) | ((with_reducible refine gy 48 rfl ?_); refine gl Tryd.func48 #[.int .i64 a0] ?_; (with_reducible refine (strconv_Itoa_48.calls a0 t124 _ A5.out ?sideD).mono ?_); (case sideD => exact door_up HD.out (bw HB.out)); rintro e w6 ⟨rfl, hb⟩; refine ⟨_, rfl, ?_⟩; have n0_ := hs HB hb; clear HB; revert n0_; intro HB; (try clear hb); (try clear hb2); (try clear hk); (try clear hi))); go_ret; exact ⟨by first | rfl | (simp [errW_none, errW_some] <;> rfl) | (simp [*, errW_none, errW_some] <;> rfl), by exact bz HB.out⟩
 ·replace c3 := Bool.eq_false_iff.mpr c3; subst c3
  have H1 : (some (⟨#[]⟩ : ByteArray)) = some r := by rw [if_neg (show ¬ (false = true) by decide)] at H; exact H
  clear H; have H := H1; clear H1; obtain rfl := Option.some.inj H; go_enter Tryd.func12, Tryd.ntmps12; go_wp2_with (first | ((with_reducible refine gy 47 rfl ?_); refine gl Tryd.func47 #[.int .i64 a0] ?_; (with_reducible refine (impl_CostValid.calls a0 false _ A2.out).mono ?_); rintro e w' ⟨rfl, ⟨nd, rfl⟩⟩; refine ⟨_, rfl, ?_⟩)); go_ret; exact ⟨by first | rfl | (simp [errW_none, errW_some] <;> rfl) | (simp [*, errW_none, errW_some] <;> rfl), by exact bz HB.out⟩

/-! ### impl_ParseCost: function 18 -/
def impl_ParseCost.at_ (a0 : ByteArray) (a : Int) : Option (Int × Bool) := (impl_CostValid.f a).bind fun v => if v = true then (impl_FormatCost.f a).bind fun t => (if t.toList = a0.toList then some (a, true) else some (0, false)) else some (0, false)
def impl_ParseCost.f (a0 : ByteArray) : Option (Int × Bool) := if a0.size ≤ 140737488351232 then (if a0.toList = ([45] : List UInt8) then impl_ParseCost.at_ a0 1000000 else match Lib.atoiAll a0.data.toList with | .ok v => impl_ParseCost.at_ a0 v | _ => some (0, false)) else none
theorem impl_ParseCost.err {a0 : ByteArray} {w : World} (hs : a0.size ≤ 140737488351232) (hD : Door w) (h : ∀ v, Lib.atoiAll a0.data.toList ≠ .ok v) :
    Calls Tryd.prog 52 #[.string a0] w fun e w' => (∃ (v : Int) (t : TypeId) (x : Addr), e = .returned (.tuple #[.int .i64 v, .iface t (.pointer (some x))])) ∧ Below w.heap.size w w' := by
  obtain ⟨t1, p1, h1⟩ := hD.syn
  obtain ⟨t2, p2, h2⟩ := hD.rng
  cases e : Lib.atoiAll a0.data.toList with
  | ok v => exact absurd e (h v)
  | range => exact (Tryd.strconv_Atoi_range_var a0 (by omega) e t2 p2 w h2).mono fun e w' ⟨N, he, _, _, hb⟩ => ⟨⟨_, _, _, he⟩, hb⟩
  | _ => exact (Tryd.strconv_Atoi_syntax_var a0 (by omega) (by rw [e]; intro v hv; cases hv) (by rw [e]; intro hv; cases hv) t1 p1 w h1).mono fun e w' ⟨N, he, _, _, hb⟩ => ⟨⟨_, _, _, he⟩, hb⟩
theorem impl_ParseCost.fine {a0 : ByteArray} {w : World} (hs : a0.size ≤ 140737488351232) {v : Int} (h : Lib.atoiAll a0.data.toList = .ok v) :
    Calls Tryd.prog 52 #[.string a0] w fun e w' => e = .returned (.tuple #[.int .i64 v, .nilIface]) ∧ Below w.heap.size w w' := by
  refine (Tryd.strconv_Atoi_ok a0 (by omega) v h w).mono fun e w' ⟨he, hw⟩ => ⟨he, ?_⟩
  rcases hw with rfl | ⟨t, rfl⟩
  · exact Below.refl _ _
  · exact Lib.bytesWorld_below _ _ _
set_option maxHeartbeats 8000000 in
set_option maxRecDepth 100000 in
theorem impl_ParseCost.calls (a0 : ByteArray) (r1 : Int) (r2 : Bool) (w : World) (h : impl_ParseCost.f a0 = some (r1, r2)) (hD : Door w) :
    Calls Tryd.prog 18 #[.string a0] w fun e w' => e = .returned (.tuple #[.int .i64 r1, .bool r2]) ∧ Below w.heap.size w w' := by
  unfold impl_ParseCost.f at h
  split at h
  · rename_i hs
    by_cases c : a0.toList = ([45] : List UInt8)
    · rw [if_pos c] at h
      have hno : ∀ v, Lib.atoiAll a0.data.toList ≠ .ok v := by
        rw [← ByteArray.toList_eq, c]
        intro v hv
        have this : (match Lib.atoiAll [45] with | .ok _ => false | _ => true) = true := by decide +kernel
        rw [hv] at this
        exact absurd (show false = true from this) Bool.false_ne_true
      have HA := am (impl_ParseCost.err hs hD hno)
      have HD := am hD
      have c0 : (a0.toList == ([45] : List UInt8)) = true := beq_iff_eq.mpr c
      have c1 : (a0.toList != ([45] : List UInt8)) = false := bne_eq_false_iff_eq.mpr c
      clear c hno hs hD
      obtain ⟨b, hb, h⟩ := Option.bind_eq_some_iff.1 h
      have HV := am hb
      clear hb
      cases b with
      | false =>
        simp only [Bool.false_eq_true, if_false, Option.some.injEq, Prod.mk.injEq] at h
        obtain ⟨rfl, rfl⟩ := h
        go_enter Tryd.func18, Tryd.ntmps18
        go_wp2_with (first | (go_at_call 52; refine HA.out.mono ?_; rintro e w1 ⟨⟨v, t, x, rfl⟩, hb⟩; have HB := am hb; clear hb) | (go_at_call 47; refine (impl_CostValid.calls _ false _ HV.out).mono ?_; rintro e w' ⟨rfl, ⟨nd, rfl⟩⟩))
        go_ret2
        exact ⟨rfl, by exact bw HB.out⟩
      | true =>
        simp only [if_true] at h
        obtain ⟨t, ht, h⟩ := Option.bind_eq_some_iff.1 h
        have HF := am ht
        clear ht
        by_cases d : t.toList = a0.toList
        · rw [if_pos d] at h
          simp only [Option.some.injEq, Prod.mk.injEq] at h
          obtain ⟨rfl, rfl⟩ := h
          have d0 : (t.toList == a0.toList) = true := beq_iff_eq.mpr d
          have d1 : (t.toList != a0.toList) = false := bne_eq_false_iff_eq.mpr d
          clear d
          go_enter Tryd.func18, Tryd.ntmps18
          go_wp2_with (first | (go_at_call 52; refine HA.out.mono ?_; rintro e w1 ⟨⟨v, t, x, rfl⟩, hb⟩; have HB := am hb; clear hb) | (go_at_call 47; refine (impl_CostValid.calls _ true _ HV.out).mono ?_; rintro e w' ⟨rfl, ⟨nd, rfl⟩⟩) | (go_at_call 12; refine (impl_FormatCost.calls _ _ _ HF.out (door_up HD.out (bw HB.out))).mono ?_; rintro e w2 ⟨rfl, hb⟩; have HB2 := hs HB hb; clear hb HB))
          go_ret2
          exact ⟨rfl, by exact bw HB2.out⟩
        · rw [if_neg d] at h
          simp only [Option.some.injEq, Prod.mk.injEq] at h
          obtain ⟨rfl, rfl⟩ := h
          have d0 : (t.toList == a0.toList) = false := beq_eq_false_iff_ne.mpr d
          have d1 : (t.toList != a0.toList) = true := bne_iff_ne.mpr d
          clear d
          go_enter Tryd.func18, Tryd.ntmps18
          go_wp2_with (first | (go_at_call 52; refine HA.out.mono ?_; rintro e w1 ⟨⟨v, t, x, rfl⟩, hb⟩; have HB := am hb; clear hb) | (go_at_call 47; refine (impl_CostValid.calls _ true _ HV.out).mono ?_; rintro e w' ⟨rfl, ⟨nd, rfl⟩⟩) | (go_at_call 12; refine (impl_FormatCost.calls _ _ _ HF.out (door_up HD.out (bw HB.out))).mono ?_; rintro e w2 ⟨rfl, hb⟩; have HB2 := hs HB hb; clear hb HB))
          go_ret2
          exact ⟨rfl, by exact bw HB2.out⟩
    · rw [if_neg c] at h
      have c0 : (a0.toList == ([45] : List UInt8)) = false := beq_eq_false_iff_ne.mpr c
      have c1 : (a0.toList != ([45] : List UInt8)) = true := bne_iff_ne.mpr c
      have HD := am hD
      clear c
      by_cases hv : ∃ v, Lib.atoiAll a0.data.toList = .ok v
      · obtain ⟨v, hv⟩ := hv
        rw [hv] at h
        have HA := am (impl_ParseCost.fine (w := w) hs hv)
        clear hv hs hD
        simp only at h
        obtain ⟨b, hb, h⟩ := Option.bind_eq_some_iff.1 h
        have HV := am hb
        clear hb
        cases b with
        | false =>
          simp only [Bool.false_eq_true, if_false, Option.some.injEq, Prod.mk.injEq] at h
          obtain ⟨rfl, rfl⟩ := h
          go_enter Tryd.func18, Tryd.ntmps18
          go_wp2_with (first | (go_at_call 52; refine HA.out.mono ?_; rintro e w1 ⟨rfl, hb⟩; have HB := am hb; clear hb) | (go_at_call 47; refine (impl_CostValid.calls _ false _ HV.out).mono ?_; rintro e w' ⟨rfl, ⟨nd, rfl⟩⟩))
          go_ret2
          exact ⟨rfl, by exact bw HB.out⟩
        | true =>
          simp only [if_true] at h
          obtain ⟨t, ht, h⟩ := Option.bind_eq_some_iff.1 h
          have HF := am ht
          clear ht
          by_cases d : t.toList = a0.toList
          · rw [if_pos d] at h
            simp only [Option.some.injEq, Prod.mk.injEq] at h
            obtain ⟨rfl, rfl⟩ := h
            have d0 : (t.toList == a0.toList) = true := beq_iff_eq.mpr d
            have d1 : (t.toList != a0.toList) = false := bne_eq_false_iff_eq.mpr d
            clear d
            go_enter Tryd.func18, Tryd.ntmps18
            go_wp2_with (first | (go_at_call 52; refine HA.out.mono ?_; rintro e w1 ⟨rfl, hb⟩; have HB := am hb; clear hb) | (go_at_call 47; refine (impl_CostValid.calls _ true _ HV.out).mono ?_; rintro e w' ⟨rfl, ⟨nd, rfl⟩⟩) | (go_at_call 12; refine (impl_FormatCost.calls _ _ _ HF.out (door_up HD.out (bw HB.out))).mono ?_; rintro e w2 ⟨rfl, hb⟩; have HB2 := hs HB hb; clear hb HB))
            go_ret2
            exact ⟨rfl, by exact bw HB2.out⟩
          · rw [if_neg d] at h
            simp only [Option.some.injEq, Prod.mk.injEq] at h
            obtain ⟨rfl, rfl⟩ := h
            have d0 : (t.toList == a0.toList) = false := beq_eq_false_iff_ne.mpr d
            have d1 : (t.toList != a0.toList) = true := bne_iff_ne.mpr d
            clear d
            go_enter Tryd.func18, Tryd.ntmps18
            go_wp2_with (first | (go_at_call 52; refine HA.out.mono ?_; rintro e w1 ⟨rfl, hb⟩; have HB := am hb; clear hb) | (go_at_call 47; refine (impl_CostValid.calls _ true _ HV.out).mono ?_; rintro e w' ⟨rfl, ⟨nd, rfl⟩⟩) | (go_at_call 12; refine (impl_FormatCost.calls _ _ _ HF.out (door_up HD.out (bw HB.out))).mono ?_; rintro e w2 ⟨rfl, hb⟩; have HB2 := hs HB hb; clear hb HB))
            go_ret2
            exact ⟨rfl, by exact bw HB2.out⟩
      · have hno : ∀ v, Lib.atoiAll a0.data.toList ≠ .ok v := fun v e => hv ⟨v, e⟩
        have HA := am (impl_ParseCost.err hs hD hno)
        have h : some ((0 : Int), false) = some (r1, r2) := by
          cases e : Lib.atoiAll a0.data.toList with
          | ok v => exact absurd e (hno v)
          | range => rw [e] at h; exact h
          | _ => rw [e] at h; exact h
        clear hv hno hs hD
        simp only [Option.some.injEq, Prod.mk.injEq] at h
        obtain ⟨rfl, rfl⟩ := h
        go_enter Tryd.func18, Tryd.ntmps18
        go_wp2_with (go_at_call 52; refine HA.out.mono ?_; rintro e w1 ⟨⟨v, t, x, rfl⟩, hb⟩; have HB := am hb; clear hb)
        go_ret2
        exact ⟨rfl, by exact bw HB.out⟩
  · cases h


end Go.Proofs.YtmnfbnpclanafaaDoor.PGP
