-- Written by a program (wip/myprint.py): the machine side of one law: each function that it reaches, as a plain function, and the proof that a call comes to just that.
import Derived.Test.YthgkfakkpinbcaaPFnExactShortWordsx0
namespace Go.Proofs.Ythgkfakkpinbcaa.PFnExactShortWords
open Go.RowKit Go.Proofs.YthgkfakkpinbcaaW.PrintWords Go.Proofs.YthgkfakkpinbcaaW.PrintLast Go.Proofs.YthgkfakkpinbcaaW.PrintMore
attribute [local go_sem] max2_int min2_int max_two min_two max_three min_three max_four min_four   -- for this text's walks alone
set_option linter.unusedVariables false
set_option linter.unusedSimpArgs false

/-! ### spec_l1In: function 46 -/
def spec_l1In.f (a0 : Int) (a1 : Int) (a2 : Int) : Option (Bool) := if a0 ≥ a1 then (some (decide (a0 ≤ a2))) else (some false)
set_option maxHeartbeats 8000000 in
set_option maxRecDepth 100000 in
theorem spec_l1In.calls (a0 : Int) (a1 : Int) (a2 : Int) (r : Bool) (w : World) (h : spec_l1In.f a0 a1 a2 = some r) :
  Calls Try.prog 46 #[.int .i64 a0, .int .i64 a1, .int .i64 a2] w fun e w' => e = .returned (.bool r) ∧ Drawn0 w w' := by
 have H : (if a0 ≥ a1 then (some (decide (a0 ≤ a2))) else (some false)) = some r := h; clear h; by_cases c4 : a0 ≥ a1
 ·rw [if_pos c4] at H; have c4b0 : decide (a1 ≤ a0) = true := decide_eq_true c4; clear c4; obtain rfl := Option.some.inj H; go_enter Try.func46, Try.ntmps46; go_wp2; go_ret; exact ⟨by first | rfl | (simp; done) | (simp [*]; done), by repeat (first | exact Drawn0.refl _ | apply Drawn0.step)⟩
 ·rw [if_neg c4] at H; have c4b0 : decide (a1 ≤ a0) = false := decide_eq_false c4; clear c4; obtain rfl := Option.some.inj H; go_enter Try.func46, Try.ntmps46; go_wp2; go_ret; exact ⟨by first | rfl | (simp; done) | (simp [*]; done), by repeat (first | exact Drawn0.refl _ | apply Drawn0.step)⟩

/-! ### spec_l4Words: function 52 -/
mutual
def spec_l4Words.l0 : Nat → List ByteArray → Int → Int → Int → Option (List ByteArray)
 | 0, _, _, _, _ => none
 | k + 1, x3, x4, x9, x10 => if x10 < x9 then (if 0 ≤ x4 then (if x4 ≤ (x3.length : Int) then (if (x3.length : Int) ≤ (x3.length : Int) then ((some ((x3.take ((x3.length : Int) : Int).toNat).drop (x4 : Int).toNat : List ByteArray)).bind fun y104 => (spec_l4Words.l1 k x3 (x3.length : Int) x9 x10 y104 (y104.length : Int) 0)) else (none)) else (none)) else (none)) else (some x3)
def spec_l4Words.l1 : Nat → List ByteArray → Int → Int → Int → List ByteArray → Int → Int → Option (List ByteArray)
 | 0, _, _, _, _, _, _, _ => none
 | k + 1, x3, x5, x9, x10, x17, x18, x19 => if x19 < x18 then (if 0 ≤ x19 then (if x19 < (x17.length : Int) then (if (rdOf ByteArray.empty x17 x19).size + 1 ≤ 9223372036854775807 then ((some (([(rdOf ByteArray.empty x17 x19) ++ (⟨#[97]⟩ : ByteArray), (rdOf ByteArray.empty x17 x19) ++ (⟨#[98]⟩ : ByteArray)] : List ByteArray) : List ByteArray)).bind fun y109 => (if x3.length + y109.length < 8796093022208 then (spec_l4Words.l1 k (x3 ++ y109) x5 x9 x10 x17 x18 (wrap64 (x19 + 1))) else (none))) else (none)) else (none)) else (none)) else (spec_l4Words.l0 k x3 x5 x9 (wrap64 (x10 + 1)))
end
def spec_l4Words.f (k : Nat) (a0 : Int) : Option (List ByteArray) := spec_l4Words.l0 k (([(⟨#[]⟩ : ByteArray)] : List ByteArray)) 0 a0 0
theorem spec_l4Words.mono_l : ∀ k, (∀ y0 y1 y2 y3, LeO (spec_l4Words.l0 k y0 y1 y2 y3) (spec_l4Words.l0 (k + 1) y0 y1 y2 y3)) ∧ (∀ y0 y1 y2 y3 y4 y5 y6, LeO (spec_l4Words.l1 k y0 y1 y2 y3 y4 y5 y6) (spec_l4Words.l1 (k + 1) y0 y1 y2 y3 y4 y5 y6))
 | 0 => ⟨fun _ _ _ _ r h => by simp [spec_l4Words.l0] at h, fun _ _ _ _ _ _ _ r h => by simp [spec_l4Words.l1] at h⟩
 | k + 1 => by
  obtain ⟨ih0, ih1⟩ := spec_l4Words.mono_l k; refine ⟨?_, ?_⟩
  ·intro y0 y1 y2 y3; unfold spec_l4Words.l0; repeat' first
   | (with_reducible exact ih0 _ _ _ _)
   | (with_reducible exact ih1 _ _ _ _ _ _ _)
   | (with_reducible exact LeO.refl _)
   | (with_reducible exact LeO.none _)
   | (with_reducible refine LeO.ite ?_ ?_)
   | (with_reducible refine LeO.bind ?_ (fun _ => ?_))
   | exact ih0 _ _ _ _
   | exact ih1 _ _ _ _ _ _ _
   | exact LeO.none _
   | refine LeO.ite ?_ ?_
   | refine LeO.bind ?_ (fun _ => ?_)
  ·intro y0 y1 y2 y3 y4 y5 y6; unfold spec_l4Words.l1; repeat' first
   | (with_reducible exact ih0 _ _ _ _)
   | (with_reducible exact ih1 _ _ _ _ _ _ _)
   | (with_reducible exact LeO.refl _)
   | (with_reducible exact LeO.none _)
   | (with_reducible refine LeO.ite ?_ ?_)
   | (with_reducible refine LeO.bind ?_ (fun _ => ?_))
   | exact ih0 _ _ _ _
   | exact ih1 _ _ _ _ _ _ _
   | exact LeO.none _
   | refine LeO.ite ?_ ?_
   | refine LeO.bind ?_ (fun _ => ?_)
theorem spec_l4Words.mono : ∀ a0 k, LeO (spec_l4Words.f k a0) (spec_l4Words.f (k + 1) a0) := by
 intro a0 k; obtain ⟨ih0, ih1⟩ := spec_l4Words.mono_l k; unfold spec_l4Words.f; repeat' first
   | (with_reducible exact ih0 _ _ _ _)
   | (with_reducible exact ih1 _ _ _ _ _ _ _)
   | (with_reducible exact LeO.refl _)
   | (with_reducible exact LeO.none _)
   | (with_reducible refine LeO.ite ?_ ?_)
   | (with_reducible refine LeO.bind ?_ (fun _ => ?_))
   | exact ih0 _ _ _ _
   | exact ih1 _ _ _ _ _ _ _
   | exact LeO.none _
   | refine LeO.ite ?_ ?_
   | refine LeO.bind ?_ (fun _ => ?_)
set_option maxHeartbeats 8000000 in
set_option maxRecDepth 100000 in
theorem spec_l4Words.calls (k : Nat) (a0 : Int) (r : List ByteArray) (w : World) (h : spec_l4Words.f k a0 = some r) :
  Calls Try.prog 52 #[.int .i64 a0] w fun e w' => ∃ v0_ : Value, e = .returned (v0_) ∧ Kd.R Kd.string 9 w' w.heap.size (fun _ => True) v0_ r ∧ Below w.heap.size w w' := by
 have HB := am (Below.refl w.heap.size w); have H : (spec_l4Words.l0 k (([(⟨#[]⟩ : ByteArray)] : List ByteArray)) 0 a0 0) = some r := h; clear h; obtain ⟨y101, hy101⟩ : ∃ y_ : List ByteArray, y_ = (([(⟨#[]⟩ : ByteArray)] : List ByteArray)) := ⟨_, rfl⟩
 replace H : (spec_l4Words.l0 k y101 0 a0 0) = some r := by first | (rw [hy101]; with_reducible exact H) | (have H2_ := (Option.bind_some _ _).symm.trans H; rw [hy101]; with_reducible exact H2_) | (have H2_ := (Option.bind_some _ _).symm.trans H; with_reducible exact H2_) | with_reducible exact H | (rw [hy101]; exact H) | exact H
 have Ny101 := am hy101; clear hy101; have H' := am H; clear H; go_enter Try.func52, Try.ntmps52; go_wp2_with (first | ((with_reducible refine gx 8 rfl ?_); refine Kd.R_lit Kd.string _ 9 ?hg (N := 8) ?hd (xs := ([(⟨#[]⟩ : ByteArray)] : List ByteArray)) (inner := [.string (⟨#[]⟩ : ByteArray)]) (ok := fun _ => True) (okp := fun _ => True) ?hr ?hp (fun _ hk => hk) trivial (Below.refl _ _) (Nat.le_refl _) (by simp) ?_; (case hd => rfl); (case hg => rfl); (case hr => first | (go_simp; done) | (go_simp; rfl)); (case hp => exact (Reps.one (show Kd.M Kd.string _ _ _ (⟨#[]⟩ : ByteArray) [.string (⟨#[]⟩ : ByteArray)] from rfl) (Reps.none _ _))); intro v102 w2 ho3 hb hg_ hnew_; clear hg_ hnew_; (first | rw [← Ny101.out] at ho3 | (simp only [Int.reduceToNat] at ho3; rw [← Ny101.out] at ho3)); have n0_ := am (Kd.R_lower ho3 (below_size (bz HB.out))); have n1_ := hs HB hb; clear HB; revert n0_ n1_; intro HO103 HB; clear hb ho3)); go_loopg [3, 4, 10] k (fun kq v3 v4 v10 w' => ∃ (x3_1 : List ByteArray) (x4_1 : Int) (x10_1 : Int), v4 = .int .i64 x4_1 ∧ v10 = .int .i64 x10_1 ∧ Aside0 (spec_l4Words.l0 kq x3_1 x4_1 a0 x10_1 = some r) ∧ Aside0 (kq ≤ k) ∧ Aside0 (Kd.R Kd.string 9 w' w.heap.size (fun _ => True) v3 x3_1) ∧ Aside0 (Below w.heap.size w w'))
 case atStart => exact ⟨(y101), (0), (0), (by first | rfl | (simp; done) | (simp [*]; done)), (by first | rfl | (simp; done) | (simp [*]; done)), H', ⟨Nat.le_refl _⟩, ⟨rz HO103.out⟩, ⟨by exact bz HB.out⟩⟩
 case round =>
  clear H'; (try clear p2); obtain ⟨x3_1, x4_1, x10_1, rfl, rfl, HA, HK1, HO_3, HB⟩ := hrel
  cases gk with
  | zero => exact absurd HA.out (by simp [spec_l4Words.l0])
  | succ k1 =>
   have H := HA.out; clear HA; simp only [spec_l4Words.l0] at H; by_cases c4 : x10_1 < a0
   ·rw [if_pos c4] at H; have c4b0 : decide (x10_1 < a0) = true := decide_eq_true c4; clear c4; by_cases c5 : 0 ≤ x4_1
    ·rw [if_pos c5] at H; have c5b0 := eq_true c5; have c5b1 : decide (0 ≤ x4_1) = true := decide_eq_true c5; clear c5; by_cases c6 : x4_1 ≤ (x3_1.length : Int)
     ·rw [if_pos c6] at H; have c6b0 := eq_true c6; have c6b1 : decide (x4_1 ≤ (x3_1.length : Int)) = true := decide_eq_true c6; clear c6; by_cases c7 : (x3_1.length : Int) ≤ (x3_1.length : Int)
      ·rw [if_pos c7] at H; have c7b0 := eq_true c7; have c7b1 : decide ((x3_1.length : Int) ≤ (x3_1.length : Int)) = true := decide_eq_true c7; clear c7; obtain ⟨y104, hy104⟩ : ∃ y_ : List ByteArray, y_ = ((x3_1.take ((x3_1.length : Int) : Int).toNat).drop (x4_1 : Int).toNat) := ⟨_, rfl⟩
       replace H : (spec_l4Words.l1 k1 x3_1 (x3_1.length : Int) a0 x10_1 y104 (y104.length : Int) 0) = some r := by first | (rw [hy104]; with_reducible exact H) | (have H2_ := (Option.bind_some _ _).symm.trans H; rw [hy104]; with_reducible exact H2_) | (have H2_ := (Option.bind_some _ _).symm.trans H; with_reducible exact H2_) | with_reducible exact H | (rw [hy104]; exact H) | exact H
       have Ny104 := am hy104; clear hy104; have H' := am H; clear H; obtain ⟨Ao8, co8, eo8⟩ := Kd.R_slice HO_3.out; subst eo8; have q9 : ((x3_1.length : Int) : Int) ≤ ((x3_1.length : Int) : Int) := da; obtain ⟨i09, hi09, _, hsz9, _⟩ := info_parts info9; have hroom9 : x3_1.length ≤ co8 := (Kd.R_reads' HO_3.out).2.1; have hC9 : Kd.C Kd.string _ Ao8 x3_1.length x3_1 := (Kd.R_reads' HO_3.out).2.2; have ql9 : (x4_1 : Int) ≤ ((x3_1.length : Int) : Int) := da; have q09 : (0 : Int) ≤ (x4_1 : Int) := da; have hcut9 := cut_mid (P := Try.prog) 36 9 .i64 .i64 Try.underlying36 hi09 1 hsz9 Ao8 x3_1.length co8 x4_1 (x3_1.length : Int) q09 ql9 q9 hroom9; have hr9 := Kd.C_mid (lo := (x4_1 : Int).toNat) (hi := ((x3_1.length : Int) : Int).toNat) (c := co8) hC9 (by omega) (by omega) hroom9; obtain ⟨A9, hA9⟩ : ∃ A1, A1 = (if co8 = (x4_1 : Int).toNat then Ao8 else (Ao8 : Option Addr).map (·.add ((x4_1 : Int).toNat * 1))) := ⟨_, rfl⟩; obtain ⟨c9, hc9⟩ : ∃ c1, c1 = co8 - (x4_1 : Int).toNat := ⟨_, rfl⟩; have hy9 : y104.length = ((x3_1.length : Int) : Int).toNat - (x4_1 : Int).toNat := (by rw [Ny104.out, List.length_drop, List.length_take] <;> omega); rw [show ((x3_1).take ((x3_1.length : Int) : Int).toNat).drop (x4_1 : Int).toNat = y104 from Ny104.out.symm] at hr9; replace hr9 : Kd.C Kd.string _ A9 y104.length y104 := (by rw [hA9]; exact hr9); rw [← hy9, ← hA9, ← hc9] at hcut9; have HR107 := am hr9; have HC107 := am (show y104.length ≤ c9 from by rw [hy9, hc9]; exact Nat.sub_le_sub_right (Nat.le_trans (by omega) hroom9) _); clear hr9 hC9 hroom9 hi09 hsz9 hc9; have KY9 := am hy9; have KA9 := am hA9; clear hy9 hA9; have KL9 := am (show ((x3_1.length : Int) : Int).toNat ≤ x3_1.length from by omega); have KM9 := am (show (x4_1 : Int).toNat ≤ ((x3_1.length : Int) : Int).toNat from by omega); replace q9 := eq_true q9; have UN9 := am (under_R HO_3.out KA9.out KY9.out KL9.out); go_wp2; go_loopg [3, 19] k1 (fun kq v3 v19 w' => ∃ (x3_2 : List ByteArray) (x19_2 : Int), v19 = .int .i64 x19_2 ∧ Aside0 (spec_l4Words.l1 kq x3_2 (x3_1.length : Int) a0 x10_1 y104 (y104.length : Int) x19_2 = some r) ∧ Aside0 (kq ≤ k1) ∧ Aside0 (Kd.R Kd.string 9 w' w.heap.size (fun _ => True) v3 x3_2) ∧ Aside0 (Below w.heap.size w w') ∧ Aside0 (Kd.C Kd.string w' A9 y104.length y104) ∧ Aside0 (Under v3 x3_2.length A9 y104.length))
       case atStart => exact ⟨(x3_1), (0), (by first | rfl | (simp; done) | (simp [*]; done)), H', ⟨Nat.le_refl _⟩, ⟨rz HO_3.out⟩, ⟨by exact bz HB.out⟩, ⟨cc HR107.out⟩, UN9⟩
       case round =>
        clear H'; (try clear c1); (try clear p2); (try clear c4); (try clear c4b0); (try clear c5); (try clear c5b0); (try clear c5b1); (try clear c6); (try clear c6b0); (try clear c6b1); (try clear c7); (try clear c7b0); (try clear c7b1); (try clear c9); (try clear q9); (try clear p2); (try clear q09); (try clear q9); obtain ⟨x3_2, x19_2, rfl, HA, HK2, HO_3, HB, HR107, UN9⟩ := hrel
        cases gk with
        | zero => exact absurd HA.out (by simp [spec_l4Words.l1])
        | succ k2 =>
         have H := HA.out; clear HA; simp only [spec_l4Words.l1] at H; by_cases c10 : x19_2 < (y104.length : Int)
         ·rw [if_pos c10] at H; have c10b0 : decide (x19_2 < (y104.length : Int)) = true := decide_eq_true c10; clear c10; by_cases c11 : 0 ≤ x19_2
          ·rw [if_pos c11] at H; have c11b0 : decide (0 ≤ x19_2) = true := decide_eq_true c11; clear c11; by_cases c12 : x19_2 < (y104.length : Int)
           ·rw [if_pos c12] at H; have c12b0 : decide (x19_2 < (y104.length : Int)) = true := decide_eq_true c12; clear c12; by_cases c13 : (rdOf ByteArray.empty y104 x19_2).size + 1 ≤ 9223372036854775807
            ·rw [if_pos c13] at H; have c13b0 := eq_true c13; have c13b1 : decide ((rdOf ByteArray.empty y104 x19_2).size + 1 ≤ 9223372036854775807) = true := decide_eq_true c13; (try have c13b2 : (9223372036854775807 < (rdOf ByteArray.empty y104 x19_2).size + 1) = False := eq_false (Nat.not_lt.2 c13)); obtain ⟨y109, hy109⟩ : ∃ y_ : List ByteArray, y_ = (([(rdOf ByteArray.empty y104 x19_2) ++ (⟨#[97]⟩ : ByteArray), (rdOf ByteArray.empty y104 x19_2) ++ (⟨#[98]⟩ : ByteArray)] : List ByteArray)) := ⟨_, rfl⟩
             replace H : (if x3_2.length + y109.length < 8796093022208 then (spec_l4Words.l1 k2 (x3_2 ++ y109) (x3_1.length : Int) a0 x10_1 y104 (y104.length : Int) (wrap64 (x19_2 + 1))) else (none)) = some r := by first | (rw [hy109]; with_reducible exact H) | (have H2_ := (Option.bind_some _ _).symm.trans H; rw [hy109]; with_reducible exact H2_) | (have H2_ := (Option.bind_some _ _).symm.trans H; with_reducible exact H2_) | with_reducible exact H | (rw [hy109]; exact H) | exact H
             have Ny109 := am hy109; clear hy109; by_cases c14 : x3_2.length + y109.length < 8796093022208
             ·rw [if_pos c14] at H; have LMc14 := am c14; clear c14; obtain ⟨y112, hy112⟩ : ∃ y_ : List ByteArray, y_ = (x3_2 ++ y109) := ⟨_, rfl⟩
              replace H : (spec_l4Words.l1 k2 y112 (x3_1.length : Int) a0 x10_1 y104 (y104.length : Int) (wrap64 (x19_2 + 1))) = some r := by first | (rw [hy112]; with_reducible exact H) | (have H2_ := (Option.bind_some _ _).symm.trans H; rw [hy112]; with_reducible exact H2_) | (have H2_ := (Option.bind_some _ _).symm.trans H; with_reducible exact H2_) | with_reducible exact H | (rw [hy112]; exact H) | exact H
              have Ny112 := am hy112; clear hy112; have H' := am H; clear H; have p108 : 0 ≤ (x19_2 : Int) := da; have q108 : x19_2 < (y104.length : Int) := da; obtain ⟨ad108, e108, hx108_0⟩ := Kd.at_string HR107.out x19_2 p108 q108; cases e108; replace p108 := eq_true p108; replace q108 := eq_true q108; go_wp2_with (first | ((with_reducible refine gx 28 rfl ?_); refine Kd.R_lit Kd.string _ 9 ?hg (N := 28) ?hd (xs := ([(rdOf ByteArray.empty y104 x19_2) ++ (⟨#[97]⟩ : ByteArray), (rdOf ByteArray.empty y104 x19_2) ++ (⟨#[98]⟩ : ByteArray)] : List ByteArray)) (inner := [.string ((rdOf ByteArray.empty y104 x19_2) ++ (⟨#[97]⟩ : ByteArray)), .string ((rdOf ByteArray.empty y104 x19_2) ++ (⟨#[98]⟩ : ByteArray))]) (ok := fun _ => True) (okp := fun _ => True) ?hr ?hp (fun _ hk => hk) trivial (Below.refl _ _) (Nat.le_refl _) (by simp) ?_; (case hd => rfl); (case hg => rfl); (case hr => first | (go_simp; done) | (go_simp; rfl)); (case hp => exact (Reps.one (show Kd.M Kd.string _ _ _ ((rdOf ByteArray.empty y104 x19_2) ++ (⟨#[97]⟩ : ByteArray)) [.string ((rdOf ByteArray.empty y104 x19_2) ++ (⟨#[97]⟩ : ByteArray))] from rfl) (Reps.one (show Kd.M Kd.string _ _ _ ((rdOf ByteArray.empty y104 x19_2) ++ (⟨#[98]⟩ : ByteArray)) [.string ((rdOf ByteArray.empty y104 x19_2) ++ (⟨#[98]⟩ : ByteArray))] from rfl) (Reps.none _ _)))); intro v110 w15 ho16 hb hg_ hnew_; clear hg_ hnew_; (first | rw [← Ny109.out] at ho16 | (simp only [Int.reduceToNat] at ho16; rw [← Ny109.out] at ho16)); have n0_ := el HO_3 (Kd.R_base ho16) hb; have n1_ := am (Kd.R_lower (Kd.R_new' ho16 (Kd.R_lt (rz HO_3.out))) (below_size (bz HB.out))); have n2_ := hs HB hb; have n3_ := am (Kd.C_below (cc HR107.out) hb); clear HO_3 HB HR107; revert n0_ n1_ n2_ n3_; intro HO_3 HO111 HB HR107; clear hb ho16; obtain ⟨Ao18, co18, eo18⟩ := Kd.R_slice HO111.out; subst eo18) | ((with_reducible refine gate_builtin (b := .append) (xs := #[.tmp 23, .tmp 28]) rfl ?_); at_builtin; refine Kd.R_append_keep Kd.string (w0 := w) w.heap.size rfl (.tmp 23) (.tmp 28) 36 9 (.string ⟨#[]⟩) 16 rfl Try.underlying36 info9 rfl (by decide) (by omega) u3 x3_2 y109 _ _ _ (fun k_ => NS Ao18 y109 co18 k_) (fun _ => False) rfl rfl ?aO ?aR (fun _ _ h => h) (fun _ h => h.elim) ?aF ?aB ?aS ?aL ?_; (case aR => exact cc ((Kd.R_reads' HO111.out).2.2)); (case aB => exact (bz HB.out)); (case aF => exact (fun k_ hk => Kd.fresh' (Kd.R_lt (rz HO111.out)) k_ hk)); (case aO => exact (rq (Kd.R_mono HO_3.out (fun _ hk => hk.2)))); (case aS => exact (below_size (bz HB.out))); (case aL => have := LMc14.out; omega); intro v113 w17 ho hb hg hat hkeep; rw [← Ny112.out] at ho; have n0_ := am (Kd.R_after (ok := (fun _ => True)) (rz HO111.out) hg hat); have n1_ := am (hb); have n2_ := am (ho); have n3_ := am (cut_keep (n1 := y112.length) (cc HR107.out) UN9.out (by rw [Ny112.out, List.length_append]; exact Nat.le_add_right _ _) hkeep hat); clear HO111 HB HO_3 HR107; revert n0_ n1_ n2_ n3_; intro HO111 HB HO114 HR107; clear ho hb hg hat hkeep)); go_roundg k2
              case measure => have := HK1.out; have := HK2.out; omega
              case rel => exact ⟨(y112), (wrap64 (x19_2 + 1)), (by first | rfl | (simp; done) | (simp [*]; done)), H', ⟨by have := HK1.out; have := HK2.out; omega⟩, ⟨rq (Kd.R_mono HO114.out (fun _ hk => trivial))⟩, ⟨by exact bz HB.out⟩, ⟨cc HR107.out.1⟩, ⟨HR107.out.2⟩⟩
             ·rw [if_neg c14] at H; exact absurd H (by simp)
            ·rw [if_neg c13] at H; exact absurd H (by simp)
           ·rw [if_neg c12] at H; exact absurd H (by simp)
          ·rw [if_neg c11] at H; exact absurd H (by simp)
         ·rw [if_neg c10] at H; have c10b0 : decide (x19_2 < (y104.length : Int)) = false := decide_eq_false c10; clear c10; have H' := am H; clear H; go_wp2; go_roundg k2
          case measure => have := HK1.out; have := HK2.out; omega
          case rel => exact ⟨(x3_2), ((x3_1.length : Int)), (wrap64 (x10_1 + 1)), (by first | rfl | (simp; done) | (simp [*]; done)), (by first | rfl | (simp; done) | (simp [*]; done)), H', ⟨by have := HK1.out; have := HK2.out; omega⟩, ⟨rz HO_3.out⟩, ⟨by exact bz HB.out⟩⟩
      ·rw [if_neg c7] at H; exact absurd H (by simp)
     ·rw [if_neg c6] at H; exact absurd H (by simp)
    ·rw [if_neg c5] at H; exact absurd H (by simp)
   ·rw [if_neg c4] at H; have c4b0 : decide (x10_1 < a0) = false := decide_eq_false c4; clear c4; obtain rfl := Option.some.inj H; go_wp2; go_ret; exact ⟨_, by first | rfl | (simp [errW_none, errW_some] <;> rfl) | (simp [*, errW_none, errW_some] <;> rfl), rz HO_3.out, by exact bz HB.out⟩

/-! ### spec_ShortWords: function 34 -/
def spec_ShortWords.f (k : Nat) (a0 : Int) : Option (List ByteArray × Bool) := (spec_l1In.f a0 0 7).bind fun t115 => (if t115 = true then ((spec_l4Words.f k a0).bind fun t116 => (some (t116, true))) else (some ((([] : List ByteArray)), false)))
theorem spec_ShortWords.mono : ∀ a0 k, LeO (spec_ShortWords.f k a0) (spec_ShortWords.f (k + 1) a0) := by
 intro a0 k; unfold spec_ShortWords.f; repeat' first
   | (with_reducible exact spec_l4Words.mono _ _)
   | (with_reducible exact LeO.refl _)
   | (with_reducible exact LeO.none _)
   | (with_reducible refine LeO.ite ?_ ?_)
   | (with_reducible refine LeO.bind ?_ (fun _ => ?_))
   | exact spec_l4Words.mono _ _
   | exact LeO.none _
   | refine LeO.ite ?_ ?_
   | refine LeO.bind ?_ (fun _ => ?_)
set_option maxHeartbeats 8000000 in
set_option maxRecDepth 100000 in
theorem spec_ShortWords.calls (k : Nat) (a0 : Int) (r1 : List ByteArray) (r2 : Bool) (w : World) (h : spec_ShortWords.f k a0 = some (r1, r2)) :
  Calls Try.prog 34 #[.int .i64 a0] w fun e w' => ∃ v0_ : Value, e = .returned (.tuple #[v0_, .bool r2]) ∧ Kd.R Kd.string 9 w' w.heap.size (fun _ => True) v0_ r1 ∧ Below w.heap.size w w' := by
 have HB := am (Below.refl w.heap.size w); have H : ((spec_l1In.f a0 0 7).bind fun t115 => (if t115 = true then ((spec_l4Words.f k a0).bind fun t116 => (some (t116, true))) else (some ((([] : List ByteArray)), false)))) = some (r1, r2) := h; clear h; replace H := Option.bind_eq_some_iff.mp H; obtain ⟨t115, A20, H⟩ := H; (try dsimp only at H); have A2 := am A20; clear A20; by_cases c3 : t115 = true
 ·subst c3
  have H1 : ((spec_l4Words.f k a0).bind fun t116 => (some (t116, true))) = some (r1, r2) := by rw [if_pos rfl] at H; exact H
  clear H; have H := H1; clear H1; replace H := Option.bind_eq_some_iff.mp H; obtain ⟨t116, A40, H⟩ := H; (try dsimp only at H); have A4 := am A40; clear A40; simp only [Option.some.injEq, Prod.mk.injEq] at H; obtain ⟨rfl, rfl⟩ := H; go_enter Try.func34, Try.ntmps34; go_wp2_with (first | ((with_reducible refine gy 46 rfl ?_); refine gl Try.func46 #[.int .i64 a0, .int .i64 0, .int .i64 7] ?_; (with_reducible refine (spec_l1In.calls a0 0 7 true _ A2.out).mono ?_); rintro e w' ⟨rfl, ⟨nd, rfl⟩⟩; refine ⟨_, rfl, ?_⟩) | ((with_reducible refine gy 52 rfl ?_); refine gl Try.func52 #[.int .i64 a0] ?_; (with_reducible refine (spec_l4Words.calls k a0 t116 _ A4.out).mono ?_); rintro e w5 ⟨v117, rfl, ho0, hb⟩; refine ⟨_, rfl, ?_⟩; have n0_ := am (Kd.R_lower ho0 (below_size (bz HB.out))); have n1_ := hs HB hb; clear HB; revert n0_ n1_; intro HO118 HB; (try clear hb); (try clear hb2); (try clear hk); (try clear hi); (try clear ho0))); go_ret2; exact ⟨_, by first | rfl | (simp [errW_none, errW_some] <;> rfl) | (simp [*, errW_none, errW_some] <;> rfl), rz HO118.out, by exact bz HB.out⟩
 ·replace c3 := Bool.eq_false_iff.mpr c3; subst c3
  have H1 : (some ((([] : List ByteArray)), false)) = some (r1, r2) := by rw [if_neg (show ¬ (false = true) by decide)] at H; exact H
  clear H; have H := H1; clear H1; obtain ⟨y119, hy119⟩ : ∃ y_ : List ByteArray, y_ = (([] : List ByteArray)) := ⟨_, rfl⟩
  replace H : (some (y119, false)) = some (r1, r2) := by first | (rw [hy119]; with_reducible exact H) | (have H2_ := (Option.bind_some _ _).symm.trans H; rw [hy119]; with_reducible exact H2_) | (have H2_ := (Option.bind_some _ _).symm.trans H; with_reducible exact H2_) | with_reducible exact H | (rw [hy119]; exact H) | exact H
  have Ny119 := am hy119; clear hy119; simp only [Option.some.injEq, Prod.mk.injEq] at H; obtain ⟨rfl, rfl⟩ := H; go_enter Try.func34, Try.ntmps34; go_wp2_with (first | ((with_reducible refine gy 46 rfl ?_); refine gl Try.func46 #[.int .i64 a0, .int .i64 0, .int .i64 7] ?_; (with_reducible refine (spec_l1In.calls a0 0 7 false _ A2.out).mono ?_); rintro e w' ⟨rfl, ⟨nd, rfl⟩⟩; refine ⟨_, rfl, ?_⟩) | ((with_reducible refine gx 7 rfl ?_); refine Kd.R_lit Kd.string _ 9 ?hg (N := 7) ?hd (xs := ([] : List ByteArray)) (inner := []) (ok := fun _ => True) (okp := fun _ => True) ?hr ?hp (fun _ hk => hk) trivial (Below.refl _ _) (Nat.le_refl _) (by simp) ?_; (case hd => rfl); (case hg => rfl); (case hr => first | (go_simp; done) | (go_simp; rfl)); (case hp => exact (Reps.none _ _)); intro v120 w6 ho7 hb hg_ hnew_; clear hg_ hnew_; (first | rw [← Ny119.out] at ho7 | (simp only [Int.reduceToNat] at ho7; rw [← Ny119.out] at ho7)); have n0_ := am (Kd.R_lower ho7 (below_size (bz HB.out))); have n1_ := hs HB hb; clear HB; revert n0_ n1_; intro HO121 HB; clear hb ho7)); go_ret2; exact ⟨_, by first | rfl | (simp [errW_none, errW_some] <;> rfl) | (simp [*, errW_none, errW_some] <;> rfl), rz HO121.out, by exact bz HB.out⟩

/-! ### impl_ShortWords: function 35 -/
mutual
def impl_ShortWords.j0 : Nat → Int → Bool → Option (List ByteArray × Bool)
 | 0, _, _ => none
 | k + 1, x0, x14 => if x14 = true then (some (([] : List ByteArray), false)) else (impl_ShortWords.l0 k x0 (([(⟨#[]⟩ : ByteArray)] : List ByteArray)) 0)
def impl_ShortWords.l0 : Nat → Int → List ByteArray → Int → Option (List ByteArray × Bool)
 | 0, _, _, _ => none
 | k + 1, x0, x4, x5 => if 0 ≤ (wrap64 ((x4.length : Int) - 1)) then (if (wrap64 ((x4.length : Int) - 1)) < (x4.length : Int) then (if ((rdOf ByteArray.empty x4 (wrap64 ((x4.length : Int) - 1))).size : Int) < x0 then (if 0 ≤ x5 then (if x5 ≤ (x4.length : Int) then (if (x4.length : Int) ≤ (x4.length : Int) then ((some ((x4.take ((x4.length : Int) : Int).toNat).drop (x5 : Int).toNat : List ByteArray)).bind fun y126 => (impl_ShortWords.l1 k x0 x4 (x4.length : Int) y126 (y126.length : Int) 0)) else (none)) else (none)) else (none)) else (some (x4, true))) else (none)) else (none)
def impl_ShortWords.l1 : Nat → Int → List ByteArray → Int → List ByteArray → Int → Int → Option (List ByteArray × Bool)
 | 0, _, _, _, _, _, _ => none
 | k + 1, x0, x4, x6, x30, x31, x32 => if x32 < x31 then (if 0 ≤ x32 then (if x32 < (x30.length : Int) then (if (rdOf ByteArray.empty x30 x32).size + 1 ≤ 9223372036854775807 then ((some (([(rdOf ByteArray.empty x30 x32) ++ (⟨#[97]⟩ : ByteArray), (rdOf ByteArray.empty x30 x32) ++ (⟨#[98]⟩ : ByteArray)] : List ByteArray) : List ByteArray)).bind fun y131 => (if x4.length + y131.length < 8796093022208 then (impl_ShortWords.l1 k x0 (x4 ++ y131) x6 x30 x31 (wrap64 (x32 + 1))) else (none))) else (none)) else (none)) else (none)) else (impl_ShortWords.l0 k x0 x4 x6)
end
def impl_ShortWords.f (k : Nat) (a0 : Int) : Option (List ByteArray × Bool) := if a0 < 0 then (impl_ShortWords.j0 k a0 true) else (impl_ShortWords.j0 k a0 (decide (a0 > 7)))
theorem impl_ShortWords.mono_l : ∀ k, (∀ y0 y1, LeO (impl_ShortWords.j0 k y0 y1) (impl_ShortWords.j0 (k + 1) y0 y1)) ∧ (∀ y0 y1 y2, LeO (impl_ShortWords.l0 k y0 y1 y2) (impl_ShortWords.l0 (k + 1) y0 y1 y2)) ∧ (∀ y0 y1 y2 y3 y4 y5, LeO (impl_ShortWords.l1 k y0 y1 y2 y3 y4 y5) (impl_ShortWords.l1 (k + 1) y0 y1 y2 y3 y4 y5))
 | 0 => ⟨fun _ _ r h => by simp [impl_ShortWords.j0] at h, fun _ _ _ r h => by simp [impl_ShortWords.l0] at h, fun _ _ _ _ _ _ r h => by simp [impl_ShortWords.l1] at h⟩
 | k + 1 => by
  obtain ⟨ih0, ih1, ih2⟩ := impl_ShortWords.mono_l k; refine ⟨?_, ?_, ?_⟩
  ·intro y0 y1; unfold impl_ShortWords.j0; repeat' first
   | (with_reducible exact ih0 _ _)
   | (with_reducible exact ih1 _ _ _)
   | (with_reducible exact ih2 _ _ _ _ _ _)
   | (with_reducible exact LeO.refl _)
   | (with_reducible exact LeO.none _)
   | (with_reducible refine LeO.ite ?_ ?_)
   | (with_reducible refine LeO.bind ?_ (fun _ => ?_))
   | exact ih0 _ _
   | exact ih1 _ _ _
   | exact ih2 _ _ _ _ _ _
   | exact LeO.none _
   | refine LeO.ite ?_ ?_
   | refine LeO.bind ?_ (fun _ => ?_)
  ·intro y0 y1 y2; unfold impl_ShortWords.l0; repeat' first
   | (with_reducible exact ih0 _ _)
   | (with_reducible exact ih1 _ _ _)
   | (with_reducible exact ih2 _ _ _ _ _ _)
   | (with_reducible exact LeO.refl _)
   | (with_reducible exact LeO.none _)
   | (with_reducible refine LeO.ite ?_ ?_)
   | (with_reducible refine LeO.bind ?_ (fun _ => ?_))
   | exact ih0 _ _
   | exact ih1 _ _ _
   | exact ih2 _ _ _ _ _ _
   | exact LeO.none _
   | refine LeO.ite ?_ ?_
   | refine LeO.bind ?_ (fun _ => ?_)
  ·intro y0 y1 y2 y3 y4 y5; unfold impl_ShortWords.l1; repeat' first
   | (with_reducible exact ih0 _ _)
   | (with_reducible exact ih1 _ _ _)
   | (with_reducible exact ih2 _ _ _ _ _ _)
   | (with_reducible exact LeO.refl _)
   | (with_reducible exact LeO.none _)
   | (with_reducible refine LeO.ite ?_ ?_)
   | (with_reducible refine LeO.bind ?_ (fun _ => ?_))
   | exact ih0 _ _
   | exact ih1 _ _ _
   | exact ih2 _ _ _ _ _ _
   | exact LeO.none _
   | refine LeO.ite ?_ ?_
   | refine LeO.bind ?_ (fun _ => ?_)
theorem impl_ShortWords.mono : ∀ a0 k, LeO (impl_ShortWords.f k a0) (impl_ShortWords.f (k + 1) a0) := by
 intro a0 k; obtain ⟨ih0, ih1, ih2⟩ := impl_ShortWords.mono_l k; unfold impl_ShortWords.f; repeat' first
   | (with_reducible exact ih0 _ _)
   | (with_reducible exact ih1 _ _ _)
   | (with_reducible exact ih2 _ _ _ _ _ _)
   | (with_reducible exact LeO.refl _)
   | (with_reducible exact LeO.none _)
   | (with_reducible refine LeO.ite ?_ ?_)
   | (with_reducible refine LeO.bind ?_ (fun _ => ?_))
   | exact ih0 _ _
   | exact ih1 _ _ _
   | exact ih2 _ _ _ _ _ _
   | exact LeO.none _
   | refine LeO.ite ?_ ?_
   | refine LeO.bind ?_ (fun _ => ?_)
set_option maxHeartbeats 8000000 in
set_option maxRecDepth 100000 in
theorem impl_ShortWords.calls (k : Nat) (a0 : Int) (r1 : List ByteArray) (r2 : Bool) (w : World) (h : impl_ShortWords.f k a0 = some (r1, r2)) :
  Calls Try.prog 35 #[.int .i64 a0] w fun e w' => ∃ v0_ : Value, e = .returned (.tuple #[v0_, .bool r2]) ∧ Kd.R Kd.string 9 w' w.heap.size (fun _ => True) v0_ r1 ∧ Below w.heap.size w w' := by
 have HB := am (Below.refl w.heap.size w); have H : (if a0 < 0 then (impl_ShortWords.j0 k a0 true) else (impl_ShortWords.j0 k a0 (decide (a0 > 7)))) = some (r1, r2) := h; clear h; have HC2 := am H; clear H; go_enter Try.func35, Try.ntmps35; go_upto_region 1 with (fail); go_cut [14] (fun v14 wc => ∃ (kq : Nat) (x14_1 : Bool), v14 = .bool x14_1 ∧ Aside0 (impl_ShortWords.j0 kq a0 x14_1 = some (r1, r2)) ∧ Aside0 (kq ≤ k) ∧ Aside0 (Below w.heap.size w wc))
 case first =>
  have H := HC2.out; clear HC2; by_cases c3 : a0 < 0
  ·rw [if_pos c3] at H; have c3b0 : decide (a0 < 0) = true := decide_eq_true c3; clear c3; (first | rw [c3b0] | (simp only [i64_w, i32_w]; rw [c3b0]) | skip); have H' := am H; clear H; go_wp2; go_meet
   case rel => exact ⟨_, (true), (by first | rfl | (simp; done) | (simp [*]; done)), H', ⟨by first | omega | exact Nat.le_refl _⟩, ⟨by exact bz HB.out⟩⟩
  ·rw [if_neg c3] at H; have c3b0 : decide (a0 < 0) = false := decide_eq_false c3; clear c3; (first | rw [c3b0] | (simp only [i64_w, i32_w]; rw [c3b0]) | skip); have H' := am H; clear H; go_wp2; go_meet
   case rel => exact ⟨_, (decide (a0 > 7)), (by first | rfl | (simp; done) | (simp [*]; done)), H', ⟨by first | omega | exact Nat.le_refl _⟩, ⟨by exact bz HB.out⟩⟩
 case rest =>
  clear HC2; (try clear p2); (try clear c3); (try clear c3b0); obtain ⟨kq, x14_1, rfl, HA, HJ1, HB⟩ := hcut
  cases kq with
  | zero => exact absurd HA.out (by simp [impl_ShortWords.j0])
  | succ kj1 =>
   have H := HA.out; clear HA; simp only [impl_ShortWords.j0] at H; by_cases c4 : x14_1 = true
   ·subst c4
    have H1 : (some (([] : List ByteArray), false)) = some (r1, r2) := by rw [if_pos rfl] at H; exact H
    clear H; have H := H1; clear H1; simp only [Option.some.injEq, Prod.mk.injEq] at H; obtain ⟨rfl, rfl⟩ := H; go_wp2; go_ret2; exact ⟨_, by first | rfl | (simp [errW_none, errW_some] <;> rfl) | (simp [*, errW_none, errW_some] <;> rfl), by first | exact Kd.R_nil _ _ _ _ _ | exact Kd.N_nil _ _ _ _ _ | exact Kd.V_nil _ _ _ _ _ | exact Kd.Q_nil _ _ _ _ _ | exact Kd.S_nil _ _ _ _ _, by exact bz HB.out⟩
   ·replace c4 := Bool.eq_false_iff.mpr c4; subst c4
    have H1 : (impl_ShortWords.l0 kj1 a0 (([(⟨#[]⟩ : ByteArray)] : List ByteArray)) 0) = some (r1, r2) := by rw [if_neg (show ¬ (false = true) by decide)] at H; exact H
    clear H; have H := H1; clear H1; obtain ⟨y122, hy122⟩ : ∃ y_ : List ByteArray, y_ = (([(⟨#[]⟩ : ByteArray)] : List ByteArray)) := ⟨_, rfl⟩
    replace H : (impl_ShortWords.l0 kj1 a0 y122 0) = some (r1, r2) := by first | (rw [hy122]; with_reducible exact H) | (have H2_ := (Option.bind_some _ _).symm.trans H; rw [hy122]; with_reducible exact H2_) | (have H2_ := (Option.bind_some _ _).symm.trans H; with_reducible exact H2_) | with_reducible exact H | (rw [hy122]; exact H) | exact H
    have Ny122 := am hy122; clear hy122; have H' := am H; clear H; go_wp2_with (first | ((with_reducible refine gx 15 rfl ?_); refine Kd.R_lit Kd.string _ 9 ?hg (N := 15) ?hd (xs := ([(⟨#[]⟩ : ByteArray)] : List ByteArray)) (inner := [.string (⟨#[]⟩ : ByteArray)]) (ok := fun _ => True) (okp := fun _ => True) ?hr ?hp (fun _ hk => hk) trivial (Below.refl _ _) (Nat.le_refl _) (by simp) ?_; (case hd => rfl); (case hg => rfl); (case hr => first | (go_simp; done) | (go_simp; rfl)); (case hp => exact (Reps.one (show Kd.M Kd.string _ _ _ (⟨#[]⟩ : ByteArray) [.string (⟨#[]⟩ : ByteArray)] from rfl) (Reps.none _ _))); intro v123 w5 ho6 hb hg_ hnew_; clear hg_ hnew_; (first | rw [← Ny122.out] at ho6 | (simp only [Int.reduceToNat] at ho6; rw [← Ny122.out] at ho6)); have n0_ := am (Kd.R_lower ho6 (below_size (bz HB.out))); have n1_ := hs HB hb; clear HB; revert n0_ n1_; intro HO124 HB; clear hb ho6)); go_loopg [4, 5] kj1 (fun kq v4 v5 w' => ∃ (x4_2 : List ByteArray) (x5_2 : Int), v5 = .int .i64 x5_2 ∧ Aside0 (impl_ShortWords.l0 kq a0 x4_2 x5_2 = some (r1, r2)) ∧ Aside0 (kq ≤ kj1) ∧ Aside0 (Kd.R Kd.string 9 w' w.heap.size (fun _ => True) v4 x4_2) ∧ Aside0 (Below w.heap.size w w'))
    case atStart => exact ⟨(y122), (0), (by first | rfl | (simp; done) | (simp [*]; done)), H', ⟨Nat.le_refl _⟩, ⟨rz HO124.out⟩, ⟨by exact bz HB.out⟩⟩
    case round =>
     clear H'; (try clear p2); (try clear c3); (try clear c3b0); (try clear c4); (try clear p2); obtain ⟨x4_2, x5_2, rfl, HA, HK2, HO_4, HB⟩ := hrel
     cases gk with
     | zero => exact absurd HA.out (by simp [impl_ShortWords.l0])
     | succ k2 =>
      have H := HA.out; clear HA; simp only [impl_ShortWords.l0] at H; obtain ⟨ji7, hji7⟩ : ∃ j_ : Int, (wrap64 ((x4_2.length : Int) - 1)) = j_ := ⟨_, rfl⟩
      replace H : (if 0 ≤ (ji7) then (if (ji7) < (x4_2.length : Int) then (if ((rdOf ByteArray.empty x4_2 (ji7)).size : Int) < a0 then (if 0 ≤ x5_2 then (if x5_2 ≤ (x4_2.length : Int) then (if (x4_2.length : Int) ≤ (x4_2.length : Int) then ((some ((x4_2.take ((x4_2.length : Int) : Int).toNat).drop (x5_2 : Int).toNat : List ByteArray)).bind fun y126 => (impl_ShortWords.l1 k2 a0 x4_2 (x4_2.length : Int) y126 (y126.length : Int) 0)) else (none)) else (none)) else (none)) else (some (x4_2, true))) else (none)) else (none)) = some (r1, r2) := by first | (rw [hji7] at H; exact H) | (simp only [hji7] at H ⊢; exact H)
      have hji7w : (IntKind.i64.wrap ((x4_2.length : Int) - 1)) = ji7 := (i64_w _).trans hji7; by_cases c8 : 0 ≤ (ji7)
      ·rw [if_pos c8] at H; have c8b0 : decide (0 ≤ (ji7)) = true := decide_eq_true c8; clear c8; by_cases c9 : (ji7) < (x4_2.length : Int)
       ·rw [if_pos c9] at H; have c9b0 : decide ((ji7) < (x4_2.length : Int)) = true := decide_eq_true c9; clear c9; by_cases c10 : ((rdOf ByteArray.empty x4_2 (ji7)).size : Int) < a0
        ·rw [if_pos c10] at H; have c10b0 : decide (((rdOf ByteArray.empty x4_2 (ji7)).size : Int) < a0) = true := decide_eq_true c10; clear c10; by_cases c11 : 0 ≤ x5_2
         ·rw [if_pos c11] at H; have c11b0 := eq_true c11; have c11b1 : decide (0 ≤ x5_2) = true := decide_eq_true c11; clear c11; by_cases c12 : x5_2 ≤ (x4_2.length : Int)
          ·rw [if_pos c12] at H; have c12b0 := eq_true c12; have c12b1 : decide (x5_2 ≤ (x4_2.length : Int)) = true := decide_eq_true c12; clear c12; by_cases c13 : (x4_2.length : Int) ≤ (x4_2.length : Int)
           ·rw [if_pos c13] at H; have c13b0 := eq_true c13; have c13b1 : decide ((x4_2.length : Int) ≤ (x4_2.length : Int)) = true := decide_eq_true c13; clear c13; obtain ⟨y126, hy126⟩ : ∃ y_ : List ByteArray, y_ = ((x4_2.take ((x4_2.length : Int) : Int).toNat).drop (x5_2 : Int).toNat) := ⟨_, rfl⟩
            replace H : (impl_ShortWords.l1 k2 a0 x4_2 (x4_2.length : Int) y126 (y126.length : Int) 0) = some (r1, r2) := by first | (rw [hy126]; with_reducible exact H) | (have H2_ := (Option.bind_some _ _).symm.trans H; rw [hy126]; with_reducible exact H2_) | (have H2_ := (Option.bind_some _ _).symm.trans H; with_reducible exact H2_) | with_reducible exact H | (rw [hy126]; exact H) | exact H
            have Ny126 := am hy126; clear hy126; have H' := am H; clear H; obtain ⟨Ao14, co14, eo14⟩ := Kd.R_slice HO_4.out; subst eo14; have p125 : 0 ≤ ((ji7) : Int) := da; have q125 : (ji7) < (x4_2.length : Int) := da; obtain ⟨ad125, e125, hx125_0⟩ := Kd.at_string (Kd.R_reads' HO_4.out).2.2 (ji7) p125 q125; cases e125; replace p125 := eq_true p125; replace q125 := eq_true q125; have q15 : ((x4_2.length : Int) : Int) ≤ ((x4_2.length : Int) : Int) := da; obtain ⟨i015, hi015, _, hsz15, _⟩ := info_parts info9; have hroom15 : x4_2.length ≤ co14 := (Kd.R_reads' HO_4.out).2.1; have hC15 : Kd.C Kd.string _ (some ad125) x4_2.length x4_2 := (Kd.R_reads' HO_4.out).2.2; have ql15 : (x5_2 : Int) ≤ ((x4_2.length : Int) : Int) := da; have q015 : (0 : Int) ≤ (x5_2 : Int) := da; have hcut15 := cut_mid (P := Try.prog) 36 9 .i64 .i64 Try.underlying36 hi015 1 hsz15 (some ad125) x4_2.length co14 x5_2 (x4_2.length : Int) q015 ql15 q15 hroom15; have hr15 := Kd.C_mid (lo := (x5_2 : Int).toNat) (hi := ((x4_2.length : Int) : Int).toNat) (c := co14) hC15 (by omega) (by omega) hroom15; obtain ⟨A15, hA15⟩ : ∃ A1, A1 = (if co14 = (x5_2 : Int).toNat then (some ad125) else ((some ad125) : Option Addr).map (·.add ((x5_2 : Int).toNat * 1))) := ⟨_, rfl⟩; obtain ⟨c15, hc15⟩ : ∃ c1, c1 = co14 - (x5_2 : Int).toNat := ⟨_, rfl⟩; have hy15 : y126.length = ((x4_2.length : Int) : Int).toNat - (x5_2 : Int).toNat := (by rw [Ny126.out, List.length_drop, List.length_take] <;> omega); rw [show ((x4_2).take ((x4_2.length : Int) : Int).toNat).drop (x5_2 : Int).toNat = y126 from Ny126.out.symm] at hr15; replace hr15 : Kd.C Kd.string _ A15 y126.length y126 := (by rw [hA15]; exact hr15); rw [← hy15, ← hA15, ← hc15] at hcut15; have HR129 := am hr15; have HC129 := am (show y126.length ≤ c15 from by rw [hy15, hc15]; exact Nat.sub_le_sub_right (Nat.le_trans (by omega) hroom15) _); clear hr15 hC15 hroom15 hi015 hsz15 hc15; have KY15 := am hy15; have KA15 := am hA15; clear hy15 hA15; have KL15 := am (show ((x4_2.length : Int) : Int).toNat ≤ x4_2.length from by omega); have KM15 := am (show (x5_2 : Int).toNat ≤ ((x4_2.length : Int) : Int).toNat from by omega); replace q15 := eq_true q15; have UN15 := am (under_R HO_4.out KA15.out KY15.out KL15.out); go_wp2; go_loopg [4, 32] k2 (fun kq v4 v32 w' => ∃ (x4_3 : List ByteArray) (x32_3 : Int), v32 = .int .i64 x32_3 ∧ Aside0 (impl_ShortWords.l1 kq a0 x4_3 (x4_2.length : Int) y126 (y126.length : Int) x32_3 = some (r1, r2)) ∧ Aside0 (kq ≤ k2) ∧ Aside0 (Kd.R Kd.string 9 w' w.heap.size (fun _ => True) v4 x4_3) ∧ Aside0 (Below w.heap.size w w') ∧ Aside0 (Kd.C Kd.string w' A15 y126.length y126) ∧ Aside0 (Under v4 x4_3.length A15 y126.length))
            case atStart => exact ⟨(x4_2), (0), (by first | rfl | (simp; done) | (simp [*]; done)), H', ⟨Nat.le_refl _⟩, ⟨rz HO_4.out⟩, ⟨by exact bz HB.out⟩, ⟨cc HR129.out⟩, UN15⟩
            case round =>
             clear H'; (try clear c1); (try clear p1); (try clear q1); (try clear hx1); (try clear p2); (try clear c3); (try clear c3b0); (try clear c4); (try clear p6); (try clear c8); (try clear c8b0); (try clear c9); (try clear c9b0); (try clear c10); (try clear c10b0); (try clear c11); (try clear c11b0); (try clear c11b1); (try clear c12); (try clear c12b0); (try clear c12b1); (try clear p12); (try clear q12); (try clear hx12); (try clear c13); (try clear c13b0); (try clear c13b1); (try clear c15); (try clear q15); (try clear hx125_0); (try clear p125); (try clear p2); (try clear q015); (try clear q125); (try clear q15); obtain ⟨x4_3, x32_3, rfl, HA, HK3, HO_4, HB, HR129, UN15⟩ := hrel
             cases gk with
             | zero => exact absurd HA.out (by simp [impl_ShortWords.l1])
             | succ k3 =>
              have H := HA.out; clear HA; simp only [impl_ShortWords.l1] at H; by_cases c16 : x32_3 < (y126.length : Int)
              ·rw [if_pos c16] at H; have c16b0 : decide (x32_3 < (y126.length : Int)) = true := decide_eq_true c16; clear c16; by_cases c17 : 0 ≤ x32_3
               ·rw [if_pos c17] at H; have c17b0 : decide (0 ≤ x32_3) = true := decide_eq_true c17; clear c17; by_cases c18 : x32_3 < (y126.length : Int)
                ·rw [if_pos c18] at H; have c18b0 : decide (x32_3 < (y126.length : Int)) = true := decide_eq_true c18; clear c18; by_cases c19 : (rdOf ByteArray.empty y126 x32_3).size + 1 ≤ 9223372036854775807
                 ·rw [if_pos c19] at H; have c19b0 := eq_true c19; have c19b1 : decide ((rdOf ByteArray.empty y126 x32_3).size + 1 ≤ 9223372036854775807) = true := decide_eq_true c19; (try have c19b2 : (9223372036854775807 < (rdOf ByteArray.empty y126 x32_3).size + 1) = False := eq_false (Nat.not_lt.2 c19)); obtain ⟨y131, hy131⟩ : ∃ y_ : List ByteArray, y_ = (([(rdOf ByteArray.empty y126 x32_3) ++ (⟨#[97]⟩ : ByteArray), (rdOf ByteArray.empty y126 x32_3) ++ (⟨#[98]⟩ : ByteArray)] : List ByteArray)) := ⟨_, rfl⟩
                  replace H : (if x4_3.length + y131.length < 8796093022208 then (impl_ShortWords.l1 k3 a0 (x4_3 ++ y131) (x4_2.length : Int) y126 (y126.length : Int) (wrap64 (x32_3 + 1))) else (none)) = some (r1, r2) := by first | (rw [hy131]; with_reducible exact H) | (have H2_ := (Option.bind_some _ _).symm.trans H; rw [hy131]; with_reducible exact H2_) | (have H2_ := (Option.bind_some _ _).symm.trans H; with_reducible exact H2_) | with_reducible exact H | (rw [hy131]; exact H) | exact H
                  have Ny131 := am hy131; clear hy131; by_cases c20 : x4_3.length + y131.length < 8796093022208
                  ·rw [if_pos c20] at H; have LMc20 := am c20; clear c20; obtain ⟨y134, hy134⟩ : ∃ y_ : List ByteArray, y_ = (x4_3 ++ y131) := ⟨_, rfl⟩
                   replace H : (impl_ShortWords.l1 k3 a0 y134 (x4_2.length : Int) y126 (y126.length : Int) (wrap64 (x32_3 + 1))) = some (r1, r2) := by first | (rw [hy134]; with_reducible exact H) | (have H2_ := (Option.bind_some _ _).symm.trans H; rw [hy134]; with_reducible exact H2_) | (have H2_ := (Option.bind_some _ _).symm.trans H; with_reducible exact H2_) | with_reducible exact H | (rw [hy134]; exact H) | exact H
                   have Ny134 := am hy134; clear hy134; have H' := am H; clear H; have p130 : 0 ≤ (x32_3 : Int) := da; have q130 : x32_3 < (y126.length : Int) := da; obtain ⟨ad130, e130, hx130_0⟩ := Kd.at_string HR129.out x32_3 p130 q130; cases e130; replace p130 := eq_true p130; replace q130 := eq_true q130; go_wp2_with (first | ((with_reducible refine gx 41 rfl ?_); refine Kd.R_lit Kd.string _ 9 ?hg (N := 41) ?hd (xs := ([(rdOf ByteArray.empty y126 x32_3) ++ (⟨#[97]⟩ : ByteArray), (rdOf ByteArray.empty y126 x32_3) ++ (⟨#[98]⟩ : ByteArray)] : List ByteArray)) (inner := [.string ((rdOf ByteArray.empty y126 x32_3) ++ (⟨#[97]⟩ : ByteArray)), .string ((rdOf ByteArray.empty y126 x32_3) ++ (⟨#[98]⟩ : ByteArray))]) (ok := fun _ => True) (okp := fun _ => True) ?hr ?hp (fun _ hk => hk) trivial (Below.refl _ _) (Nat.le_refl _) (by simp) ?_; (case hd => rfl); (case hg => rfl); (case hr => first | (go_simp; done) | (go_simp; rfl)); (case hp => exact (Reps.one (show Kd.M Kd.string _ _ _ ((rdOf ByteArray.empty y126 x32_3) ++ (⟨#[97]⟩ : ByteArray)) [.string ((rdOf ByteArray.empty y126 x32_3) ++ (⟨#[97]⟩ : ByteArray))] from rfl) (Reps.one (show Kd.M Kd.string _ _ _ ((rdOf ByteArray.empty y126 x32_3) ++ (⟨#[98]⟩ : ByteArray)) [.string ((rdOf ByteArray.empty y126 x32_3) ++ (⟨#[98]⟩ : ByteArray))] from rfl) (Reps.none _ _)))); intro v132 w21 ho22 hb hg_ hnew_; clear hg_ hnew_; (first | rw [← Ny131.out] at ho22 | (simp only [Int.reduceToNat] at ho22; rw [← Ny131.out] at ho22)); have n0_ := el HO_4 (Kd.R_base ho22) hb; have n1_ := am (Kd.R_lower (Kd.R_new' ho22 (Kd.R_lt (rz HO_4.out))) (below_size (bz HB.out))); have n2_ := hs HB hb; have n3_ := am (Kd.C_below (cc HR129.out) hb); clear HO_4 HB HR129; revert n0_ n1_ n2_ n3_; intro HO_4 HO133 HB HR129; clear hb ho22; obtain ⟨Ao24, co24, eo24⟩ := Kd.R_slice HO133.out; subst eo24) | ((with_reducible refine gate_builtin (b := .append) (xs := #[.tmp 36, .tmp 41]) rfl ?_); at_builtin; refine Kd.R_append_keep Kd.string (w0 := w) w.heap.size rfl (.tmp 36) (.tmp 41) 36 9 (.string ⟨#[]⟩) 16 rfl Try.underlying36 info9 rfl (by decide) (by omega) u4 x4_3 y131 _ _ _ (fun k_ => NS Ao24 y131 co24 k_) (fun _ => False) rfl rfl ?aO ?aR (fun _ _ h => h) (fun _ h => h.elim) ?aF ?aB ?aS ?aL ?_; (case aR => exact cc ((Kd.R_reads' HO133.out).2.2)); (case aB => exact (bz HB.out)); (case aF => exact (fun k_ hk => Kd.fresh' (Kd.R_lt (rz HO133.out)) k_ hk)); (case aO => exact (rq (Kd.R_mono HO_4.out (fun _ hk => hk.2)))); (case aS => exact (below_size (bz HB.out))); (case aL => have := LMc20.out; omega); intro v135 w23 ho hb hg hat hkeep; rw [← Ny134.out] at ho; have n0_ := am (Kd.R_after (ok := (fun _ => True)) (rz HO133.out) hg hat); have n1_ := am (hb); have n2_ := am (ho); have n3_ := am (cut_keep (n1 := y134.length) (cc HR129.out) UN15.out (by rw [Ny134.out, List.length_append]; exact Nat.le_add_right _ _) hkeep hat); clear HO133 HB HO_4 HR129; revert n0_ n1_ n2_ n3_; intro HO133 HB HO136 HR129; clear ho hb hg hat hkeep)); go_roundg k3
                   case measure => have := HJ1.out; have := HK2.out; have := HK3.out; omega
                   case rel => exact ⟨(y134), (wrap64 (x32_3 + 1)), (by first | rfl | (simp; done) | (simp [*]; done)), H', ⟨by have := HJ1.out; have := HK2.out; have := HK3.out; omega⟩, ⟨rq (Kd.R_mono HO136.out (fun _ hk => trivial))⟩, ⟨by exact bz HB.out⟩, ⟨cc HR129.out.1⟩, ⟨HR129.out.2⟩⟩
                  ·rw [if_neg c20] at H; exact absurd H (by simp)
                 ·rw [if_neg c19] at H; exact absurd H (by simp)
                ·rw [if_neg c18] at H; exact absurd H (by simp)
               ·rw [if_neg c17] at H; exact absurd H (by simp)
              ·rw [if_neg c16] at H; have c16b0 : decide (x32_3 < (y126.length : Int)) = false := decide_eq_false c16; clear c16; have H' := am H; clear H; go_wp2; go_roundg k3
               case measure => have := HJ1.out; have := HK2.out; have := HK3.out; omega
               case rel => exact ⟨(x4_3), ((x4_2.length : Int)), (by first | rfl | (simp; done) | (simp [*]; done)), H', ⟨by have := HJ1.out; have := HK2.out; have := HK3.out; omega⟩, ⟨rz HO_4.out⟩, ⟨by exact bz HB.out⟩⟩
           ·rw [if_neg c13] at H; exact absurd H (by simp)
          ·rw [if_neg c12] at H; exact absurd H (by simp)
         ·rw [if_neg c11] at H; exact absurd H (by simp)
        ·rw [if_neg c10] at H; have c10b0 : decide (((rdOf ByteArray.empty x4_2 (ji7)).size : Int) < a0) = false := decide_eq_false c10; clear c10; simp only [Option.some.injEq, Prod.mk.injEq] at H; obtain ⟨rfl, rfl⟩ := H; obtain ⟨Ao25, co25, eo25⟩ := Kd.R_slice HO_4.out; subst eo25; have p125 : 0 ≤ ((ji7) : Int) := da; have q125 : (ji7) < (x4_2.length : Int) := da; obtain ⟨ad125, e125, hx125_0⟩ := Kd.at_string (Kd.R_reads' HO_4.out).2.2 (ji7) p125 q125; cases e125; replace p125 := eq_true p125; replace q125 := eq_true q125; go_wp2; go_ret2; exact ⟨_, by first | rfl | (simp [errW_none, errW_some] <;> rfl) | (simp only [← hji7]; first | rfl | (simp [errW_none, errW_some] <;> rfl)) | (simp [*, errW_none, errW_some] <;> rfl), rz HO_4.out, by exact bz HB.out⟩
       ·rw [if_neg c9] at H; exact absurd H (by simp)
      ·rw [if_neg c8] at H; exact absurd H (by simp)

/-! ### laws_eqStringS: function 36 -/
def laws_eqStringS.l0 : Nat → List ByteArray → List ByteArray → Int → Option (Bool)
 | 0, _, _, _ => none
 | k + 1, x0, x1, x5 => if x5 < (x0.length : Int) then (if 0 ≤ x5 then (if x5 < (x1.length : Int) then (if (rdOf ByteArray.empty x0 x5).toList = (rdOf ByteArray.empty x1 x5).toList then (laws_eqStringS.l0 k x0 x1 (wrap64 (x5 + 1))) else (some false)) else (none)) else (none)) else (some true)
def laws_eqStringS.f (k : Nat) (l0 : List ByteArray) (l1 : List ByteArray) : Option (Bool) := if (l0.length : Int) = (l1.length : Int) then (laws_eqStringS.l0 k l0 l1 0) else (some false)
theorem laws_eqStringS.mono_l : ∀ k, (∀ y0 y1 y2, LeO (laws_eqStringS.l0 k y0 y1 y2) (laws_eqStringS.l0 (k + 1) y0 y1 y2))
 | 0 => fun _ _ _ r h => by simp [laws_eqStringS.l0] at h
 | k + 1 => by
  have ih0 := laws_eqStringS.mono_l k
  ·intro y0 y1 y2; unfold laws_eqStringS.l0; repeat' first
   | (with_reducible exact ih0 _ _ _)
   | (with_reducible exact LeO.refl _)
   | (with_reducible exact LeO.none _)
   | (with_reducible refine LeO.ite ?_ ?_)
   | (with_reducible refine LeO.bind ?_ (fun _ => ?_))
   | exact ih0 _ _ _
   | exact LeO.none _
   | refine LeO.ite ?_ ?_
   | refine LeO.bind ?_ (fun _ => ?_)
theorem laws_eqStringS.mono : ∀ a0 a1 k, LeO (laws_eqStringS.f k a0 a1) (laws_eqStringS.f (k + 1) a0 a1) := by
 intro a0 a1 k; have ih0 := laws_eqStringS.mono_l k; unfold laws_eqStringS.f; repeat' first
   | (with_reducible exact ih0 _ _ _)
   | (with_reducible exact LeO.refl _)
   | (with_reducible exact LeO.none _)
   | (with_reducible refine LeO.ite ?_ ?_)
   | (with_reducible refine LeO.bind ?_ (fun _ => ?_))
   | exact ih0 _ _ _
   | exact LeO.none _
   | refine LeO.ite ?_ ?_
   | refine LeO.bind ?_ (fun _ => ?_)
set_option maxHeartbeats 8000000 in
set_option maxRecDepth 100000 in
theorem laws_eqStringS.calls (k : Nat) (A0 : Option Addr) (c0 : Nat) (l0 : List ByteArray) (A1 : Option Addr) (c1 : Nat) (l1 : List ByteArray) (r : Bool) (w : World) (hr0 : Kd.C Kd.string w A0 l0.length l0) (hc0 : l0.length ≤ c0) (hr1 : Kd.C Kd.string w A1 l1.length l1) (hc1 : l1.length ≤ c1) (h : laws_eqStringS.f k l0 l1 = some r) :
  Calls Try.prog 36 #[.slice A0 l0.length c0, .slice A1 l1.length c1] w fun e w' => e = .returned (.bool r) ∧ Drawn0 w w' := by
 have HR0 := am hr0; have HC0 := am hc0; clear hr0 hc0; have HR1 := am hr1; have HC1 := am hc1; clear hr1 hc1; have H : (if (l0.length : Int) = (l1.length : Int) then (laws_eqStringS.l0 k l0 l1 0) else (some false)) = some r := h; clear h; by_cases c3 : (l0.length : Int) = (l1.length : Int)
 ·rw [if_pos c3] at H; have c3b0 : ((l0.length : Int) == (l1.length : Int)) = true := beq_iff_eq.mpr c3; have c3b1 : ((l0.length : Int) != (l1.length : Int)) = false := bne_eq_false_iff_eq.mpr c3
  have c3b2 : (l0.length == l1.length) = true := by first | simpa using c3 | (simp at c3 ⊢; omega)
  clear c3; have H' := am H; clear H; go_enter Try.func36, Try.ntmps36; go_wp2
  repeat (go_quiet (fail); try go_wp2)
  go_loopg [5] k (fun kq v5 w' => ∃ (x5_1 : Int), v5 = .int .i64 x5_1 ∧ Aside0 (laws_eqStringS.l0 kq l0 l1 x5_1 = some r) ∧ Aside0 (kq ≤ k) ∧ Drawn0 w w')
  case atStart => exact ⟨(0), (by first | rfl | (simp; done) | (simp [*]; done)), H', ⟨Nat.le_refl _⟩, by repeat (first | exact Drawn0.refl _ | apply Drawn0.step)⟩
  case round =>
   clear H'; (try clear c1); (try clear p2); (try clear c3); (try clear c3b0); (try clear c3b1); (try clear c3b2); obtain ⟨x5_1, rfl, HA, HK1, ⟨m1, rfl⟩⟩ := hrel
   cases gk with
   | zero => exact absurd HA.out (by simp [laws_eqStringS.l0])
   | succ k1 =>
    have H := HA.out; clear HA; simp only [laws_eqStringS.l0] at H; by_cases c4 : x5_1 < (l0.length : Int)
    ·rw [if_pos c4] at H; have c4b0 : decide (x5_1 < (l0.length : Int)) = true := decide_eq_true c4; clear c4; by_cases c5 : 0 ≤ x5_1
     ·rw [if_pos c5] at H; have c5b0 : decide (0 ≤ x5_1) = true := decide_eq_true c5; clear c5; by_cases c6 : x5_1 < (l1.length : Int)
      ·rw [if_pos c6] at H; have c6b0 : decide (x5_1 < (l1.length : Int)) = true := decide_eq_true c6; clear c6; by_cases c7 : (rdOf ByteArray.empty l0 x5_1).toList = (rdOf ByteArray.empty l1 x5_1).toList
       ·rw [if_pos c7] at H; have c7b0 : ((rdOf ByteArray.empty l0 x5_1).toList == (rdOf ByteArray.empty l1 x5_1).toList) = true := beq_iff_eq.mpr c7; have c7b1 : ((rdOf ByteArray.empty l0 x5_1).toList != (rdOf ByteArray.empty l1 x5_1).toList) = false := bne_eq_false_iff_eq.mpr c7; clear c7; have H' := am H; clear H; have p137 : 0 ≤ (x5_1 : Int) := da; have q137 : x5_1 < (l0.length : Int) := da; obtain ⟨ad137, e137, hx137_0⟩ := Kd.at_string HR0.out x5_1 p137 q137; cases e137; replace p137 := eq_true p137; replace q137 := eq_true q137; have p138 : 0 ≤ (x5_1 : Int) := da; have q138 : x5_1 < (l1.length : Int) := da; obtain ⟨ad138, e138, hx138_0⟩ := Kd.at_string HR1.out x5_1 p138 q138; cases e138; replace p138 := eq_true p138; replace q138 := eq_true q138; go_wp2
        repeat (go_quiet (fail); try go_wp2)
        go_roundg k1
        case measure => have := HK1.out; omega
        case rel => exact ⟨(wrap64 (x5_1 + 1)), (by first | rfl | (simp; done) | (simp [*]; done)), H', ⟨by have := HK1.out; omega⟩, by repeat (first | exact Drawn0.refl _ | apply Drawn0.step)⟩
       ·rw [if_neg c7] at H; have c7b0 : ((rdOf ByteArray.empty l0 x5_1).toList == (rdOf ByteArray.empty l1 x5_1).toList) = false := beq_eq_false_iff_ne.mpr c7; have c7b1 : ((rdOf ByteArray.empty l0 x5_1).toList != (rdOf ByteArray.empty l1 x5_1).toList) = true := bne_iff_ne.mpr c7; obtain rfl := Option.some.inj H; have p137 : 0 ≤ (x5_1 : Int) := da; have q137 : x5_1 < (l0.length : Int) := da; obtain ⟨ad137, e137, hx137_0⟩ := Kd.at_string HR0.out x5_1 p137 q137; cases e137; replace p137 := eq_true p137; replace q137 := eq_true q137; have p138 : 0 ≤ (x5_1 : Int) := da; have q138 : x5_1 < (l1.length : Int) := da; obtain ⟨ad138, e138, hx138_0⟩ := Kd.at_string HR1.out x5_1 p138 q138; cases e138; replace p138 := eq_true p138; replace q138 := eq_true q138; go_wp2
        repeat (go_quiet (fail); try go_wp2)
        go_ret; exact ⟨by first | rfl | (simp; done) | (simp [*]; done), by repeat (first | exact Drawn0.refl _ | apply Drawn0.step)⟩
      ·rw [if_neg c6] at H; exact absurd H (by simp)
     ·rw [if_neg c5] at H; exact absurd H (by simp)
    ·rw [if_neg c4] at H; have c4b0 : decide (x5_1 < (l0.length : Int)) = false := decide_eq_false c4; clear c4; obtain rfl := Option.some.inj H; go_wp2
     repeat (go_quiet (fail); try go_wp2)
     go_ret; exact ⟨by first | rfl | (simp; done) | (simp [*]; done), by repeat (first | exact Drawn0.refl _ | apply Drawn0.step)⟩
 ·rw [if_neg c3] at H; have c3b0 : ((l0.length : Int) == (l1.length : Int)) = false := beq_eq_false_iff_ne.mpr c3; have c3b1 : ((l0.length : Int) != (l1.length : Int)) = true := bne_iff_ne.mpr c3
  have c3b2 : (l0.length == l1.length) = false := by first | simpa using c3 | (simp at c3 ⊢; omega)
  obtain rfl := Option.some.inj H; go_enter Try.func36, Try.ntmps36; go_wp2
  repeat (go_quiet (fail); try go_wp2)
  go_ret; exact ⟨by first | rfl | (simp; done) | (simp [*]; done), by repeat (first | exact Drawn0.refl _ | apply Drawn0.step)⟩

/-! ### laws_markText: function 53 -/
def laws_markText.l0 : Nat → Int → ByteArray → Option (ByteArray)
 | 0, _, _ => none
 | k + 1, x0, x3 => if x0 > 0 then ((some (([(wrap64 (48 + (Int.tmod x0 10))) % 256] : List Int) : List Int)).bind fun y139 => (if (strOfNums y139).size + x3.size ≤ 9223372036854775807 then (laws_markText.l0 k (wrap64 (Int.tdiv x0 10)) ((strOfNums y139) ++ x3)) else (none))) else (if 1 + x3.size ≤ 9223372036854775807 then (some ((⟨#[109]⟩ : ByteArray) ++ x3)) else (none))
def laws_markText.f (k : Nat) (a0 : Int) : Option (ByteArray) := if a0 ≤ 0 then (some (⟨#[109, 48]⟩ : ByteArray)) else (laws_markText.l0 k a0 (⟨#[]⟩ : ByteArray))
theorem laws_markText.mono_l : ∀ k, (∀ y0 y1, LeO (laws_markText.l0 k y0 y1) (laws_markText.l0 (k + 1) y0 y1))
 | 0 => fun _ _ r h => by simp [laws_markText.l0] at h
 | k + 1 => by
  have ih0 := laws_markText.mono_l k
  ·intro y0 y1; unfold laws_markText.l0; repeat' first
   | (with_reducible exact ih0 _ _)
   | (with_reducible exact LeO.refl _)
   | (with_reducible exact LeO.none _)
   | (with_reducible refine LeO.ite ?_ ?_)
   | (with_reducible refine LeO.bind ?_ (fun _ => ?_))
   | exact ih0 _ _
   | exact LeO.none _
   | refine LeO.ite ?_ ?_
   | refine LeO.bind ?_ (fun _ => ?_)
theorem laws_markText.mono : ∀ a0 k, LeO (laws_markText.f k a0) (laws_markText.f (k + 1) a0) := by
 intro a0 k; have ih0 := laws_markText.mono_l k; unfold laws_markText.f; repeat' first
   | (with_reducible exact ih0 _ _)
   | (with_reducible exact LeO.refl _)
   | (with_reducible exact LeO.none _)
   | (with_reducible refine LeO.ite ?_ ?_)
   | (with_reducible refine LeO.bind ?_ (fun _ => ?_))
   | exact ih0 _ _
   | exact LeO.none _
   | refine LeO.ite ?_ ?_
   | refine LeO.bind ?_ (fun _ => ?_)
set_option maxHeartbeats 8000000 in
set_option maxRecDepth 100000 in
theorem laws_markText.calls (k : Nat) (a0 : Int) (r : ByteArray) (w : World) (h : laws_markText.f k a0 = some r) :
  Calls Try.prog 53 #[.int .i64 a0] w fun e w' => e = .returned (.string r) ∧ Below w.heap.size w w' := by
 have HB := am (Below.refl w.heap.size w); have H : (if a0 ≤ 0 then (some (⟨#[109, 48]⟩ : ByteArray)) else (laws_markText.l0 k a0 (⟨#[]⟩ : ByteArray))) = some r := h; clear h; by_cases c2 : a0 ≤ 0
 ·rw [if_pos c2] at H; have c2b0 : decide (a0 ≤ 0) = true := decide_eq_true c2; clear c2; obtain rfl := Option.some.inj H; go_enter Try.func53, Try.ntmps53; go_wp2; go_ret; exact ⟨by first | rfl | (simp [errW_none, errW_some] <;> rfl) | (simp [*, errW_none, errW_some] <;> rfl), by exact bz HB.out⟩
 ·rw [if_neg c2] at H; have c2b0 : decide (a0 ≤ 0) = false := decide_eq_false c2; clear c2; have H' := am H; clear H; go_enter Try.func53, Try.ntmps53; go_wp2; go_loopg [0, 3] k (fun kq v0 v3 w' => ∃ (x0_1 : Int) (x3_1 : ByteArray), v0 = .int .i64 x0_1 ∧ v3 = .string x3_1 ∧ Aside0 (laws_markText.l0 kq x0_1 x3_1 = some r) ∧ Aside0 (kq ≤ k) ∧ Aside0 (Below w.heap.size w w'))
  case atStart => exact ⟨(a0), ((⟨#[]⟩ : ByteArray)), (by first | rfl | (simp; done) | (simp [*]; done)), (by first | rfl | (simp; done) | (simp [*]; done)), H', ⟨Nat.le_refl _⟩, ⟨by exact bz HB.out⟩⟩
  case round =>
   clear H'; (try clear c2); (try clear c2b0); (try clear p2); obtain ⟨x0_1, x3_1, rfl, rfl, HA, HK1, HB⟩ := hrel
   cases gk with
   | zero => exact absurd HA.out (by simp [laws_markText.l0])
   | succ k1 =>
    have H := HA.out; clear HA; simp only [laws_markText.l0] at H; by_cases c3 : x0_1 > 0
    ·rw [if_pos c3] at H; have c3b0 : decide (0 < x0_1) = true := decide_eq_true c3; clear c3; obtain ⟨y139, hy139⟩ : ∃ y_ : List Int, y_ = (([(wrap64 (48 + (Int.tmod x0_1 10))) % 256] : List Int)) := ⟨_, rfl⟩
     replace H : (if (strOfNums y139).size + x3_1.size ≤ 9223372036854775807 then (laws_markText.l0 k1 (wrap64 (Int.tdiv x0_1 10)) ((strOfNums y139) ++ x3_1)) else (none)) = some r := by first | (rw [hy139]; with_reducible exact H) | (have H2_ := (Option.bind_some _ _).symm.trans H; rw [hy139]; with_reducible exact H2_) | (have H2_ := (Option.bind_some _ _).symm.trans H; with_reducible exact H2_) | with_reducible exact H | (rw [hy139]; exact H) | exact H
     have Ny139 := am hy139; clear hy139; by_cases c4 : (strOfNums y139).size + x3_1.size ≤ 9223372036854775807
     ·rw [if_pos c4] at H; have c4b0 := eq_true c4; have c4b1 : decide ((strOfNums y139).size + x3_1.size ≤ 9223372036854775807) = true := decide_eq_true c4; (try have c4b2 : (9223372036854775807 < (strOfNums y139).size + x3_1.size) = False := eq_false (Nat.not_lt.2 c4)); have H' := am H; clear H; go_wp2_with (first | ((with_reducible refine gx 12 rfl ?_); refine Kd.R_lit (Kd.int .u8) _ 5 ?hg (N := 12) ?hd (xs := ([(wrap64 (48 + (Int.tmod x0_1 10))) % 256] : List Int)) (inner := [.int .u8 ((wrap64 (48 + (Int.tmod x0_1 10))) % 256)]) (ok := fun _ => True) (okp := fun _ => True) ?hr ?hp (fun _ hk => hk) trivial (Below.refl _ _) (Nat.le_refl _) (by simp) ?_; (case hd => rfl); (case hg => rfl); (case hr => first | (go_simp; done) | (go_simp; rfl)); (case hp => exact (Reps.one (show Kd.M (Kd.int .u8) _ _ _ ((wrap64 (48 + (Int.tmod x0_1 10))) % 256) [.int .u8 ((wrap64 (48 + (Int.tmod x0_1 10))) % 256)] from rfl) (Reps.none _ _))); intro v140 w5 ho6 hb hg_ hnew_; clear hg_ hnew_; (first | rw [← Ny139.out] at ho6 | (simp only [Int.reduceToNat] at ho6; rw [← Ny139.out] at ho6)); have n0_ := am (Kd.R_lower ho6 (below_size (bz HB.out))); have n1_ := hs HB hb; clear HB; revert n0_ n1_; intro HO141 HB; clear hb ho6; have hcv7 := own_string (P := Try.prog) Try.underlying32 Try.underlying5 Try.underlying9 (Kd.own_of_R HO141.out))); go_roundg k1
      case measure => have := HK1.out; omega
      case rel => exact ⟨(wrap64 (Int.tdiv x0_1 10)), ((strOfNums y139) ++ x3_1), (by first | rfl | (simp; done) | (simp [*]; done)), (by first | rfl | (simp; done) | (simp [*]; done)), H', ⟨by have := HK1.out; omega⟩, ⟨by exact bz HB.out⟩⟩
     ·rw [if_neg c4] at H; exact absurd H (by simp)
    ·rw [if_neg c3] at H; have c3b0 : decide (0 < x0_1) = false := decide_eq_false c3; clear c3; by_cases c8 : 1 + x3_1.size ≤ 9223372036854775807
     ·rw [if_pos c8] at H; have c8b0 := eq_true c8; have c8b1 : decide (1 + x3_1.size ≤ 9223372036854775807) = true := decide_eq_true c8; (try have c8b2 : (9223372036854775807 < 1 + x3_1.size) = False := eq_false (Nat.not_lt.2 c8)); obtain rfl := Option.some.inj H; go_wp2; go_ret; exact ⟨by first | rfl | (simp [errW_none, errW_some] <;> rfl) | (simp [*, errW_none, errW_some] <;> rfl), by exact bz HB.out⟩
     ·rw [if_neg c8] at H; exact absurd H (by simp)

/-! ### laws_markStringS: function 37 -/
def laws_markStringS.l0 : Nat → List ByteArray → Int → Int → Option (Int × List ByteArray)
 | 0, _, _, _ => none
 | k + 1, x0, x1, x5 => if x5 < (x0.length : Int) then ((laws_markText.f k x1).bind fun t142 => (if 0 ≤ x5 then (laws_markStringS.l0 k (x0.set (x5 : Int).toNat t142) (wrap64 (x1 + 1)) (wrap64 (x5 + 1))) else (none))) else (some (x1, x0))
def laws_markStringS.f (k : Nat) (l0 : List ByteArray) (a1 : Int) : Option (Int × List ByteArray) := laws_markStringS.l0 k l0 a1 0
theorem laws_markStringS.mono_l : ∀ k, (∀ y0 y1 y2, LeO (laws_markStringS.l0 k y0 y1 y2) (laws_markStringS.l0 (k + 1) y0 y1 y2))
 | 0 => fun _ _ _ r h => by simp [laws_markStringS.l0] at h
 | k + 1 => by
  have ih0 := laws_markStringS.mono_l k
  ·intro y0 y1 y2; unfold laws_markStringS.l0; repeat' first
   | (with_reducible exact ih0 _ _ _)
   | (with_reducible exact laws_markText.mono _ _)
   | (with_reducible exact LeO.refl _)
   | (with_reducible exact LeO.none _)
   | (with_reducible refine LeO.ite ?_ ?_)
   | (with_reducible refine LeO.bind ?_ (fun _ => ?_))
   | exact ih0 _ _ _
   | exact laws_markText.mono _ _
   | exact LeO.none _
   | refine LeO.ite ?_ ?_
   | refine LeO.bind ?_ (fun _ => ?_)
theorem laws_markStringS.mono : ∀ a0 a1 k, LeO (laws_markStringS.f k a0 a1) (laws_markStringS.f (k + 1) a0 a1) := by
 intro a0 a1 k; have ih0 := laws_markStringS.mono_l k; unfold laws_markStringS.f; repeat' first
   | (with_reducible exact ih0 _ _ _)
   | (with_reducible exact laws_markText.mono _ _)
   | (with_reducible exact LeO.refl _)
   | (with_reducible exact LeO.none _)
   | (with_reducible refine LeO.ite ?_ ?_)
   | (with_reducible refine LeO.bind ?_ (fun _ => ?_))
   | exact ih0 _ _ _
   | exact laws_markText.mono _ _
   | exact LeO.none _
   | refine LeO.ite ?_ ?_
   | refine LeO.bind ?_ (fun _ => ?_)
set_option maxHeartbeats 8000000 in
set_option maxRecDepth 100000 in
theorem laws_markStringS.calls (k : Nat) (P0_ : Nat → Prop) (u9000_ : Value) (l0 : List ByteArray) (a1 : Int) (r1 : Int) (r2 : List ByteArray) (w0 w : World) (hB : Below w0.heap.size w0 w) (ho0 : Kd.R Kd.string 9 w w0.heap.size P0_ u9000_ l0) (h : laws_markStringS.f k l0 a1 = some (r1, r2)) :
  Calls Try.prog 37 #[u9000_, .int .i64 a1] w fun e w' => e = .returned (.int .i64 r1) ∧ Kd.R Kd.string 9 w' w0.heap.size (fun k_ => (P0_ k_ ∨ w.heap.size ≤ k_)) u9000_ r2 ∧ Below w0.heap.size w0 w' ∧ Kept w w' (fun k_ => P0_ k_) := by
 have HO0 := am (show Kd.R Kd.string 9 w w0.heap.size (fun k_ => (P0_ k_ ∨ w.heap.size ≤ k_)) u9000_ l0 from Kd.R_mono ho0 (fun k_ hk => (.inl hk))); have HK := am (Kept.refl w (fun k_ => P0_ k_)); have HW0 := am hB.size; have HB := am hB; clear hB; have H : (laws_markStringS.l0 k l0 a1 0) = some (r1, r2) := h; clear h; have H' := am H; clear H; go_enter Try.func37, Try.ntmps37; go_wp2; go_loopg [1, 5] k (fun kq v1 v5 w' => ∃ (x0_1 : List ByteArray) (x1_1 : Int) (x5_1 : Int), v1 = .int .i64 x1_1 ∧ v5 = .int .i64 x5_1 ∧ Aside0 (laws_markStringS.l0 kq x0_1 x1_1 x5_1 = some (r1, r2)) ∧ Aside0 (kq ≤ k) ∧ Aside0 (Kd.R Kd.string 9 w' w0.heap.size (fun k_ => (P0_ k_ ∨ w.heap.size ≤ k_)) u9000_ x0_1) ∧ Aside0 (Kept w w' (fun k_ => P0_ k_)) ∧ Aside0 (Below w0.heap.size w0 w'))
 case atStart => exact ⟨(l0), (a1), (0), (by first | rfl | (simp; done) | (simp [*]; done)), (by first | rfl | (simp; done) | (simp [*]; done)), H', ⟨Nat.le_refl _⟩, ⟨rz HO0.out⟩, ⟨by repeat (first | (with_reducible first | exact HK.out | apply Kept.alloc | apply Kept.drewN | apply Kept.drew) | exact HK.out)⟩, ⟨by exact bz HB.out⟩⟩
 case round =>
  clear H'; (try clear p2); obtain ⟨x0_1, x1_1, x5_1, rfl, rfl, HA, HK1, HO_0, HK, HB⟩ := hrel
  cases gk with
  | zero => exact absurd HA.out (by simp [laws_markStringS.l0])
  | succ k1 =>
   have H := HA.out; clear HA; simp only [laws_markStringS.l0] at H; by_cases c3 : x5_1 < (x0_1.length : Int)
   ·rw [if_pos c3] at H; have c3b0 : decide (x5_1 < (x0_1.length : Int)) = true := decide_eq_true c3; clear c3; replace H := Option.bind_eq_some_iff.mp H; obtain ⟨t142, A40, H⟩ := H; (try dsimp only at H); have A4 := am A40; clear A40; by_cases c5 : 0 ≤ x5_1
    ·rw [if_pos c5] at H; have c5b0 : decide (0 ≤ x5_1) = true := decide_eq_true c5; clear c5; obtain ⟨y143, hy143⟩ : ∃ y_ : List ByteArray, y_ = (x0_1.set (x5_1 : Int).toNat t142) := ⟨_, rfl⟩
     replace H : (laws_markStringS.l0 k1 y143 (wrap64 (x1_1 + 1)) (wrap64 (x5_1 + 1))) = some (r1, r2) := by first | (rw [hy143]; with_reducible exact H) | (have H2_ := (Option.bind_some _ _).symm.trans H; rw [hy143]; with_reducible exact H2_) | (have H2_ := (Option.bind_some _ _).symm.trans H; with_reducible exact H2_) | with_reducible exact H | (rw [hy143]; exact H) | exact H
     have Ny143 := am hy143; clear hy143; have H' := am H; clear H; obtain ⟨Ao7, co7, eo7⟩ := Kd.R_slice HO_0.out; subst eo7; go_wp2_with (first | ((with_reducible refine gy 53 rfl ?_); refine gl Try.func53 #[.int .i64 x1_1] ?_; (with_reducible refine (laws_markText.calls k1 x1_1 t142 _ A4.out).mono ?_); rintro e w8 ⟨rfl, hb⟩; refine ⟨_, rfl, ?_⟩; have n0_ := rb HO_0 hb; have n1_ := am (Kept.below (S := (fun k_ => P0_ k_)) (by repeat (first | (with_reducible first | exact HK.out | apply Kept.alloc | apply Kept.drewN | apply Kept.drew) | exact HK.out)) hb); have n2_ := hs HB hb; clear HO_0 HK HB; revert n0_ n1_ n2_; intro HO_0 HK HB; (try clear hb); (try clear hb2); (try clear hk); (try clear hi); have p6 : 0 ≤ (x5_1 : Int) := da; have q6 : (x5_1 : Int) < ((x0_1.length : Int) : Int) := da; obtain ⟨go6, co6, eo6, gb6, gl6, cl6, HG6⟩ := Kd.R_form HO_0.out (by omega); (first | cases eo6 | (injection eo6 with ea_ en_ ec_; (first | subst ea_ | (injection ea_ with ea_; subst ea_)); subst ec_; clear en_)); have GB6 := am gb6; have GG6 := am HG6; clear gb6 gl6 HG6; have HMgo6 := am (show (P0_ go6 ∨ w.heap.size ≤ go6) from (HO_0.out.1 _ rfl)); obtain ⟨hx6_0, hf6_0⟩ := Kd.R_celln (⟨#[]⟩ : ByteArray) HO_0.out (x5_1 : Int) p6 q6; replace p6 := eq_true p6; replace q6 := eq_true q6; obtain ⟨hy9_, hz9_⟩ := Kd.R_celln (⟨#[]⟩ : ByteArray) HO_0.out (x5_1 : Int) (da) (da); have HP9 := Kd.R_putg HO_0.out (x5_1 : Int) t142) | ((with_reducible refine gate_store (t := 9) (p := 16) rfl ?_); refine store_event (t := 9) (p := 16) (v := ?vo_w10) (w1 := (w8.setCell ⟨go6, (x5_1 : Int).toNat, none⟩ (.string t142))) ?hg ?ho ?hn ?hr ?_; (case ho => rfl); (case hg => rfl); (case hn => rfl); (case hr => first | (go_simp; done) | (go_simp; rfl)); intro w10 hw; have hg : w8.grownBy w10 (some go6) := (by rw [hw]; exact HP9.2); have hp_ : Kd.R Kd.string 9 w10 w0.heap.size (fun k_ => (P0_ k_ ∨ w.heap.size ≤ k_)) (.slice (some ⟨go6, 0, none⟩) x0_1.length co7) y143 := (by rw [hw, Ny143.out]; exact HP9.1); clear HP9; have n0_ := am (hp_); have n1_ := am ((by rw [hw]; exact below_set (HB.out) GB6.out : Below w0.heap.size w0 w10)); have n2_ := am (Kept.of_grown (S := (fun k_ => P0_ k_)) hg (by repeat (first | (with_reducible first | exact HK.out | apply Kept.alloc | apply Kept.drewN | apply Kept.drew) | exact HK.out)) (fun k_ e_ => (HO_0.out.1 k_ e_))); clear HO_0 HB HK; revert n0_ n1_ n2_; intro HO_0 HB HK; clear hg hw hp_)); go_roundg k1
     case measure => have := HK1.out; omega
     case rel => exact ⟨(y143), (wrap64 (x1_1 + 1)), (wrap64 (x5_1 + 1)), (by first | rfl | (simp; done) | (simp [*]; done)), (by first | rfl | (simp; done) | (simp [*]; done)), H', ⟨by have := HK1.out; omega⟩, ⟨rz HO_0.out⟩, ⟨by repeat (first | (with_reducible first | exact HK.out | apply Kept.alloc | apply Kept.drewN | apply Kept.drew) | exact HK.out)⟩, ⟨by exact bz HB.out⟩⟩
    ·rw [if_neg c5] at H; exact absurd H (by simp)
   ·rw [if_neg c3] at H; have c3b0 : decide (x5_1 < (x0_1.length : Int)) = false := decide_eq_false c3; clear c3; simp only [Option.some.injEq, Prod.mk.injEq] at H; obtain ⟨rfl, rfl⟩ := H; obtain ⟨Ao11, co11, eo11⟩ := Kd.R_slice HO_0.out; subst eo11; go_wp2; go_ret; exact ⟨by first | rfl | (simp [errW_none, errW_some] <;> rfl) | (simp [*, errW_none, errW_some] <;> rfl), rz HO_0.out, by exact bz HB.out, by repeat (first | (with_reducible first | exact HK.out | apply Kept.alloc | apply Kept.drewN | apply Kept.drew) | exact HK.out)⟩

/-! ### laws_heldStringS: function 38 -/
def laws_heldStringS.l0 : Nat → List ByteArray → Int → Int → Option (Int)
 | 0, _, _, _ => none
 | k + 1, x0, x1, x5 => if x5 < (x0.length : Int) then (if 0 ≤ x5 then ((laws_markText.f k x1).bind fun t145 => (if (rdOf ByteArray.empty x0 x5).toList = t145.toList then (laws_heldStringS.l0 k x0 (wrap64 (x1 + 1)) (wrap64 (x5 + 1))) else (some (-1)))) else (none)) else (some x1)
def laws_heldStringS.f (k : Nat) (l0 : List ByteArray) (a1 : Int) : Option (Int) := laws_heldStringS.l0 k l0 a1 0
theorem laws_heldStringS.mono_l : ∀ k, (∀ y0 y1 y2, LeO (laws_heldStringS.l0 k y0 y1 y2) (laws_heldStringS.l0 (k + 1) y0 y1 y2))
 | 0 => fun _ _ _ r h => by simp [laws_heldStringS.l0] at h
 | k + 1 => by
  have ih0 := laws_heldStringS.mono_l k
  ·intro y0 y1 y2; unfold laws_heldStringS.l0; repeat' first
   | (with_reducible exact ih0 _ _ _)
   | (with_reducible exact laws_markText.mono _ _)
   | (with_reducible exact LeO.refl _)
   | (with_reducible exact LeO.none _)
   | (with_reducible refine LeO.ite ?_ ?_)
   | (with_reducible refine LeO.bind ?_ (fun _ => ?_))
   | exact ih0 _ _ _
   | exact laws_markText.mono _ _
   | exact LeO.none _
   | refine LeO.ite ?_ ?_
   | refine LeO.bind ?_ (fun _ => ?_)
theorem laws_heldStringS.mono : ∀ a0 a1 k, LeO (laws_heldStringS.f k a0 a1) (laws_heldStringS.f (k + 1) a0 a1) := by
 intro a0 a1 k; have ih0 := laws_heldStringS.mono_l k; unfold laws_heldStringS.f; repeat' first
   | (with_reducible exact ih0 _ _ _)
   | (with_reducible exact laws_markText.mono _ _)
   | (with_reducible exact LeO.refl _)
   | (with_reducible exact LeO.none _)
   | (with_reducible refine LeO.ite ?_ ?_)
   | (with_reducible refine LeO.bind ?_ (fun _ => ?_))
   | exact ih0 _ _ _
   | exact laws_markText.mono _ _
   | exact LeO.none _
   | refine LeO.ite ?_ ?_
   | refine LeO.bind ?_ (fun _ => ?_)
set_option maxHeartbeats 8000000 in
set_option maxRecDepth 100000 in
theorem laws_heldStringS.calls (k : Nat) (A0 : Option Addr) (c0 : Nat) (l0 : List ByteArray) (a1 : Int) (r : Int) (w : World) (hr0 : Kd.C Kd.string w A0 l0.length l0) (hc0 : l0.length ≤ c0) (h : laws_heldStringS.f k l0 a1 = some r) :
  Calls Try.prog 38 #[.slice A0 l0.length c0, .int .i64 a1] w fun e w' => e = .returned (.int .i64 r) ∧ Below w.heap.size w w' := by
 have HR0 := am hr0; have HC0 := am hc0; clear hr0 hc0; have HB := am (Below.refl w.heap.size w); have H : (laws_heldStringS.l0 k l0 a1 0) = some r := h; clear h; have H' := am H; clear H; go_enter Try.func38, Try.ntmps38; go_wp2; go_loopg [1, 5] k (fun kq v1 v5 w' => ∃ (x1_1 : Int) (x5_1 : Int), v1 = .int .i64 x1_1 ∧ v5 = .int .i64 x5_1 ∧ Aside0 (laws_heldStringS.l0 kq l0 x1_1 x5_1 = some r) ∧ Aside0 (kq ≤ k) ∧ Aside0 (Below w.heap.size w w'))
 case atStart => exact ⟨(a1), (0), (by first | rfl | (simp; done) | (simp [*]; done)), (by first | rfl | (simp; done) | (simp [*]; done)), H', ⟨Nat.le_refl _⟩, ⟨by exact bz HB.out⟩⟩
 case round =>
  clear H'; (try clear p2); obtain ⟨x1_1, x5_1, rfl, rfl, HA, HK1, HB⟩ := hrel
  cases gk with
  | zero => exact absurd HA.out (by simp [laws_heldStringS.l0])
  | succ k1 =>
   have H := HA.out; clear HA; simp only [laws_heldStringS.l0] at H; by_cases c3 : x5_1 < (l0.length : Int)
   ·rw [if_pos c3] at H; have c3b0 : decide (x5_1 < (l0.length : Int)) = true := decide_eq_true c3; clear c3; by_cases c4 : 0 ≤ x5_1
    ·rw [if_pos c4] at H; have c4b0 : decide (0 ≤ x5_1) = true := decide_eq_true c4; clear c4; replace H := Option.bind_eq_some_iff.mp H; obtain ⟨t145, A50, H⟩ := H; (try dsimp only at H); have A5 := am A50; clear A50; by_cases c6 : (rdOf ByteArray.empty l0 x5_1).toList = t145.toList
     ·rw [if_pos c6] at H; have c6b0 : ((rdOf ByteArray.empty l0 x5_1).toList == t145.toList) = true := beq_iff_eq.mpr c6; have c6b1 : ((rdOf ByteArray.empty l0 x5_1).toList != t145.toList) = false := bne_eq_false_iff_eq.mpr c6; clear c6; have H' := am H; clear H; (try go_wp2); have n0_ := am (below_drew1 HB.out); clear HB; revert n0_; intro HB; have p144 : 0 ≤ (x5_1 : Int) := da; have q144 : x5_1 < (l0.length : Int) := da; obtain ⟨ad144, e144, hx144_0⟩ := Kd.at_string HR0.out x5_1 p144 q144; have hw144_0 := hx144_0; cases e144; replace hx144_0 := lx (bw HB.out) hx144_0; replace p144 := eq_true p144; replace q144 := eq_true q144; refine start_ (n := 7) (S := fun w' => w'.cell? (ad144.add (x5_1).toNat) = some (.string (rdOf ByteArray.empty l0 x5_1))) (ds := []) #[false, false, false, false, false, false, false] (by kernel_rfl) rfl rfl ((lx (bw HB.out) hw144_0)) (fun hHeld => ?_); generalize wr.drew = w7 at HB hx144_0 hHeld ⊢; refine pure_ (i := 0) (N := some 12) (v := ?_) (a' := ?_) #[true, false, false, false, false, false, false] rfl rfl (by kernel_rfl) (fun _ _ _ h => h) (Or.inl ⟨by rfl, ?_⟩) ?_ ?_; rotate_left
      ·intro w'; go_simp
       with_reducible rfl
      rotate_left
      ·simp only [Act.put, List.setIfInBounds_toArray, List.set_cons_zero, List.set_cons_succ, i64_w, i32_w]; rfl
      refine pure_ (i := 1) (N := some 13) (v := ?_) (a' := ?_) #[true, true, false, false, false, false, false] rfl rfl (by kernel_rfl) (fun _ _ _ h => h) (Or.inl ⟨by rfl, ?_⟩) ?_ ?_; rotate_left
      ·intro w'; go_simp
       with_reducible rfl
      rotate_left
      ·simp only [Act.put, List.setIfInBounds_toArray, List.set_cons_zero, List.set_cons_succ, i64_w, i32_w]; rfl
      refine pure_ (i := 2) (N := some 14) (v := ?_) (a' := ?_) #[true, true, true, false, false, false, false] rfl rfl (by kernel_rfl) (fun _ _ _ h => h) (Or.inl ⟨by rfl, ?_⟩) ?_ ?_; rotate_left
      ·intro w'; go_simp
       with_reducible rfl
      rotate_left
      ·simp only [Act.put, List.setIfInBounds_toArray, List.set_cons_zero, List.set_cons_succ, i64_w, i32_w]; rfl
      refine pure_ (i := 4) (N := some 16) (v := ?_) (a' := ?_) #[true, true, true, false, true, false, false] rfl rfl (by kernel_rfl) (fun _ _ _ h => h) (Or.inl ⟨by rfl, ?_⟩) ?_ ?_; rotate_left
      ·intro w'; go_simp
       with_reducible rfl
      rotate_left
      ·simp only [Act.put, List.setIfInBounds_toArray, List.set_cons_zero, List.set_cons_succ, i64_w, i32_w]; rfl
      refine take_ (i := 3) (N := some 15) (v := ?_) (a' := ?_) #[true, true, true, true, true, false, false] rfl rfl (by kernel_rfl) (fun _ _ _ h => h) (Or.inl ⟨by rfl, ?_⟩) hHeld ?_ ?_; rotate_left
      ·intro w' s0; go_simp
       with_reducible rfl
      rotate_left
      ·simp only [Act.put, List.setIfInBounds_toArray, List.set_cons_zero, List.set_cons_succ, i64_w, i32_w]; rfl
      refine one_ (i := 5) (N := some 17) #[true, true, true, true, true, true, false] rfl rfl (by kernel_rfl) (by decide) (fun K hK => ?_); refine gr Try.func53 #[.int .i64 x1_1] ?_
      with_reducible refine (laws_markText.calls k1 x1_1 t145 _ A5.out).mono ?_
      rintro e w8 ⟨rfl, hb⟩; refine ⟨_, rfl, ?_⟩; have n0_ := hs HB hb; clear HB; revert n0_; intro HB; (try clear hb); (try clear hb2); (try clear hk); (try clear hi); refine hK.out _ _ ((lx (bw HB.out) hw144_0)) (fun hHeld => ?_); clear hK K; refine norm_ (a' := ?_) ?_ ?_; rotate_left
      ·show Act.put _ (some 17) _ = _; simp only [Act.put, List.setIfInBounds_toArray, List.set_cons_zero, List.set_cons_succ, i64_w, i32_w]; rfl
      refine pure_ (i := 6) (N := some 18) (v := ?_) (a' := ?_) #[true, true, true, true, true, true, true] rfl rfl (by kernel_rfl) (fun _ _ _ h => h) (Or.inl ⟨by rfl, ?_⟩) ?_ ?_; rotate_left
      ·intro w'; go_simp
       with_reducible rfl
      rotate_left
      ·simp only [Act.put, List.setIfInBounds_toArray, List.set_cons_zero, List.set_cons_succ, i64_w, i32_w]; rfl
      refine done_ (by kernel_rfl) ?_; (try go_wp2); go_roundg k1
      case measure => have := HK1.out; omega
      case rel => exact ⟨(wrap64 (x1_1 + 1)), (wrap64 (x5_1 + 1)), (by first | rfl | (simp; done) | (simp [*]; done)), (by first | rfl | (simp; done) | (simp [*]; done)), H', ⟨by have := HK1.out; omega⟩, ⟨by exact bz HB.out⟩⟩
     ·rw [if_neg c6] at H; have c6b0 : ((rdOf ByteArray.empty l0 x5_1).toList == t145.toList) = false := beq_eq_false_iff_ne.mpr c6; have c6b1 : ((rdOf ByteArray.empty l0 x5_1).toList != t145.toList) = true := bne_iff_ne.mpr c6; obtain rfl := Option.some.inj H; (try go_wp2); have n0_ := am (below_drew1 HB.out); clear HB; revert n0_; intro HB; have p144 : 0 ≤ (x5_1 : Int) := da; have q144 : x5_1 < (l0.length : Int) := da; obtain ⟨ad144, e144, hx144_0⟩ := Kd.at_string HR0.out x5_1 p144 q144; have hw144_0 := hx144_0; cases e144; replace hx144_0 := lx (bw HB.out) hx144_0; replace p144 := eq_true p144; replace q144 := eq_true q144; refine start_ (n := 7) (S := fun w' => w'.cell? (ad144.add (x5_1).toNat) = some (.string (rdOf ByteArray.empty l0 x5_1))) (ds := []) #[false, false, false, false, false, false, false] (by kernel_rfl) rfl rfl ((lx (bw HB.out) hw144_0)) (fun hHeld => ?_); generalize wr.drew = w9 at HB hx144_0 hHeld ⊢; refine pure_ (i := 0) (N := some 12) (v := ?_) (a' := ?_) #[true, false, false, false, false, false, false] rfl rfl (by kernel_rfl) (fun _ _ _ h => h) (Or.inl ⟨by rfl, ?_⟩) ?_ ?_; rotate_left
      ·intro w'; go_simp
       with_reducible rfl
      rotate_left
      ·simp only [Act.put, List.setIfInBounds_toArray, List.set_cons_zero, List.set_cons_succ, i64_w, i32_w]; rfl
      refine pure_ (i := 1) (N := some 13) (v := ?_) (a' := ?_) #[true, true, false, false, false, false, false] rfl rfl (by kernel_rfl) (fun _ _ _ h => h) (Or.inl ⟨by rfl, ?_⟩) ?_ ?_; rotate_left
      ·intro w'; go_simp
       with_reducible rfl
      rotate_left
      ·simp only [Act.put, List.setIfInBounds_toArray, List.set_cons_zero, List.set_cons_succ, i64_w, i32_w]; rfl
      refine pure_ (i := 2) (N := some 14) (v := ?_) (a' := ?_) #[true, true, true, false, false, false, false] rfl rfl (by kernel_rfl) (fun _ _ _ h => h) (Or.inl ⟨by rfl, ?_⟩) ?_ ?_; rotate_left
      ·intro w'; go_simp
       with_reducible rfl
      rotate_left
      ·simp only [Act.put, List.setIfInBounds_toArray, List.set_cons_zero, List.set_cons_succ, i64_w, i32_w]; rfl
      refine pure_ (i := 4) (N := some 16) (v := ?_) (a' := ?_) #[true, true, true, false, true, false, false] rfl rfl (by kernel_rfl) (fun _ _ _ h => h) (Or.inl ⟨by rfl, ?_⟩) ?_ ?_; rotate_left
      ·intro w'; go_simp
       with_reducible rfl
      rotate_left
      ·simp only [Act.put, List.setIfInBounds_toArray, List.set_cons_zero, List.set_cons_succ, i64_w, i32_w]; rfl
      refine take_ (i := 3) (N := some 15) (v := ?_) (a' := ?_) #[true, true, true, true, true, false, false] rfl rfl (by kernel_rfl) (fun _ _ _ h => h) (Or.inl ⟨by rfl, ?_⟩) hHeld ?_ ?_; rotate_left
      ·intro w' s0; go_simp
       with_reducible rfl
      rotate_left
      ·simp only [Act.put, List.setIfInBounds_toArray, List.set_cons_zero, List.set_cons_succ, i64_w, i32_w]; rfl
      refine one_ (i := 5) (N := some 17) #[true, true, true, true, true, true, false] rfl rfl (by kernel_rfl) (by decide) (fun K hK => ?_); refine gr Try.func53 #[.int .i64 x1_1] ?_
      with_reducible refine (laws_markText.calls k1 x1_1 t145 _ A5.out).mono ?_
      rintro e w10 ⟨rfl, hb⟩; refine ⟨_, rfl, ?_⟩; have n0_ := hs HB hb; clear HB; revert n0_; intro HB; (try clear hb); (try clear hb2); (try clear hk); (try clear hi); refine hK.out _ _ ((lx (bw HB.out) hw144_0)) (fun hHeld => ?_); clear hK K; refine norm_ (a' := ?_) ?_ ?_; rotate_left
      ·show Act.put _ (some 17) _ = _; simp only [Act.put, List.setIfInBounds_toArray, List.set_cons_zero, List.set_cons_succ, i64_w, i32_w]; rfl
      refine pure_ (i := 6) (N := some 18) (v := ?_) (a' := ?_) #[true, true, true, true, true, true, true] rfl rfl (by kernel_rfl) (fun _ _ _ h => h) (Or.inl ⟨by rfl, ?_⟩) ?_ ?_; rotate_left
      ·intro w'; go_simp
       with_reducible rfl
      rotate_left
      ·simp only [Act.put, List.setIfInBounds_toArray, List.set_cons_zero, List.set_cons_succ, i64_w, i32_w]; rfl
      refine done_ (by kernel_rfl) ?_; (try go_wp2); go_ret; exact ⟨by first | rfl | (simp [errW_none, errW_some] <;> rfl) | (simp [*, errW_none, errW_some] <;> rfl), by exact bz HB.out⟩
    ·rw [if_neg c4] at H; exact absurd H (by simp)
   ·rw [if_neg c3] at H; have c3b0 : decide (x5_1 < (l0.length : Int)) = false := decide_eq_false c3; clear c3; obtain rfl := Option.some.inj H; go_wp2; go_ret; exact ⟨by first | rfl | (simp [errW_none, errW_some] <;> rfl) | (simp [*, errW_none, errW_some] <;> rfl), by exact bz HB.out⟩

/-! ### laws_FnExactShortWords: function 12 -/
def laws_FnExactShortWords.f (k : Nat) (a0 : Int) : Option (Bool) := (spec_ShortWords.f k a0).bind fun bt146 => ((impl_ShortWords.f k a0).bind fun bt150 => ((laws_eqStringS.f k bt150.1 bt146.1).bind fun t154 => (if t154 = true then (if (bt150.2 != bt146.2) = true then (none) else ((laws_markStringS.f k bt150.1 1).bind fun bt155 => ((laws_heldStringS.f k bt155.2 1).bind fun t157 => (if t157 < 0 then (none) else (if t157 = bt155.1 then ((impl_ShortWords.f k a0).bind fun bt158 => ((laws_eqStringS.f k bt158.1 bt146.1).bind fun t162 => (if t162 = true then (if (bt158.2 != bt146.2) = true then (none) else ((laws_heldStringS.f k bt155.2 1).bind fun t163 => (if t163 < 0 then (none) else (if t163 = bt155.1 then (some true) else (none))))) else (none)))) else (none)))))) else (none))))
theorem laws_FnExactShortWords.mono : ∀ a0 k, LeO (laws_FnExactShortWords.f k a0) (laws_FnExactShortWords.f (k + 1) a0) := by
 intro a0 k; unfold laws_FnExactShortWords.f; repeat' first
   | (with_reducible exact impl_ShortWords.mono _ _)
   | (with_reducible exact laws_eqStringS.mono _ _ _)
   | (with_reducible exact laws_heldStringS.mono _ _ _)
   | (with_reducible exact laws_markStringS.mono _ _ _)
   | (with_reducible exact spec_ShortWords.mono _ _)
   | (with_reducible exact LeO.refl _)
   | (with_reducible exact LeO.none _)
   | (with_reducible refine LeO.ite ?_ ?_)
   | (with_reducible refine LeO.bind ?_ (fun _ => ?_))
   | exact impl_ShortWords.mono _ _
   | exact laws_eqStringS.mono _ _ _
   | exact laws_heldStringS.mono _ _ _
   | exact laws_markStringS.mono _ _ _
   | exact spec_ShortWords.mono _ _
   | exact LeO.none _
   | refine LeO.ite ?_ ?_
   | refine LeO.bind ?_ (fun _ => ?_)
set_option maxHeartbeats 8000000 in
set_option maxRecDepth 100000 in
theorem laws_FnExactShortWords.calls (k : Nat) (a0 : Int) (r : Bool) (w : World) (h : laws_FnExactShortWords.f k a0 = some r) :
  Calls Try.prog 12 #[.int .i64 a0] w fun e w' => e = .returned (.bool r) ∧ Below w.heap.size w w' := by
 have HB := am (Below.refl w.heap.size w); have H : ((spec_ShortWords.f k a0).bind fun bt146 => ((impl_ShortWords.f k a0).bind fun bt150 => ((laws_eqStringS.f k bt150.1 bt146.1).bind fun t154 => (if t154 = true then (if (bt150.2 != bt146.2) = true then (none) else ((laws_markStringS.f k bt150.1 1).bind fun bt155 => ((laws_heldStringS.f k bt155.2 1).bind fun t157 => (if t157 < 0 then (none) else (if t157 = bt155.1 then ((impl_ShortWords.f k a0).bind fun bt158 => ((laws_eqStringS.f k bt158.1 bt146.1).bind fun t162 => (if t162 = true then (if (bt158.2 != bt146.2) = true then (none) else ((laws_heldStringS.f k bt155.2 1).bind fun t163 => (if t163 < 0 then (none) else (if t163 = bt155.1 then (some true) else (none))))) else (none)))) else (none)))))) else (none))))) = some r := h; clear h; replace H := Option.bind_eq_some_iff.mp H; obtain ⟨⟨t146, t147⟩, A20, H⟩ := H; (try dsimp only at H); have A2 := am A20; clear A20; replace H := Option.bind_eq_some_iff.mp H; obtain ⟨⟨t150, t151⟩, A30, H⟩ := H; (try dsimp only at H); have A3 := am A30; clear A30; replace H := Option.bind_eq_some_iff.mp H; obtain ⟨t154, A40, H⟩ := H; (try dsimp only at H); have A4 := am A40; clear A40; by_cases c5 : t154 = true
 ·subst c5
  have H1 : (if (t151 != t147) = true then (none) else ((laws_markStringS.f k t150 1).bind fun bt155 => ((laws_heldStringS.f k bt155.2 1).bind fun t157 => (if t157 < 0 then (none) else (if t157 = bt155.1 then ((impl_ShortWords.f k a0).bind fun bt158 => ((laws_eqStringS.f k bt158.1 t146).bind fun t162 => (if t162 = true then (if (bt158.2 != t147) = true then (none) else ((laws_heldStringS.f k bt155.2 1).bind fun t163 => (if t163 < 0 then (none) else (if t163 = bt155.1 then (some true) else (none))))) else (none)))) else (none)))))) = some r := by rw [if_pos rfl] at H; exact H
  clear H; have H := H1; clear H1; by_cases c6 : (t151 != t147) = true
  ·rw [if_pos c6] at H; exact absurd H (by simp)
  ·rw [if_neg c6] at H
   have c6b0 : (t151 != t147) = false := by simpa using c6
   (try (have c6b1 : decide (t151 = t147) = true := by simpa using c6)); (try (have c6b2 : (t151 == t147) = true := by simpa using c6)); clear c6; replace H := Option.bind_eq_some_iff.mp H; obtain ⟨⟨t155, t156⟩, A70, H⟩ := H; (try dsimp only at H); have A7 := am A70; clear A70; replace H := Option.bind_eq_some_iff.mp H; obtain ⟨t157, A80, H⟩ := H; (try dsimp only at H); have A8 := am A80; clear A80; by_cases c9 : t157 < 0
   ·rw [if_pos c9] at H; exact absurd H (by simp)
   ·rw [if_neg c9] at H; have c9b0 : decide (t157 < 0) = false := decide_eq_false c9; clear c9; by_cases c10 : t157 = t155
    ·rw [if_pos c10] at H; have c10b0 : (t157 == t155) = true := beq_iff_eq.mpr c10; have c10b1 : (t157 != t155) = false := bne_eq_false_iff_eq.mpr c10; clear c10; replace H := Option.bind_eq_some_iff.mp H; obtain ⟨⟨t158, t159⟩, A110, H⟩ := H; (try dsimp only at H); have A11 := am A110; clear A110; replace H := Option.bind_eq_some_iff.mp H; obtain ⟨t162, A120, H⟩ := H; (try dsimp only at H); have A12 := am A120; clear A120; by_cases c13 : t162 = true
     ·subst c13
      have H1 : (if (t159 != t147) = true then (none) else ((laws_heldStringS.f k t156 1).bind fun t163 => (if t163 < 0 then (none) else (if t163 = t155 then (some true) else (none))))) = some r := by rw [if_pos rfl] at H; exact H
      clear H; have H := H1; clear H1; by_cases c14 : (t159 != t147) = true
      ·rw [if_pos c14] at H; exact absurd H (by simp)
      ·rw [if_neg c14] at H
       have c14b0 : (t159 != t147) = false := by simpa using c14
       (try (have c14b1 : decide (t159 = t147) = true := by simpa using c14)); (try (have c14b2 : (t159 == t147) = true := by simpa using c14)); clear c14; replace H := Option.bind_eq_some_iff.mp H; obtain ⟨t163, A150, H⟩ := H; (try dsimp only at H); have A15 := am A150; clear A150; by_cases c16 : t163 < 0
       ·rw [if_pos c16] at H; exact absurd H (by simp)
       ·rw [if_neg c16] at H; have c16b0 : decide (t163 < 0) = false := decide_eq_false c16; clear c16; by_cases c17 : t163 = t155
        ·rw [if_pos c17] at H; have c17b0 : (t163 == t155) = true := beq_iff_eq.mpr c17; have c17b1 : (t163 != t155) = false := bne_eq_false_iff_eq.mpr c17; clear c17; obtain rfl := Option.some.inj H; go_enter Try.func12, Try.ntmps12; go_wp2_with (first | ((with_reducible refine gy 34 rfl ?_); refine gl Try.func34 #[.int .i64 a0] ?_; (with_reducible refine (spec_ShortWords.calls k a0 t146 t147 _ A2.out).mono ?_); rintro e w18 ⟨v148, rfl, ho0, hb⟩; refine ⟨_, rfl, ?_⟩; have n0_ := am (Kd.R_lower ho0 (below_size (bz HB.out))); have n1_ := hs HB hb; clear HB; revert n0_ n1_; intro HO149 HB; (try clear hb); (try clear hb2); (try clear hk); (try clear hi); (try clear ho0)) | ((with_reducible refine gy 35 rfl ?_); refine gl Try.func35 #[.int .i64 a0] ?_; (with_reducible refine (impl_ShortWords.calls k a0 t158 t159 _ A11.out).mono ?_); rintro e w24 ⟨v160, rfl, ho0, hb⟩; refine ⟨_, rfl, ?_⟩; have n0_ := el HO149 (Kd.R_base ho0) hb; have n1_ := el HO153 (Kd.R_base ho0) hb; have n2_ := am (Kd.R_lower (Kd.R_new' (Kd.R_new' ho0 (Kd.R_lt (rz HO149.out))) (Kd.R_lt (rz HO153.out))) (below_size (bz HB.out))); have n3_ := hs HB hb; clear HO149 HO153 HB; revert n0_ n1_ n2_ n3_; intro HO149 HO153 HO161 HB; (try clear hb); (try clear hb2); (try clear hk); (try clear hi); (try clear ho0); obtain ⟨Ao25, co25, eo25⟩ := Kd.R_slice HO161.out; subst eo25) | ((with_reducible refine gy 36 rfl ?_); refine gl Try.func36 #[.slice Ao25 t158.length co25, .slice Ao21 t146.length co21] ?_; (with_reducible refine (laws_eqStringS.calls k _ _ t158 _ _ t146 true _ ?side1 ?side2 ?side3 ?side4 A12.out).mono ?_); (case side1 => exact cc ((Kd.R_reads' HO161.out).2.2)); (case side2 => exact (Kd.R_reads' HO161.out).2.1); (case side3 => exact cc ((Kd.R_reads' HO149.out).2.2)); (case side4 => exact (Kd.R_reads' HO149.out).2.1); rintro e w' ⟨rfl, ⟨nd, rfl⟩⟩; refine ⟨_, rfl, ?_⟩) | ((with_reducible refine gy 37 rfl ?_); refine gl Try.func37 #[.slice Ao20 t150.length co20, .int .i64 1] ?_; (with_reducible refine (laws_markStringS.calls k (fun k_ => some k_ = (.slice Ao20 t150.length co20 : Value).ownBlock) (.slice Ao20 t150.length co20) t150 1 t155 t156 w _ ?side1 ?side2 A7.out).mono ?_); (case side1 => exact bw HB.out); (case side2 => exact Kd.R_tight rfl HO153.out); rintro e w22 ⟨rfl, hy0, hb, hkp⟩; refine ⟨_, rfl, ?_⟩; have n0_ := am (Kd.R_mono (ok' := fun k_ => NS Ao20 t150 co20 k_) (Kd.R_keptB (HO149.out) hkp (fun k_ hk_ hs_ => (hk_.2) hs_)) (fun k_ hk_ => hk_.1.2)); have n1_ := am (Kd.R_reok rfl hy0 (fun k_ e_ => HO153.out.1 k_ e_)); have n2_ := am (hb); clear HO149 HO153 HB; revert n0_ n1_ n2_; intro HO149 HO153 HB; (try clear hb); (try clear hkp); (try clear hy0)) | ((with_reducible refine gy 38 rfl ?_); refine goesL_ (some 57) rfl rfl Try.func38 (by kernel_rfl) rfl #[.slice Ao20 t156.length co20, .int .i64 1] rfl (by (try simp only [List.map_toArray, List.map_cons, List.map_nil]); first | done | (rw [show t156.length = t150.length from (Kd.R_reads' HO153.out).1.symm] <;> rfl) | rfl | (simp only [List.length_drop, List.length_take]; rfl)) ?_; (with_reducible refine (laws_heldStringS.calls k _ _ t156 1 t163 _ ?side1 ?side2 A15.out).mono ?_); (case side1 => exact cc ((Kd.R_reads' HO153.out).2.2)); (case side2 => rw [show t156.length = t150.length from (Kd.R_reads' HO153.out).1.symm]; exact (Kd.R_reads' HO153.out).2.1); rintro e w26 ⟨rfl, hb⟩; refine ⟨_, rfl, ?_⟩; have n0_ := rb HO149 hb; have n1_ := rb HO153 hb; have n2_ := rb HO161 hb; have n3_ := hs HB hb; clear HO149 HO153 HO161 HB; revert n0_ n1_ n2_ n3_; intro HO149 HO153 HO161 HB; (try clear hb); (try clear hb2); (try clear hk); (try clear hi)) | ((with_reducible refine gy 35 rfl ?_); refine gl Try.func35 #[.int .i64 a0] ?_; (with_reducible refine (impl_ShortWords.calls k a0 t150 t151 _ A3.out).mono ?_); rintro e w19 ⟨v152, rfl, ho0, hb⟩; refine ⟨_, rfl, ?_⟩; have n0_ := el HO149 (Kd.R_base ho0) hb; have n1_ := am (Kd.R_lower (Kd.R_new' ho0 (Kd.R_lt (rz HO149.out))) (below_size (bz HB.out))); have n2_ := hs HB hb; clear HO149 HB; revert n0_ n1_ n2_; intro HO149 HO153 HB; (try clear hb); (try clear hb2); (try clear hk); (try clear hi); (try clear ho0); obtain ⟨Ao20, co20, eo20⟩ := Kd.R_slice HO153.out; subst eo20; obtain ⟨Ao21, co21, eo21⟩ := Kd.R_slice HO149.out; subst eo21) | ((with_reducible refine gy 36 rfl ?_); refine gl Try.func36 #[.slice Ao20 t150.length co20, .slice Ao21 t146.length co21] ?_; (with_reducible refine (laws_eqStringS.calls k _ _ t150 _ _ t146 true _ ?side1 ?side2 ?side3 ?side4 A4.out).mono ?_); (case side1 => exact cc ((Kd.R_reads' HO153.out).2.2)); (case side2 => exact (Kd.R_reads' HO153.out).2.1); (case side3 => exact cc ((Kd.R_reads' HO149.out).2.2)); (case side4 => exact (Kd.R_reads' HO149.out).2.1); rintro e w' ⟨rfl, ⟨nd, rfl⟩⟩; refine ⟨_, rfl, ?_⟩) | ((with_reducible refine gy 38 rfl ?_); refine goesL_ (some 35) rfl rfl Try.func38 (by kernel_rfl) rfl #[.slice Ao20 t156.length co20, .int .i64 1] rfl (by (try simp only [List.map_toArray, List.map_cons, List.map_nil]); first | done | (rw [show t156.length = t150.length from (Kd.R_reads' HO153.out).1.symm] <;> rfl) | rfl | (simp only [List.length_drop, List.length_take]; rfl)) ?_; (with_reducible refine (laws_heldStringS.calls k _ _ t156 1 t157 _ ?side1 ?side2 A8.out).mono ?_); (case side1 => exact cc ((Kd.R_reads' HO153.out).2.2)); (case side2 => rw [show t156.length = t150.length from (Kd.R_reads' HO153.out).1.symm]; exact (Kd.R_reads' HO153.out).2.1); rintro e w23 ⟨rfl, hb⟩; refine ⟨_, rfl, ?_⟩; have n0_ := rb HO149 hb; have n1_ := rb HO153 hb; have n2_ := hs HB hb; clear HO149 HO153 HB; revert n0_ n1_ n2_; intro HO149 HO153 HB; (try clear hb); (try clear hb2); (try clear hk); (try clear hi))); go_ret; exact ⟨by first | rfl | (simp [errW_none, errW_some] <;> rfl) | (simp [*, errW_none, errW_some] <;> rfl), by exact bz HB.out⟩
        ·rw [if_neg c17] at H; exact absurd H (by simp)
     ·replace c13 := Bool.eq_false_iff.mpr c13; subst c13
      have H1 : (none) = some r := by rw [if_neg (show ¬ (false = true) by decide)] at H; exact H
      clear H; have H := H1; clear H1; exact absurd H (by simp)
    ·rw [if_neg c10] at H; exact absurd H (by simp)
 ·replace c5 := Bool.eq_false_iff.mpr c5; subst c5
  have H1 : (none) = some r := by rw [if_neg (show ¬ (false = true) by decide)] at H; exact H
  clear H; have H := H1; clear H1; exact absurd H (by simp)

/-- THE ONE PURE STATEMENT of laws_FnExactShortWords. -/
def laws_FnExactShortWords.Pure : Prop := ∀ (a0 : Int), (Lit.int .i64 a0).wf = true → ∃ k, laws_FnExactShortWords.f k a0 = some true
theorem laws_FnExactShortWords.walk (P : laws_FnExactShortWords.Pure) (a0 : Int) (w : World) (w0 : (Lit.int .i64 a0).wf = true) :
  Calls Try.prog 12 #[.int .i64 a0] w fun e w' => e = .returned (.bool true) ∧ Below w.heap.size w w' := by
 obtain ⟨k, h⟩ := P a0 w0; refine (laws_FnExactShortWords.calls k a0 true w  h).mono ?_; rintro e w' ⟨rfl, hd⟩; exact ⟨rfl, hd⟩

end Go.Proofs.Ythgkfakkpinbcaa.PFnExactShortWords
