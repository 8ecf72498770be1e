-- Written by a program (wip/myprint.py): the machine side of one law: each function that it reaches, as a plain function, and the proof that a call comes to just that.
import Derived.Test.YtmnfbnpclanafaaDoorPGPx0
import Derived.Test.YtmnfbnpclanafaaDoorPGPx1
namespace Go.Proofs.YtmnfbnpclanafaaDoor.PGP
open Go.RowKit Go.Proofs.YtmnfbnpclanafaaDoorW.PrintWords Go.Proofs.YtmnfbnpclanafaaDoorW.PrintLast Go.Proofs.YtmnfbnpclanafaaDoorW.PrintMore
attribute [local go_sem] max2_int min2_int max_two min_two max_three min_three max_four min_four   -- for this text's walks alone
set_option linter.unusedVariables false
set_option linter.unusedSimpArgs false

/-! ### spec_l13Cut: function 53 -/
def spec_l13Cut.l0 : Nat → ByteArray → Int → List ByteArray → Int → Int → Option (List ByteArray)
 | 0, _, _, _, _, _ => none
 | k + 1, x0, x1, x5, x6, x7 => if x7 ≤ (x0.size : Int) then (if x7 = (x0.size : Int) then (if 0 ≤ x6 then (if x6 ≤ x7 then (if x5.length < 8796093022208 then (spec_l13Cut.l0 k x0 x1 (x5 ++ [x0.extract (x6 : Int).toNat (x7 : Int).toNat]) (wrap64 (x7 + 1)) (wrap64 (x7 + 1))) else (none)) else (none)) else (none)) else (if 0 ≤ x7 then (if x7 < (x0.size : Int) then (if (bt x0 x7) = x1 then (if 0 ≤ x6 then (if x6 ≤ x7 then (if x5.length < 8796093022208 then (spec_l13Cut.l0 k x0 x1 (x5 ++ [x0.extract (x6 : Int).toNat (x7 : Int).toNat]) (wrap64 (x7 + 1)) (wrap64 (x7 + 1))) else (none)) else (none)) else (none)) else (spec_l13Cut.l0 k x0 x1 x5 x6 (wrap64 (x7 + 1)))) else (none)) else (none))) else (some x5)
def spec_l13Cut.f (k : Nat) (a0 : ByteArray) (a1 : Int) : Option (List ByteArray) := spec_l13Cut.l0 k a0 a1 (([] : List ByteArray)) 0 0
theorem spec_l13Cut.mono_l : ∀ k, (∀ y0 y1 y2 y3 y4, LeO (spec_l13Cut.l0 k y0 y1 y2 y3 y4) (spec_l13Cut.l0 (k + 1) y0 y1 y2 y3 y4))
 | 0 => fun _ _ _ _ _ r h => by simp [spec_l13Cut.l0] at h
 | k + 1 => by
  have ih0 := spec_l13Cut.mono_l k
  ·intro y0 y1 y2 y3 y4; unfold spec_l13Cut.l0; repeat' first
   | (with_reducible exact ih0 _ _ _ _ _)
   | (with_reducible exact LeO.refl _)
   | (with_reducible exact LeO.none _)
   | (with_reducible refine LeO.ite ?_ ?_)
   | (with_reducible refine LeO.bind ?_ (fun _ => ?_))
   | exact ih0 _ _ _ _ _
   | exact LeO.none _
   | refine LeO.ite ?_ ?_
   | refine LeO.bind ?_ (fun _ => ?_)
theorem spec_l13Cut.mono : ∀ a0 a1 k, LeO (spec_l13Cut.f k a0 a1) (spec_l13Cut.f (k + 1) a0 a1) := by
 intro a0 a1 k; have ih0 := spec_l13Cut.mono_l k; unfold spec_l13Cut.f; repeat' first
   | (with_reducible exact ih0 _ _ _ _ _)
   | (with_reducible exact LeO.refl _)
   | (with_reducible exact LeO.none _)
   | (with_reducible refine LeO.ite ?_ ?_)
   | (with_reducible refine LeO.bind ?_ (fun _ => ?_))
   | exact ih0 _ _ _ _ _
   | exact LeO.none _
   | refine LeO.ite ?_ ?_
   | refine LeO.bind ?_ (fun _ => ?_)
set_option maxHeartbeats 8000000 in
set_option maxRecDepth 100000 in
theorem spec_l13Cut.calls (k : Nat) (a0 : ByteArray) (a1 : Int) (r : List ByteArray) (w : World) (h : spec_l13Cut.f k a0 a1 = some r) :
  Calls Tryd.prog 53 #[.string a0, .int .u8 a1] w fun e w' => ∃ v0_ : Value, e = .returned (v0_) ∧ Kd.R Kd.string 9 w' w.heap.size (fun _ => True) v0_ r ∧ Below w.heap.size w w' := by
 have HB := am (Below.refl w.heap.size w); have H : (spec_l13Cut.l0 k a0 a1 (([] : List ByteArray)) 0 0) = some r := h; clear h; obtain ⟨y146, hy146⟩ : ∃ y_ : List ByteArray, y_ = (([] : List ByteArray)) := ⟨_, rfl⟩
 replace H : (spec_l13Cut.l0 k a0 a1 y146 0 0) = some r := by first | (rw [hy146]; with_reducible exact H) | (have H2_ := (Option.bind_some _ _).symm.trans H; rw [hy146]; with_reducible exact H2_) | (have H2_ := (Option.bind_some _ _).symm.trans H; with_reducible exact H2_) | with_reducible exact H | (rw [hy146]; exact H) | exact H
 have Ny146 := am hy146; clear hy146; have H' := am H; clear H; go_enter Tryd.func53, Tryd.ntmps53; go_wp2_with (first | ((with_reducible refine gx 8 rfl ?_); refine Kd.R_lit Kd.string _ 9 ?hg (N := 8) ?hd (xs := ([] : List ByteArray)) (inner := []) (ok := fun _ => True) (okp := fun _ => True) ?hr ?hp (fun _ hk => hk) trivial (Below.refl _ _) (Nat.le_refl _) (by simp) ?_; (case hd => rfl); (case hg => rfl); (case hr => first | (go_simp; done) | (go_simp; rfl)); (case hp => exact (Reps.none _ _)); intro v147 w3 ho4 hb hg_ hnew_; clear hg_ hnew_; (first | rw [← Ny146.out] at ho4 | (simp only [Int.reduceToNat] at ho4; rw [← Ny146.out] at ho4)); have n0_ := am (Kd.R_lower ho4 (below_size (bz HB.out))); have n1_ := hs HB hb; clear HB; revert n0_ n1_; intro HO148 HB; clear hb ho4)); go_loopg [5, 6, 7] k (fun kq v5 v6 v7 w' => ∃ (x5_1 : List ByteArray) (x6_1 : Int) (x7_1 : Int), v6 = .int .i64 x6_1 ∧ v7 = .int .i64 x7_1 ∧ Aside0 (spec_l13Cut.l0 kq a0 a1 x5_1 x6_1 x7_1 = some r) ∧ Aside0 (kq ≤ k) ∧ Aside0 (Kd.R Kd.string 9 w' w.heap.size (fun _ => True) v5 x5_1) ∧ Aside0 (Below w.heap.size w w'))
 case atStart => exact ⟨(y146), (0), (0), (by first | rfl | (simp; done) | (simp [*]; done)), (by first | rfl | (simp; done) | (simp [*]; done)), H', ⟨Nat.le_refl _⟩, ⟨rz HO148.out⟩, ⟨by exact bz HB.out⟩⟩
 case round =>
  clear H'; (try clear p2); obtain ⟨x5_1, x6_1, x7_1, rfl, rfl, HA, HK1, HO_5, HB⟩ := hrel
  cases gk with
  | zero => exact absurd HA.out (by simp [spec_l13Cut.l0])
  | succ k1 =>
   have H := HA.out; clear HA; simp only [spec_l13Cut.l0] at H; by_cases c5 : x7_1 ≤ (a0.size : Int)
   ·rw [if_pos c5] at H; have c5b0 : decide (x7_1 ≤ (a0.size : Int)) = true := decide_eq_true c5; clear c5; by_cases c6 : x7_1 = (a0.size : Int)
    ·rw [if_pos c6] at H; have c6b0 : (x7_1 == (a0.size : Int)) = true := beq_iff_eq.mpr c6; have c6b1 : (x7_1 != (a0.size : Int)) = false := bne_eq_false_iff_eq.mpr c6; clear c6; by_cases c7 : 0 ≤ x6_1
     ·rw [if_pos c7] at H; have c7b0 := eq_true c7; have c7b1 : decide (0 ≤ x6_1) = true := decide_eq_true c7; clear c7; by_cases c8 : x6_1 ≤ x7_1
      ·rw [if_pos c8] at H; have c8b0 := eq_true c8; have c8b1 : decide (x6_1 ≤ x7_1) = true := decide_eq_true c8; clear c8; have c9b0 := eq_true (da : x7_1 ≤ (a0.size : Int)); by_cases c10 : x5_1.length < 8796093022208
       ·rw [if_pos c10] at H; have LMc10 := am c10; clear c10; obtain ⟨y149, hy149⟩ : ∃ y_ : List ByteArray, y_ = (x5_1 ++ [a0.extract (x6_1 : Int).toNat (x7_1 : Int).toNat]) := ⟨_, rfl⟩
        replace H : (spec_l13Cut.l0 k1 a0 a1 y149 (wrap64 (x7_1 + 1)) (wrap64 (x7_1 + 1))) = some r := by first | (rw [hy149]; with_reducible exact H) | (have H2_ := (Option.bind_some _ _).symm.trans H; rw [hy149]; with_reducible exact H2_) | (have H2_ := (Option.bind_some _ _).symm.trans H; with_reducible exact H2_) | with_reducible exact H | (rw [hy149]; exact H) | exact H
        have Ny149 := am hy149; clear hy149; have H' := am H; clear H; go_wp2_with (first | ((with_reducible refine gate_builtin (b := .append) (xs := #[.tmp 26, .tmp 31]) rfl ?_); at_builtin; refine Kd.R_append Kd.string (w0 := w) w.heap.size rfl (.tmp 26) (.tmp 31) 56 9 (.string ⟨#[]⟩) 16 rfl Tryd.underlying56 info9 rfl (by decide) (by omega) u5 x5_1 (a0.extract (x6_1 : Int).toNat (x7_1 : Int).toNat) [.string (a0.extract (x6_1 : Int).toNat (x7_1 : Int).toNat)] (fun _ => True) (fun _ => False) rfl rfl ?aP (fun _ hk => hk.elim) ?aF ?aO ?aB ?aS ?aL ?_; (case aP => exact rfl); (case aB => exact (bz HB.out)); (case aF => exact (fun _ _ => trivial)); (case aO => exact (rz HO_5.out)); (case aS => exact (below_size (bz HB.out))); (case aL => have := LMc10.out; omega); intro v150 w11 ho hb hg hat; rw [← Ny149.out] at ho; have n0_ := am (hb); have n1_ := am (ho); clear HB HO_5; revert n0_ n1_; intro HB HO151; clear ho hb hg hat)); go_roundg k1
        case measure => have := HK1.out; omega
        case rel => exact ⟨(y149), (wrap64 (x7_1 + 1)), (wrap64 (x7_1 + 1)), (by first | rfl | (simp; done) | (simp [*]; done)), (by first | rfl | (simp; done) | (simp [*]; done)), H', ⟨by have := HK1.out; omega⟩, ⟨rz HO151.out⟩, ⟨by exact bz HB.out⟩⟩
       ·rw [if_neg c10] at H; exact absurd H (by simp)
      ·rw [if_neg c8] at H; exact absurd H (by simp)
     ·rw [if_neg c7] at H; exact absurd H (by simp)
    ·rw [if_neg c6] at H; have c6b0 : (x7_1 == (a0.size : Int)) = false := beq_eq_false_iff_ne.mpr c6; have c6b1 : (x7_1 != (a0.size : Int)) = true := bne_iff_ne.mpr c6; by_cases c12 : 0 ≤ x7_1
     ·rw [if_pos c12] at H; have c12b0 : decide (0 ≤ x7_1) = true := decide_eq_true c12; clear c12; by_cases c13 : x7_1 < (a0.size : Int)
      ·rw [if_pos c13] at H; have c13b0 : decide (x7_1 < (a0.size : Int)) = true := decide_eq_true c13; clear c13; by_cases c15 : (bt a0 x7_1) = a1
       ·rw [if_pos c15] at H; have c15b0 : ((bt a0 x7_1) == a1) = true := beq_iff_eq.mpr c15; have c15b1 : ((bt a0 x7_1) != a1) = false := bne_eq_false_iff_eq.mpr c15; clear c15; by_cases c16 : 0 ≤ x6_1
        ·rw [if_pos c16] at H; have c16b0 := eq_true c16; have c16b1 : decide (0 ≤ x6_1) = true := decide_eq_true c16; clear c16; by_cases c17 : x6_1 ≤ x7_1
         ·rw [if_pos c17] at H; have c17b0 := eq_true c17; have c17b1 : decide (x6_1 ≤ x7_1) = true := decide_eq_true c17; clear c17; have c18b0 := eq_true (da : x7_1 ≤ (a0.size : Int)); by_cases c19 : x5_1.length < 8796093022208
          ·rw [if_pos c19] at H; have LMc19 := am c19; clear c19; obtain ⟨y152, hy152⟩ : ∃ y_ : List ByteArray, y_ = (x5_1 ++ [a0.extract (x6_1 : Int).toNat (x7_1 : Int).toNat]) := ⟨_, rfl⟩
           replace H : (spec_l13Cut.l0 k1 a0 a1 y152 (wrap64 (x7_1 + 1)) (wrap64 (x7_1 + 1))) = some r := by first | (rw [hy152]; with_reducible exact H) | (have H2_ := (Option.bind_some _ _).symm.trans H; rw [hy152]; with_reducible exact H2_) | (have H2_ := (Option.bind_some _ _).symm.trans H; with_reducible exact H2_) | with_reducible exact H | (rw [hy152]; exact H) | exact H
           have Ny152 := am hy152; clear hy152; have H' := am H; clear H; have p14 : 0 ≤ (x7_1 : Int) := da; have q14 : x7_1 < (a0.size : Int) := da; have hx14 := bt_at a0 x7_1; replace p14 := eq_true p14; replace q14 := eq_true q14; go_wp2_with (first | ((with_reducible refine gate_builtin (b := .append) (xs := #[.tmp 26, .tmp 31]) rfl ?_); at_builtin; refine Kd.R_append Kd.string (w0 := w) w.heap.size rfl (.tmp 26) (.tmp 31) 56 9 (.string ⟨#[]⟩) 16 rfl Tryd.underlying56 info9 rfl (by decide) (by omega) u5 x5_1 (a0.extract (x6_1 : Int).toNat (x7_1 : Int).toNat) [.string (a0.extract (x6_1 : Int).toNat (x7_1 : Int).toNat)] (fun _ => True) (fun _ => False) rfl rfl ?aP (fun _ hk => hk.elim) ?aF ?aO ?aB ?aS ?aL ?_; (case aP => exact rfl); (case aB => exact (bz HB.out)); (case aF => exact (fun _ _ => trivial)); (case aO => exact (rz HO_5.out)); (case aS => exact (below_size (bz HB.out))); (case aL => have := LMc19.out; omega); intro v153 w20 ho hb hg hat; rw [← Ny152.out] at ho; have n0_ := am (hb); have n1_ := am (ho); clear HB HO_5; revert n0_ n1_; intro HB HO154; clear ho hb hg hat)); go_roundg k1
           case measure => have := HK1.out; omega
           case rel => exact ⟨(y152), (wrap64 (x7_1 + 1)), (wrap64 (x7_1 + 1)), (by first | rfl | (simp; done) | (simp [*]; done)), (by first | rfl | (simp; done) | (simp [*]; done)), H', ⟨by have := HK1.out; omega⟩, ⟨rz HO154.out⟩, ⟨by exact bz HB.out⟩⟩
          ·rw [if_neg c19] at H; exact absurd H (by simp)
         ·rw [if_neg c17] at H; exact absurd H (by simp)
        ·rw [if_neg c16] at H; exact absurd H (by simp)
       ·rw [if_neg c15] at H; have c15b0 : ((bt a0 x7_1) == a1) = false := beq_eq_false_iff_ne.mpr c15; have c15b1 : ((bt a0 x7_1) != a1) = true := bne_iff_ne.mpr c15; have H' := am H; clear H; have p14 : 0 ≤ (x7_1 : Int) := da; have q14 : x7_1 < (a0.size : Int) := da; have hx14 := bt_at a0 x7_1; replace p14 := eq_true p14; replace q14 := eq_true q14; go_wp2; go_roundg k1
        case measure => have := HK1.out; omega
        case rel => exact ⟨(x5_1), (x6_1), (wrap64 (x7_1 + 1)), (by first | rfl | (simp; done) | (simp [*]; done)), (by first | rfl | (simp; done) | (simp [*]; done)), H', ⟨by have := HK1.out; omega⟩, ⟨rz HO_5.out⟩, ⟨by exact bz HB.out⟩⟩
      ·rw [if_neg c13] at H; exact absurd H (by simp)
     ·rw [if_neg c12] at H; exact absurd H (by simp)
   ·rw [if_neg c5] at H; have c5b0 : decide (x7_1 ≤ (a0.size : Int)) = false := decide_eq_false c5; clear c5; obtain rfl := Option.some.inj H; go_wp2; go_ret; exact ⟨_, by first | rfl | (simp [errW_none, errW_some] <;> rfl) | (simp [*, errW_none, errW_some] <;> rfl), rz HO_5.out, by exact bz HB.out⟩

/-! ### spec_ParseCosts: function 19 -/
def spec_ParseCosts.l0 : Nat → List Int → List ByteArray → Int → Int → Option (List Int × Bool)
 | 0, _, _, _, _ => none
 | k + 1, x4, x14, x15, x16 => if x16 < x15 then (if 0 ≤ x16 then (if x16 < (x14.length : Int) then ((spec_ParseCost.f k (rdOf ByteArray.empty x14 x16)).bind fun bt162 => (if bt162.2 = true then (if x4.length < 17592186044416 then (spec_ParseCosts.l0 k (x4 ++ [bt162.1]) x14 x15 (wrap64 (x16 + 1))) else (none)) else (some ((([] : List Int)), false)))) else (none)) else (none)) else (some (x4, true))
def spec_ParseCosts.f (k : Nat) (a0 : ByteArray) : Option (List Int × Bool) := (some (([] : List Int) : List Int)).bind fun y155 => (if a0.toList = ([] : List UInt8) then (some (y155, true)) else ((spec_l13Cut.f k a0 32).bind fun t158 => (spec_ParseCosts.l0 k y155 t158 (t158.length : Int) 0)))
theorem spec_ParseCosts.mono_l : ∀ k, (∀ y0 y1 y2 y3, LeO (spec_ParseCosts.l0 k y0 y1 y2 y3) (spec_ParseCosts.l0 (k + 1) y0 y1 y2 y3))
 | 0 => fun _ _ _ _ r h => by simp [spec_ParseCosts.l0] at h
 | k + 1 => by
  have ih0 := spec_ParseCosts.mono_l k
  ·intro y0 y1 y2 y3; unfold spec_ParseCosts.l0; repeat' first
   | (with_reducible exact ih0 _ _ _ _)
   | (with_reducible exact spec_ParseCost.mono _ _)
   | (with_reducible exact spec_l13Cut.mono _ _ _)
   | (with_reducible exact LeO.refl _)
   | (with_reducible exact LeO.none _)
   | (with_reducible refine LeO.ite ?_ ?_)
   | (with_reducible refine LeO.bind ?_ (fun _ => ?_))
   | exact ih0 _ _ _ _
   | exact spec_ParseCost.mono _ _
   | exact spec_l13Cut.mono _ _ _
   | exact LeO.none _
   | refine LeO.ite ?_ ?_
   | refine LeO.bind ?_ (fun _ => ?_)
theorem spec_ParseCosts.mono : ∀ a0 k, LeO (spec_ParseCosts.f k a0) (spec_ParseCosts.f (k + 1) a0) := by
 intro a0 k; have ih0 := spec_ParseCosts.mono_l k; unfold spec_ParseCosts.f; repeat' first
   | (with_reducible exact ih0 _ _ _ _)
   | (with_reducible exact spec_ParseCost.mono _ _)
   | (with_reducible exact spec_l13Cut.mono _ _ _)
   | (with_reducible exact LeO.refl _)
   | (with_reducible exact LeO.none _)
   | (with_reducible refine LeO.ite ?_ ?_)
   | (with_reducible refine LeO.bind ?_ (fun _ => ?_))
   | exact ih0 _ _ _ _
   | exact spec_ParseCost.mono _ _
   | exact spec_l13Cut.mono _ _ _
   | exact LeO.none _
   | refine LeO.ite ?_ ?_
   | refine LeO.bind ?_ (fun _ => ?_)
set_option maxHeartbeats 8000000 in
set_option maxRecDepth 100000 in
theorem spec_ParseCosts.calls (k : Nat) (a0 : ByteArray) (r1 : List Int) (r2 : Bool) (w : World) (h : spec_ParseCosts.f k a0 = some (r1, r2)) :
  Calls Tryd.prog 19 #[.string a0] w fun e w' => ∃ v0_ : Value, e = .returned (.tuple #[v0_, .bool r2]) ∧ Kd.R (Kd.int .i64) 3 w' w.heap.size (fun _ => True) v0_ r1 ∧ Below w.heap.size w w' := by
 have HB := am (Below.refl w.heap.size w); have H : ((some (([] : List Int) : List Int)).bind fun y155 => (if a0.toList = ([] : List UInt8) then (some (y155, true)) else ((spec_l13Cut.f k a0 32).bind fun t158 => (spec_ParseCosts.l0 k y155 t158 (t158.length : Int) 0)))) = some (r1, r2) := h; clear h; obtain ⟨y155, hy155⟩ : ∃ y_ : List Int, y_ = (([] : List Int)) := ⟨_, rfl⟩
 replace H : (if a0.toList = ([] : List UInt8) then (some (y155, true)) else ((spec_l13Cut.f k a0 32).bind fun t158 => (spec_ParseCosts.l0 k y155 t158 (t158.length : Int) 0))) = some (r1, r2) := by first | (rw [hy155]; with_reducible exact H) | (have H2_ := (Option.bind_some _ _).symm.trans H; rw [hy155]; with_reducible exact H2_) | (have H2_ := (Option.bind_some _ _).symm.trans H; with_reducible exact H2_) | with_reducible exact H | (rw [hy155]; exact H) | exact H
 have Ny155 := am hy155; clear hy155; by_cases c2 : a0.toList = ([] : List UInt8)
 ·rw [if_pos c2] at H; have c2b0 : (a0.toList == ([] : List UInt8)) = true := beq_iff_eq.mpr c2; have c2b1 : (a0.toList != ([] : List UInt8)) = false := bne_eq_false_iff_eq.mpr c2; clear c2; simp only [Option.some.injEq, Prod.mk.injEq] at H; obtain ⟨rfl, rfl⟩ := H; go_enter Tryd.func19, Tryd.ntmps19; go_wp2_with (first | ((with_reducible refine gx 9 rfl ?_); refine Kd.R_lit (Kd.int .i64) _ 3 ?hg (N := 9) ?hd (xs := ([] : List Int)) (inner := []) (ok := fun _ => True) (okp := fun _ => True) ?hr ?hp (fun _ hk => hk) trivial (Below.refl _ _) (Nat.le_refl _) (by simp) ?_; (case hd => rfl); (case hg => rfl); (case hr => first | (go_simp; done) | (go_simp; rfl)); (case hp => exact (Reps.none _ _)); intro v156 w3 ho4 hb hg_ hnew_; clear hg_ hnew_; (first | rw [← Ny155.out] at ho4 | (simp only [Int.reduceToNat] at ho4; rw [← Ny155.out] at ho4)); have n0_ := am (Kd.R_lower ho4 (below_size (bz HB.out))); have n1_ := hs HB hb; clear HB; revert n0_ n1_; intro HO157 HB; clear hb ho4)); go_ret2; exact ⟨_, by first | rfl | (simp [errW_none, errW_some] <;> rfl) | (simp [*, errW_none, errW_some] <;> rfl), rz HO157.out, by exact bz HB.out⟩
 ·rw [if_neg c2] at H; have c2b0 : (a0.toList == ([] : List UInt8)) = false := beq_eq_false_iff_ne.mpr c2; have c2b1 : (a0.toList != ([] : List UInt8)) = true := bne_iff_ne.mpr c2; replace H := Option.bind_eq_some_iff.mp H; obtain ⟨t158, A50, H⟩ := H; (try dsimp only at H); have A5 := am A50; clear A50; have H' := am H; clear H; go_enter Tryd.func19, Tryd.ntmps19; go_wp2_with (first | ((with_reducible refine gx 9 rfl ?_); refine Kd.R_lit (Kd.int .i64) _ 3 ?hg (N := 9) ?hd (xs := ([] : List Int)) (inner := []) (ok := fun _ => True) (okp := fun _ => True) ?hr ?hp (fun _ hk => hk) trivial (Below.refl _ _) (Nat.le_refl _) (by simp) ?_; (case hd => rfl); (case hg => rfl); (case hr => first | (go_simp; done) | (go_simp; rfl)); (case hp => exact (Reps.none _ _)); intro v156 w6 ho7 hb hg_ hnew_; clear hg_ hnew_; (first | rw [← Ny155.out] at ho7 | (simp only [Int.reduceToNat] at ho7; rw [← Ny155.out] at ho7)); have n0_ := am (Kd.R_lower ho7 (below_size (bz HB.out))); have n1_ := hs HB hb; clear HB; revert n0_ n1_; intro HO157 HB; clear hb ho7) | ((with_reducible refine gy 53 rfl ?_); refine gl Tryd.func53 #[.string a0, .int .u8 32] ?_; (with_reducible refine (spec_l13Cut.calls k a0 32 t158 _ A5.out).mono ?_); rintro e w8 ⟨v159, rfl, ho0, hb⟩; refine ⟨_, rfl, ?_⟩; have n0_ := rb HO157 hb; have n1_ := am (Kd.R_lower ho0 (below_size (bz HB.out))); have n2_ := hs HB hb; clear HO157 HB; revert n0_ n1_ n2_; intro HO157 HO160 HB; (try clear hb); (try clear hb2); (try clear hk); (try clear hi); (try clear ho0); obtain ⟨Ao9, co9, eo9⟩ := Kd.R_slice HO160.out; subst eo9)); go_loopg [4, 16] k (fun kq v4 v16 w' => ∃ (x4_1 : List Int) (x16_1 : Int), v16 = .int .i64 x16_1 ∧ Aside0 (spec_ParseCosts.l0 kq x4_1 t158 (t158.length : Int) x16_1 = some (r1, r2)) ∧ Aside0 (kq ≤ k) ∧ Aside0 (Kd.R (Kd.int .i64) 3 w' w.heap.size (fun _ => True) v4 x4_1) ∧ Aside0 (Kd.R Kd.string 9 w' w.heap.size (fun _ => True) (.slice Ao9 t158.length co9) t158) ∧ Aside0 (Below w.heap.size w w'))
  case atStart => exact ⟨(y155), (0), (by first | rfl | (simp; done) | (simp [*]; done)), H', ⟨Nat.le_refl _⟩, ⟨rz HO157.out⟩, ⟨rz HO160.out⟩, ⟨by exact bz HB.out⟩⟩
  case round =>
   clear H'; (try clear c1); (try clear c2); (try clear c2b0); (try clear c2b1); (try clear p2); (try clear c5); obtain ⟨x4_1, x16_1, rfl, HA, HK1, HO_4, HO_14, HB⟩ := hrel
   cases gk with
   | zero => exact absurd HA.out (by simp [spec_ParseCosts.l0])
   | succ k1 =>
    have H := HA.out; clear HA; simp only [spec_ParseCosts.l0] at H; by_cases c10 : x16_1 < (t158.length : Int)
    ·rw [if_pos c10] at H; have c10b0 : decide (x16_1 < (t158.length : Int)) = true := decide_eq_true c10; clear c10; by_cases c11 : 0 ≤ x16_1
     ·rw [if_pos c11] at H; have c11b0 : decide (0 ≤ x16_1) = true := decide_eq_true c11; clear c11; by_cases c12 : x16_1 < (t158.length : Int)
      ·rw [if_pos c12] at H; have c12b0 : decide (x16_1 < (t158.length : Int)) = true := decide_eq_true c12; clear c12; replace H := Option.bind_eq_some_iff.mp H; obtain ⟨⟨t162, t163⟩, A130, H⟩ := H; (try dsimp only at H); have A13 := am A130; clear A130; by_cases c14 : t163 = true
       ·subst c14
        have H1 : (if x4_1.length < 17592186044416 then (spec_ParseCosts.l0 k1 (x4_1 ++ [t162]) t158 (t158.length : Int) (wrap64 (x16_1 + 1))) else (none)) = some (r1, r2) := by rw [if_pos rfl] at H; exact H
        clear H; have H := H1; clear H1; by_cases c15 : x4_1.length < 17592186044416
        ·rw [if_pos c15] at H; have LMc15 := am c15; clear c15; obtain ⟨y164, hy164⟩ : ∃ y_ : List Int, y_ = (x4_1 ++ [t162]) := ⟨_, rfl⟩
         replace H : (spec_ParseCosts.l0 k1 y164 t158 (t158.length : Int) (wrap64 (x16_1 + 1))) = some (r1, r2) := by first | (rw [hy164]; with_reducible exact H) | (have H2_ := (Option.bind_some _ _).symm.trans H; rw [hy164]; with_reducible exact H2_) | (have H2_ := (Option.bind_some _ _).symm.trans H; with_reducible exact H2_) | with_reducible exact H | (rw [hy164]; exact H) | exact H
         have Ny164 := am hy164; clear hy164; have H' := am H; clear H; have p161 : 0 ≤ (x16_1 : Int) := da; have q161 : x16_1 < (t158.length : Int) := da; obtain ⟨ad161, e161, hx161_0⟩ := Kd.at_string (Kd.R_reads' HO_14.out).2.2 x16_1 p161 q161; cases e161; replace p161 := eq_true p161; replace q161 := eq_true q161; go_wp2_with (first | ((with_reducible refine gy 17 rfl ?_); refine gl Tryd.func17 #[.string (rdOf ByteArray.empty t158 x16_1)] ?_; (with_reducible refine (spec_ParseCost.calls k1 (rdOf ByteArray.empty t158 x16_1) t162 true _ A13.out).mono ?_); rintro e w' ⟨rfl, ⟨nd, rfl⟩⟩; refine ⟨_, rfl, ?_⟩) | ((with_reducible refine gate_builtin (b := .append) (xs := #[.tmp 28, .tmp 30]) rfl ?_); at_builtin; refine Kd.R_append (Kd.int .i64) (w0 := w) w.heap.size rfl (.tmp 28) (.tmp 30) 24 3 (.int .i64 0) 8 rfl Tryd.underlying24 info3 rfl (by decide) (by omega) u4 x4_1 t162 [.int .i64 t162] (fun _ => True) (fun _ => False) rfl rfl ?aP (fun _ hk => hk.elim) ?aF ?aO ?aB ?aS ?aL ?_; (case aP => exact rfl); (case aB => exact (bz HB.out)); (case aF => exact (fun _ _ => trivial)); (case aO => exact (rz HO_4.out)); (case aS => exact (below_size (bz HB.out))); (case aL => have := LMc15.out; omega); intro v165 w16 ho hb hg hat; rw [← Ny164.out] at ho; have n0_ := am (Kd.R_over' (rz HO_14.out) (Kd.R_typed (rz HO_4.out)) (by decide) hg); have n1_ := am (hb); have n2_ := am (ho); clear HO_14 HB HO_4; revert n0_ n1_ n2_; intro HO_14 HB HO166; clear ho hb hg hat)); go_roundg k1
         case measure => have := HK1.out; omega
         case rel => exact ⟨(y164), (wrap64 (x16_1 + 1)), (by first | rfl | (simp; done) | (simp [*]; done)), H', ⟨by have := HK1.out; omega⟩, ⟨rz HO166.out⟩, ⟨rz HO_14.out⟩, ⟨by exact bz HB.out⟩⟩
        ·rw [if_neg c15] at H; exact absurd H (by simp)
       ·replace c14 := Bool.eq_false_iff.mpr c14; subst c14
        have H1 : (some ((([] : List Int)), false)) = some (r1, r2) := by rw [if_neg (show ¬ (false = true) by decide)] at H; exact H
        clear H; have H := H1; clear H1; obtain ⟨y167, hy167⟩ : ∃ y_ : List Int, y_ = (([] : List Int)) := ⟨_, rfl⟩
        replace H : (some (y167, false)) = some (r1, r2) := by first | (rw [hy167]; with_reducible exact H) | (have H2_ := (Option.bind_some _ _).symm.trans H; rw [hy167]; with_reducible exact H2_) | (have H2_ := (Option.bind_some _ _).symm.trans H; with_reducible exact H2_) | with_reducible exact H | (rw [hy167]; exact H) | exact H
        have Ny167 := am hy167; clear hy167; simp only [Option.some.injEq, Prod.mk.injEq] at H; obtain ⟨rfl, rfl⟩ := H; have p161 : 0 ≤ (x16_1 : Int) := da; have q161 : x16_1 < (t158.length : Int) := da; obtain ⟨ad161, e161, hx161_0⟩ := Kd.at_string (Kd.R_reads' HO_14.out).2.2 x16_1 p161 q161; cases e161; replace p161 := eq_true p161; replace q161 := eq_true q161; go_wp2_with (first | ((with_reducible refine gy 17 rfl ?_); refine gl Tryd.func17 #[.string (rdOf ByteArray.empty t158 x16_1)] ?_; (with_reducible refine (spec_ParseCost.calls k1 (rdOf ByteArray.empty t158 x16_1) t162 false _ A13.out).mono ?_); rintro e w' ⟨rfl, ⟨nd, rfl⟩⟩; refine ⟨_, rfl, ?_⟩) | ((with_reducible refine gx 27 rfl ?_); refine Kd.R_lit (Kd.int .i64) _ 3 ?hg (N := 27) ?hd (xs := ([] : List Int)) (inner := []) (ok := fun _ => True) (okp := fun _ => True) ?hr ?hp (fun _ hk => hk) trivial (Below.refl _ _) (Nat.le_refl _) (by simp) ?_; (case hd => rfl); (case hg => rfl); (case hr => first | (go_simp; done) | (go_simp; rfl)); (case hp => exact (Reps.none _ _)); intro v168 w17 ho18 hb hg_ hnew_; clear hg_ hnew_; (first | rw [← Ny167.out] at ho18 | (simp only [Int.reduceToNat] at ho18; rw [← Ny167.out] at ho18)); have n0_ := el HO_4 (Kd.R_base ho18) hb; have n1_ := rb HO_14 hb; have n2_ := am (Kd.R_lower (Kd.R_new' ho18 (Kd.R_lt (rz HO_4.out))) (below_size (bz HB.out))); have n3_ := hs HB hb; clear HO_4 HO_14 HB; revert n0_ n1_ n2_ n3_; intro HO_4 HO_14 HO169 HB; clear hb ho18)); go_ret2; exact ⟨_, by first | rfl | (simp [errW_none, errW_some] <;> rfl) | (simp [*, errW_none, errW_some] <;> rfl), rq (Kd.R_mono HO169.out (fun _ hk => trivial)), by exact bz HB.out⟩
      ·rw [if_neg c12] at H; exact absurd H (by simp)
     ·rw [if_neg c11] at H; exact absurd H (by simp)
    ·rw [if_neg c10] at H; have c10b0 : decide (x16_1 < (t158.length : Int)) = false := decide_eq_false c10; clear c10; simp only [Option.some.injEq, Prod.mk.injEq] at H; obtain ⟨rfl, rfl⟩ := H; go_wp2; go_ret2; exact ⟨_, by first | rfl | (simp [errW_none, errW_some] <;> rfl) | (simp [*, errW_none, errW_some] <;> rfl), rz HO_4.out, by exact bz HB.out⟩

/-! ### strings_Split: function 54 -/
def strings_Split.f (a0 : ByteArray) (a1 : ByteArray) : Option (List ByteArray) := if a0.size < 4294967281 ∧ 1 ≤ a1.size then some (Lib.splitB a1 0 (Lib.countB a0 a1) a0) else none
theorem strings_Split.own (w : World) (l : List ByteArray) (hl : l.length ≤ 4294967300) : Kd.R Kd.string 9 (w.alloc (.cells (l.map Value.string).toArray 9)) w.heap.size (fun _ => True) (.slice (some ⟨w.heap.size, 0, none⟩) l.length l.length) l := by
  refine Kd.R_of_own ⟨by simp [encs], .inr ⟨w.heap.size, l.length, _, rfl, Nat.le_refl _, blk_new w _, Nat.le_refl _, by unfold maxLen; omega, by simp, by simp [encs]; exact List.take_of_length_le (by simp)⟩⟩ (fun _ _ => trivial)
theorem strings_Split.calls (a0 : ByteArray) (a1 : ByteArray) (r : List ByteArray) (w : World) (h : strings_Split.f a0 a1 = some r) (hD : Door w) :
    Calls Tryd.prog 54 #[.string a0, .string a1] w fun e w' => ∃ v0_ : Value, e = .returned (v0_) ∧ Kd.R Kd.string 9 w' w.heap.size (fun _ => True) v0_ r ∧ Below w.heap.size w w' := by
  unfold strings_Split.f at h
  split at h
  · rename_i hh
    obtain rfl := Option.some.inj h
    obtain ⟨m, hm⟩ := hD.most
    have hlen : (Lib.splitB a1 0 (Lib.countB a0 a1) a0).length = Lib.countB a0 a1 + 1 := Lib.splitB_all a1 hh.2 0 _ a0 rfl
    have hcb : Lib.countB a0 a1 ≤ a0.size := Lib.countB_le a1 hh.2 _ a0 (Nat.le_refl _)
    refine (Tryd.strings_Split a0 a1 m w hh.1 hm hh.2).mono fun e w' ⟨he, hw⟩ => ⟨_, he, ?_, ?_⟩
    · rw [hw, ← hlen]
      exact strings_Split.own w _ (by omega)
    · rw [hw]
      exact below_alloc (Below.refl _ _) _
  · cases h


/-! ### impl_ParseCosts: function 20 -/
def impl_ParseCosts.l0 : Nat → List Int → List ByteArray → Int → Int → Option (List Int × Bool)
 | 0, _, _, _, _ => none
 | k + 1, x4, x14, x15, x16 => if x16 < x15 then (if 0 ≤ x16 then (if x16 < (x14.length : Int) then ((impl_ParseCost.f (rdOf ByteArray.empty x14 x16)).bind fun bt179 => (if bt179.2 = true then (if x4.length < 17592186044416 then (impl_ParseCosts.l0 k (x4 ++ [bt179.1]) x14 x15 (wrap64 (x16 + 1))) else (none)) else (some (([] : List Int), false)))) else (none)) else (none)) else (some (x4, true))
def impl_ParseCosts.f (k : Nat) (a0 : ByteArray) : Option (List Int × Bool) := (some (([] : List Int) : List Int)).bind fun y172 => (if a0.toList = ([] : List UInt8) then (some (y172, true)) else ((strings_Split.f a0 (⟨#[32]⟩ : ByteArray)).bind fun t175 => (impl_ParseCosts.l0 k y172 t175 (t175.length : Int) 0)))
theorem impl_ParseCosts.mono_l : ∀ k, (∀ y0 y1 y2 y3, LeO (impl_ParseCosts.l0 k y0 y1 y2 y3) (impl_ParseCosts.l0 (k + 1) y0 y1 y2 y3))
 | 0 => fun _ _ _ _ r h => by simp [impl_ParseCosts.l0] at h
 | k + 1 => by
  have ih0 := impl_ParseCosts.mono_l k
  ·intro y0 y1 y2 y3; unfold impl_ParseCosts.l0; repeat' first
   | (with_reducible exact ih0 _ _ _ _)
   | (with_reducible exact LeO.refl _)
   | (with_reducible exact LeO.none _)
   | (with_reducible refine LeO.ite ?_ ?_)
   | (with_reducible refine LeO.bind ?_ (fun _ => ?_))
   | exact ih0 _ _ _ _
   | exact LeO.none _
   | refine LeO.ite ?_ ?_
   | refine LeO.bind ?_ (fun _ => ?_)
theorem impl_ParseCosts.mono : ∀ a0 k, LeO (impl_ParseCosts.f k a0) (impl_ParseCosts.f (k + 1) a0) := by
 intro a0 k; have ih0 := impl_ParseCosts.mono_l k; unfold impl_ParseCosts.f; repeat' first
   | (with_reducible exact ih0 _ _ _ _)
   | (with_reducible exact LeO.refl _)
   | (with_reducible exact LeO.none _)
   | (with_reducible refine LeO.ite ?_ ?_)
   | (with_reducible refine LeO.bind ?_ (fun _ => ?_))
   | exact ih0 _ _ _ _
   | exact LeO.none _
   | refine LeO.ite ?_ ?_
   | refine LeO.bind ?_ (fun _ => ?_)
set_option maxHeartbeats 8000000 in
set_option maxRecDepth 100000 in
theorem impl_ParseCosts.calls (k : Nat) (a0 : ByteArray) (r1 : List Int) (r2 : Bool) (w : World) (h : impl_ParseCosts.f k a0 = some (r1, r2)) (hD : Door w) :
  Calls Tryd.prog 20 #[.string a0] w fun e w' => ∃ v0_ : Value, e = .returned (.tuple #[v0_, .bool r2]) ∧ Kd.R (Kd.int .i64) 3 w' w.heap.size (fun _ => True) v0_ r1 ∧ Below w.heap.size w w' := by
 have HD := am hD; clear hD; have HB := am (Below.refl w.heap.size w); have H : ((some (([] : List Int) : List Int)).bind fun y172 => (if a0.toList = ([] : List UInt8) then (some (y172, true)) else ((strings_Split.f a0 (⟨#[32]⟩ : ByteArray)).bind fun t175 => (impl_ParseCosts.l0 k y172 t175 (t175.length : Int) 0)))) = some (r1, r2) := h; clear h; obtain ⟨y172, hy172⟩ : ∃ y_ : List Int, y_ = (([] : List Int)) := ⟨_, rfl⟩
 replace H : (if a0.toList = ([] : List UInt8) then (some (y172, true)) else ((strings_Split.f a0 (⟨#[32]⟩ : ByteArray)).bind fun t175 => (impl_ParseCosts.l0 k y172 t175 (t175.length : Int) 0))) = some (r1, r2) := by first | (rw [hy172]; with_reducible exact H) | (have H2_ := (Option.bind_some _ _).symm.trans H; rw [hy172]; with_reducible exact H2_) | (have H2_ := (Option.bind_some _ _).symm.trans H; with_reducible exact H2_) | with_reducible exact H | (rw [hy172]; exact H) | exact H
 have Ny172 := am hy172; clear hy172; by_cases c2 : a0.toList = ([] : List UInt8)
 ·rw [if_pos c2] at H; have c2b0 : (a0.toList == ([] : List UInt8)) = true := beq_iff_eq.mpr c2; have c2b1 : (a0.toList != ([] : List UInt8)) = false := bne_eq_false_iff_eq.mpr c2; clear c2; simp only [Option.some.injEq, Prod.mk.injEq] at H; obtain ⟨rfl, rfl⟩ := H; go_enter Tryd.func20, Tryd.ntmps20; go_wp2_with (first | ((with_reducible refine gx 9 rfl ?_); refine Kd.R_lit (Kd.int .i64) _ 3 ?hg (N := 9) ?hd (xs := ([] : List Int)) (inner := []) (ok := fun _ => True) (okp := fun _ => True) ?hr ?hp (fun _ hk => hk) trivial (Below.refl _ _) (Nat.le_refl _) (by simp) ?_; (case hd => rfl); (case hg => rfl); (case hr => first | (go_simp; done) | (go_simp; rfl)); (case hp => exact (Reps.none _ _)); intro v173 w3 ho4 hb hg_ hnew_; clear hg_ hnew_; (first | rw [← Ny172.out] at ho4 | (simp only [Int.reduceToNat] at ho4; rw [← Ny172.out] at ho4)); have n0_ := am (Kd.R_lower ho4 (below_size (bz HB.out))); have n1_ := hs HB hb; clear HB; revert n0_ n1_; intro HO174 HB; clear hb ho4)); go_ret2; exact ⟨_, by first | rfl | (simp [errW_none, errW_some] <;> rfl) | (simp [*, errW_none, errW_some] <;> rfl), rz HO174.out, by exact bz HB.out⟩
 ·rw [if_neg c2] at H; have c2b0 : (a0.toList == ([] : List UInt8)) = false := beq_eq_false_iff_ne.mpr c2; have c2b1 : (a0.toList != ([] : List UInt8)) = true := bne_iff_ne.mpr c2; replace H := Option.bind_eq_some_iff.mp H; obtain ⟨t175, A50, H⟩ := H; (try dsimp only at H); have A5 := am A50; clear A50; have H' := am H; clear H; go_enter Tryd.func20, Tryd.ntmps20; go_wp2_with (first | ((with_reducible refine gx 9 rfl ?_); refine Kd.R_lit (Kd.int .i64) _ 3 ?hg (N := 9) ?hd (xs := ([] : List Int)) (inner := []) (ok := fun _ => True) (okp := fun _ => True) ?hr ?hp (fun _ hk => hk) trivial (Below.refl _ _) (Nat.le_refl _) (by simp) ?_; (case hd => rfl); (case hg => rfl); (case hr => first | (go_simp; done) | (go_simp; rfl)); (case hp => exact (Reps.none _ _)); intro v173 w6 ho7 hb hg_ hnew_; clear hg_ hnew_; (first | rw [← Ny172.out] at ho7 | (simp only [Int.reduceToNat] at ho7; rw [← Ny172.out] at ho7)); have n0_ := am (Kd.R_lower ho7 (below_size (bz HB.out))); have n1_ := hs HB hb; clear HB; revert n0_ n1_; intro HO174 HB; clear hb ho7) | ((with_reducible refine gy 54 rfl ?_); refine gl Tryd.func54 #[.string a0, .string (⟨#[32]⟩ : ByteArray)] ?_; (with_reducible refine (strings_Split.calls a0 (⟨#[32]⟩ : ByteArray) t175 _ A5.out ?sideD).mono ?_); (case sideD => exact door_up HD.out (bw HB.out)); rintro e w8 ⟨v176, rfl, ho0, hb⟩; refine ⟨_, rfl, ?_⟩; have n0_ := rb HO174 hb; have n1_ := am (Kd.R_lower ho0 (below_size (bz HB.out))); have n2_ := hs HB hb; clear HO174 HB; revert n0_ n1_ n2_; intro HO174 HO177 HB; (try clear hb); (try clear hb2); (try clear hk); (try clear hi); (try clear ho0); obtain ⟨Ao9, co9, eo9⟩ := Kd.R_slice HO177.out; subst eo9)); go_loopg [4, 16] k (fun kq v4 v16 w' => ∃ (x4_1 : List Int) (x16_1 : Int), v16 = .int .i64 x16_1 ∧ Aside0 (impl_ParseCosts.l0 kq x4_1 t175 (t175.length : Int) x16_1 = some (r1, r2)) ∧ Aside0 (kq ≤ k) ∧ Aside0 (Kd.R (Kd.int .i64) 3 w' w.heap.size (fun _ => True) v4 x4_1) ∧ Aside0 (Kd.R Kd.string 9 w' w.heap.size (fun _ => True) (.slice Ao9 t175.length co9) t175) ∧ Aside0 (Below w.heap.size w w'))
  case atStart => exact ⟨(y172), (0), (by first | rfl | (simp; done) | (simp [*]; done)), H', ⟨Nat.le_refl _⟩, ⟨rz HO174.out⟩, ⟨rz HO177.out⟩, ⟨by exact bz HB.out⟩⟩
  case round =>
   clear H'; (try clear c2); (try clear c2b0); (try clear c2b1); (try clear p2); (try clear c5); obtain ⟨x4_1, x16_1, rfl, HA, HK1, HO_4, HO_14, HB⟩ := hrel
   cases gk with
   | zero => exact absurd HA.out (by simp [impl_ParseCosts.l0])
   | succ k1 =>
    have H := HA.out; clear HA; simp only [impl_ParseCosts.l0] at H; by_cases c10 : x16_1 < (t175.length : Int)
    ·rw [if_pos c10] at H; have c10b0 : decide (x16_1 < (t175.length : Int)) = true := decide_eq_true c10; clear c10; by_cases c11 : 0 ≤ x16_1
     ·rw [if_pos c11] at H; have c11b0 : decide (0 ≤ x16_1) = true := decide_eq_true c11; clear c11; by_cases c12 : x16_1 < (t175.length : Int)
      ·rw [if_pos c12] at H; have c12b0 : decide (x16_1 < (t175.length : Int)) = true := decide_eq_true c12; clear c12; replace H := Option.bind_eq_some_iff.mp H; obtain ⟨⟨t179, t180⟩, A130, H⟩ := H; (try dsimp only at H); have A13 := am A130; clear A130; by_cases c14 : t180 = true
       ·subst c14
        have H1 : (if x4_1.length < 17592186044416 then (impl_ParseCosts.l0 k1 (x4_1 ++ [t179]) t175 (t175.length : Int) (wrap64 (x16_1 + 1))) else (none)) = some (r1, r2) := by rw [if_pos rfl] at H; exact H
        clear H; have H := H1; clear H1; by_cases c15 : x4_1.length < 17592186044416
        ·rw [if_pos c15] at H; have LMc15 := am c15; clear c15; obtain ⟨y181, hy181⟩ : ∃ y_ : List Int, y_ = (x4_1 ++ [t179]) := ⟨_, rfl⟩
         replace H : (impl_ParseCosts.l0 k1 y181 t175 (t175.length : Int) (wrap64 (x16_1 + 1))) = some (r1, r2) := by first | (rw [hy181]; with_reducible exact H) | (have H2_ := (Option.bind_some _ _).symm.trans H; rw [hy181]; with_reducible exact H2_) | (have H2_ := (Option.bind_some _ _).symm.trans H; with_reducible exact H2_) | with_reducible exact H | (rw [hy181]; exact H) | exact H
         have Ny181 := am hy181; clear hy181; have H' := am H; clear H; have p178 : 0 ≤ (x16_1 : Int) := da; have q178 : x16_1 < (t175.length : Int) := da; obtain ⟨ad178, e178, hx178_0⟩ := Kd.at_string (Kd.R_reads' HO_14.out).2.2 x16_1 p178 q178; cases e178; replace p178 := eq_true p178; replace q178 := eq_true q178; go_wp2_with (first | ((with_reducible refine gy 18 rfl ?_); refine gl Tryd.func18 #[.string (rdOf ByteArray.empty t175 x16_1)] ?_; (with_reducible refine (impl_ParseCost.calls (rdOf ByteArray.empty t175 x16_1) t179 true _ A13.out ?sideD).mono ?_); (case sideD => exact door_up HD.out (bw HB.out)); rintro e w16 ⟨rfl, hb⟩; refine ⟨_, rfl, ?_⟩; have n0_ := rb HO_4 hb; have n1_ := rb HO_14 hb; have n2_ := hs HB hb; clear HO_4 HO_14 HB; revert n0_ n1_ n2_; intro HO_4 HO_14 HB; (try clear hb); (try clear hb2); (try clear hk); (try clear hi)) | ((with_reducible refine gate_builtin (b := .append) (xs := #[.tmp 27, .tmp 29]) rfl ?_); at_builtin; refine Kd.R_append (Kd.int .i64) (w0 := w) w.heap.size rfl (.tmp 27) (.tmp 29) 24 3 (.int .i64 0) 8 rfl Tryd.underlying24 info3 rfl (by decide) (by omega) u4 x4_1 t179 [.int .i64 t179] (fun _ => True) (fun _ => False) rfl rfl ?aP (fun _ hk => hk.elim) ?aF ?aO ?aB ?aS ?aL ?_; (case aP => exact rfl); (case aB => exact (bz HB.out)); (case aF => exact (fun _ _ => trivial)); (case aO => exact (rz HO_4.out)); (case aS => exact (below_size (bz HB.out))); (case aL => have := LMc15.out; omega); intro v182 w17 ho hb hg hat; rw [← Ny181.out] at ho; have n0_ := am (Kd.R_over' (rz HO_14.out) (Kd.R_typed (rz HO_4.out)) (by decide) hg); have n1_ := am (hb); have n2_ := am (ho); clear HO_14 HB HO_4; revert n0_ n1_ n2_; intro HO_14 HB HO183; clear ho hb hg hat)); go_roundg k1
         case measure => have := HK1.out; omega
         case rel => exact ⟨(y181), (wrap64 (x16_1 + 1)), (by first | rfl | (simp; done) | (simp [*]; done)), H', ⟨by have := HK1.out; omega⟩, ⟨rz HO183.out⟩, ⟨rz HO_14.out⟩, ⟨by exact bz HB.out⟩⟩
        ·rw [if_neg c15] at H; exact absurd H (by simp)
       ·replace c14 := Bool.eq_false_iff.mpr c14; subst c14
        have H1 : (some (([] : List Int), false)) = some (r1, r2) := by rw [if_neg (show ¬ (false = true) by decide)] at H; exact H
        clear H; have H := H1; clear H1; simp only [Option.some.injEq, Prod.mk.injEq] at H; obtain ⟨rfl, rfl⟩ := H; have p178 : 0 ≤ (x16_1 : Int) := da; have q178 : x16_1 < (t175.length : Int) := da; obtain ⟨ad178, e178, hx178_0⟩ := Kd.at_string (Kd.R_reads' HO_14.out).2.2 x16_1 p178 q178; cases e178; replace p178 := eq_true p178; replace q178 := eq_true q178; go_wp2_with (first | ((with_reducible refine gy 18 rfl ?_); refine gl Tryd.func18 #[.string (rdOf ByteArray.empty t175 x16_1)] ?_; (with_reducible refine (impl_ParseCost.calls (rdOf ByteArray.empty t175 x16_1) t179 false _ A13.out ?sideD).mono ?_); (case sideD => exact door_up HD.out (bw HB.out)); rintro e w18 ⟨rfl, hb⟩; refine ⟨_, rfl, ?_⟩; have n0_ := rb HO_4 hb; have n1_ := rb HO_14 hb; have n2_ := hs HB hb; clear HO_4 HO_14 HB; revert n0_ n1_ n2_; intro HO_4 HO_14 HB; (try clear hb); (try clear hb2); (try clear hk); (try clear hi))); go_ret2; exact ⟨_, by first | rfl | (simp [errW_none, errW_some] <;> rfl) | (simp [*, errW_none, errW_some] <;> rfl), by first | exact Kd.R_nil _ _ _ _ _ | exact Kd.N_nil _ _ _ _ _ | exact Kd.V_nil _ _ _ _ _ | exact Kd.Q_nil _ _ _ _ _ | exact Kd.S_nil _ _ _ _ _, by exact bz HB.out⟩
      ·rw [if_neg c12] at H; exact absurd H (by simp)
     ·rw [if_neg c11] at H; exact absurd H (by simp)
    ·rw [if_neg c10] at H; have c10b0 : decide (x16_1 < (t175.length : Int)) = false := decide_eq_false c10; clear c10; simp only [Option.some.injEq, Prod.mk.injEq] at H; obtain ⟨rfl, rfl⟩ := H; go_wp2; go_ret2; exact ⟨_, by first | rfl | (simp [errW_none, errW_some] <;> rfl) | (simp [*, errW_none, errW_some] <;> rfl), rz HO_4.out, by exact bz HB.out⟩

end Go.Proofs.YtmnfbnpclanafaaDoor.PGP
