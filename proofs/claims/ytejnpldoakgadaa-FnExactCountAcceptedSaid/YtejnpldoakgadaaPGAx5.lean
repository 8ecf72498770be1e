-- Written by a program (wip/myprint.py): the machine side of one law: each function that it reaches, as a plain function, and the proof that a call comes to just that.
import Derived.Test.YtejnpldoakgadaaPGAx0
import Derived.Test.YtejnpldoakgadaaPGAx1
import Derived.Test.YtejnpldoakgadaaPGAx2
import Derived.Test.YtejnpldoakgadaaPGAx3
namespace Go.Proofs.Ytejnpldoakgadaa.PGA
open Go.RowKit Go.Proofs.YtejnpldoakgadaaW.PrintWords Go.Proofs.YtejnpldoakgadaaW.PrintLast Go.Proofs.YtejnpldoakgadaaW.PrintMore
attribute [local go_sem] max2_int min2_int max_two min_two max_three min_three max_four min_four   -- for this text's walks alone
set_option linter.unusedVariables false
set_option linter.unusedSimpArgs false

/-! ### spec_CountAccepted: function 35 -/
mutual
def spec_CountAccepted.j0 : Nat → Int → Bool → Int → List Int → List Int → List (S51) → Option (Int)
 | 0, _, _, _, _, _, _ => none
 | k + 1, x1, x15, x373000, x373001, x373002, x373003 => if x15 = true then (some (-1)) else ((spec_l4Words.f k x1).bind fun t375 => (spec_CountAccepted.l0 k 0 t375 (t375.length : Int) 0 x373000 x373001 x373002 x373003))
def spec_CountAccepted.l0 : Nat → Int → List ByteArray → Int → Int → Int → List Int → List Int → List (S51) → Option (Int)
 | 0, _, _, _, _, _, _, _, _ => none
 | k + 1, x5, x17, x18, x19, x373000, x373001, x373002, x373003 => if x19 < x18 then (if 0 ≤ x19 then (if x19 < (x17.length : Int) then ((spec_l4Cost.f k x373000 x373001 x373002 x373003 (rdOf ByteArray.empty x17 x19)).bind fun t379 => (if t379 < 1000000 then (spec_CountAccepted.l0 k (wrap64 (x5 + 1)) x17 x18 (wrap64 (x19 + 1)) x373000 x373001 x373002 x373003) else (spec_CountAccepted.l0 k x5 x17 x18 (wrap64 (x19 + 1)) x373000 x373001 x373002 x373003))) else (none)) else (none)) else (some x5)
end
def spec_CountAccepted.f (k : Nat) (a0_0 : Int) (l0_1 : List Int) (l0_2 : List Int) (l0_3 : List (S51)) (a1 : Int) : Option (Int) := (spec_AutomatonValid.f k a0_0 l0_1 l0_2 l0_3).bind fun t373 => (if t373 = true then ((spec_l1In.f a1 0 7).bind fun t374 => (spec_CountAccepted.j0 k a1 (!t374) a0_0 l0_1 l0_2 l0_3)) else (spec_CountAccepted.j0 k a1 true a0_0 l0_1 l0_2 l0_3))
theorem spec_CountAccepted.mono_l : ∀ k, (∀ y0 y1 y2 y3 y4 y5, LeO (spec_CountAccepted.j0 k y0 y1 y2 y3 y4 y5) (spec_CountAccepted.j0 (k + 1) y0 y1 y2 y3 y4 y5)) ∧ (∀ y0 y1 y2 y3 y4 y5 y6 y7, LeO (spec_CountAccepted.l0 k y0 y1 y2 y3 y4 y5 y6 y7) (spec_CountAccepted.l0 (k + 1) y0 y1 y2 y3 y4 y5 y6 y7))
 | 0 => ⟨fun _ _ _ _ _ _ r h => by simp [spec_CountAccepted.j0] at h, fun _ _ _ _ _ _ _ _ r h => by simp [spec_CountAccepted.l0] at h⟩
 | k + 1 => by
  obtain ⟨ih0, ih1⟩ := spec_CountAccepted.mono_l k; refine ⟨?_, ?_⟩
  ·intro y0 y1 y2 y3 y4 y5; unfold spec_CountAccepted.j0; repeat' first
   | (with_reducible exact ih0 _ _ _ _ _ _)
   | (with_reducible exact ih1 _ _ _ _ _ _ _ _)
   | (with_reducible exact spec_AutomatonValid.mono _ _ _ _ _)
   | (with_reducible exact spec_l4Cost.mono _ _ _ _ _ _)
   | (with_reducible exact spec_l4Words.mono _ _)
   | (with_reducible exact LeO.refl _)
   | (with_reducible exact LeO.none _)
   | (with_reducible refine LeO.ite ?_ ?_)
   | (with_reducible refine LeO.bind ?_ (fun _ => ?_))
   | exact ih0 _ _ _ _ _ _
   | exact ih1 _ _ _ _ _ _ _ _
   | exact spec_AutomatonValid.mono _ _ _ _ _
   | exact spec_l4Cost.mono _ _ _ _ _ _
   | exact spec_l4Words.mono _ _
   | exact LeO.none _
   | refine LeO.ite ?_ ?_
   | refine LeO.bind ?_ (fun _ => ?_)
  ·intro y0 y1 y2 y3 y4 y5 y6 y7; unfold spec_CountAccepted.l0; repeat' first
   | (with_reducible exact ih0 _ _ _ _ _ _)
   | (with_reducible exact ih1 _ _ _ _ _ _ _ _)
   | (with_reducible exact spec_AutomatonValid.mono _ _ _ _ _)
   | (with_reducible exact spec_l4Cost.mono _ _ _ _ _ _)
   | (with_reducible exact spec_l4Words.mono _ _)
   | (with_reducible exact LeO.refl _)
   | (with_reducible exact LeO.none _)
   | (with_reducible refine LeO.ite ?_ ?_)
   | (with_reducible refine LeO.bind ?_ (fun _ => ?_))
   | exact ih0 _ _ _ _ _ _
   | exact ih1 _ _ _ _ _ _ _ _
   | exact spec_AutomatonValid.mono _ _ _ _ _
   | exact spec_l4Cost.mono _ _ _ _ _ _
   | exact spec_l4Words.mono _ _
   | exact LeO.none _
   | refine LeO.ite ?_ ?_
   | refine LeO.bind ?_ (fun _ => ?_)
theorem spec_CountAccepted.mono : ∀ a0 a1 a2 a3 a4 k, LeO (spec_CountAccepted.f k a0 a1 a2 a3 a4) (spec_CountAccepted.f (k + 1) a0 a1 a2 a3 a4) := by
 intro a0 a1 a2 a3 a4 k; obtain ⟨ih0, ih1⟩ := spec_CountAccepted.mono_l k; unfold spec_CountAccepted.f; repeat' first
   | (with_reducible exact ih0 _ _ _ _ _ _)
   | (with_reducible exact ih1 _ _ _ _ _ _ _ _)
   | (with_reducible exact spec_AutomatonValid.mono _ _ _ _ _)
   | (with_reducible exact spec_l4Cost.mono _ _ _ _ _ _)
   | (with_reducible exact spec_l4Words.mono _ _)
   | (with_reducible exact LeO.refl _)
   | (with_reducible exact LeO.none _)
   | (with_reducible refine LeO.ite ?_ ?_)
   | (with_reducible refine LeO.bind ?_ (fun _ => ?_))
   | exact ih0 _ _ _ _ _ _
   | exact ih1 _ _ _ _ _ _ _ _
   | exact spec_AutomatonValid.mono _ _ _ _ _
   | exact spec_l4Cost.mono _ _ _ _ _ _
   | exact spec_l4Words.mono _ _
   | exact LeO.none _
   | refine LeO.ite ?_ ?_
   | refine LeO.bind ?_ (fun _ => ?_)
set_option maxHeartbeats 8000000 in
set_option maxRecDepth 100000 in
theorem spec_CountAccepted.calls (k : Nat) (a0_0 : Int) (A0_1 : Option Addr) (c0_1 : Nat) (l0_1 : List Int) (A0_2 : Option Addr) (c0_2 : Nat) (l0_2 : List Int) (A0_3 : Option Addr) (c0_3 : Nat) (l0_3 : List (S51)) (a1 : Int) (r : Int) (w : World) (hr0_1 : Kd.C (Kd.int .i64) w A0_1 l0_1.length l0_1) (hc0_1 : l0_1.length ≤ c0_1) (hr0_2 : Kd.C (Kd.int .i64) w A0_2 l0_2.length l0_2) (hc0_2 : l0_2.length ≤ c0_2) (hr0_3 : Kd.C k51 w A0_3 l0_3.length l0_3) (hc0_3 : l0_3.length ≤ c0_3) (h : spec_CountAccepted.f k a0_0 l0_1 l0_2 l0_3 a1 = some r) :
  Calls Try.prog 35 #[.agg #[.int .i64 a0_0, .slice A0_1 l0_1.length c0_1, .slice A0_2 l0_2.length c0_2, .slice A0_3 l0_3.length c0_3], .int .i64 a1] w fun e w' => e = .returned (.int .i64 r) ∧ Below w.heap.size w w' := by
 have hu30 := Try.underlying30; have HR0_1 := am hr0_1; have HC0_1 := am hc0_1; clear hr0_1 hc0_1; have HR0_2 := am hr0_2; have HC0_2 := am hc0_2; clear hr0_2 hc0_2; have HR0_3 := am hr0_3; have HC0_3 := am hc0_3; clear hr0_3 hc0_3; have HB := am (Below.refl w.heap.size w); have H : ((spec_AutomatonValid.f k a0_0 l0_1 l0_2 l0_3).bind fun t373 => (if t373 = true then ((spec_l1In.f a1 0 7).bind fun t374 => (spec_CountAccepted.j0 k a1 (!t374) a0_0 l0_1 l0_2 l0_3)) else (spec_CountAccepted.j0 k a1 true a0_0 l0_1 l0_2 l0_3))) = some r := h; clear h; have HC3 := am H; clear H; go_enter Try.func35, Try.ntmps35; go_upto_region 1 with (first | ((with_reducible refine gx 2 rfl ?_); refine be (cs := #[.int .i64 a0_0, .slice A0_1 l0_1.length c0_1, .slice A0_2 l0_2.length c0_2, .slice A0_3 l0_3.length c0_3]) (t := 30) ?_; intro gb372 hg w4 hbox hb; have n0_ := hs HB hb; have n1_ := am (hbox); have n2_ := gs hg (bz HB.out); have n3_ := gs hg (bz HB.out); clear HB; revert n0_ n1_ n2_ n3_; intro HB BK372 GW372 GE372; clear hb hbox hg)); (try simp only [Act.put, List.setIfInBounds_toArray, List.set_cons_zero, List.set_cons_succ]); go_cut [15] (fun v15 wc => ∃ (kq : Nat) (x15_2 : Bool), v15 = .bool x15_2 ∧ Aside0 (spec_CountAccepted.j0 kq a1 x15_2 a0_0 l0_1 l0_2 l0_3 = some r) ∧ Aside0 (kq ≤ k) ∧ Aside0 (wc.heap[gb372]? = some (.cells #[.int .i64 a0_0, (.slice A0_1 l0_1.length c0_1), (.slice A0_2 l0_2.length c0_2), (.slice A0_3 l0_3.length c0_3)] 30 (0, 0))) ∧ Aside0 (Below w.heap.size w wc))
 case first =>
  have H := HC3.out; clear HC3; replace H := Option.bind_eq_some_iff.mp H; obtain ⟨t373, A50, H⟩ := H; (try dsimp only at H); have A5 := am A50; clear A50; by_cases c6 : t373 = true
  ·subst c6
   have H1 : ((spec_l1In.f a1 0 7).bind fun t374 => (spec_CountAccepted.j0 k a1 (!t374) a0_0 l0_1 l0_2 l0_3)) = some r := by rw [if_pos rfl] at H; exact H
   clear H; have H := H1; clear H1; replace H := Option.bind_eq_some_iff.mp H; obtain ⟨t374, A70, H⟩ := H; (try dsimp only at H); have A7 := am A70; clear A70; have H' := am H; clear H; have hz8 := zf4 BK372.out; go_wp2_with (first | ((with_reducible refine gy 12 rfl ?_); refine gl Try.func12 #[.agg #[.int .i64 a0_0, .slice A0_1 l0_1.length c0_1, .slice A0_2 l0_2.length c0_2, .slice A0_3 l0_3.length c0_3]] ?_; (with_reducible refine (spec_AutomatonValid.calls k a0_0 _ _ l0_1 _ _ l0_2 _ _ l0_3 true _ ?side1 ?side2 ?side3 ?side4 ?side5 ?side6 A5.out).mono ?_); (case side1 => exact cc (Kd.C_below HR0_1.out HB.out)); (case side2 => exact HC0_1.out); (case side3 => exact cc (Kd.C_below HR0_2.out HB.out)); (case side4 => exact HC0_2.out); (case side5 => exact cc (Kd.C_below HR0_3.out HB.out)); (case side6 => exact HC0_3.out); rintro e w9 ⟨rfl, hb⟩; refine ⟨_, rfl, ?_⟩; have n0_ := bk BK372 hb; have n1_ := hs HB hb; clear BK372 HB; revert n0_ n1_; intro BK372 HB; (try clear hb); (try clear hb2); (try clear hk); (try clear hi)) | (go_at_call 39; (with_reducible refine (spec_l1In.calls a1 0 7 t374 _ A7.out).mono ?_); rintro e w' ⟨rfl, ⟨nd, rfl⟩⟩)); go_meet
   case rel => exact ⟨_, (!t374), (by first | rfl | (simp; done) | (simp [*]; done)), H', ⟨by first | omega | exact Nat.le_refl _⟩, ⟨kz BK372.out⟩, ⟨by exact bw HB.out⟩⟩
  ·replace c6 := Bool.eq_false_iff.mpr c6; subst c6
   have H1 : (spec_CountAccepted.j0 k a1 true a0_0 l0_1 l0_2 l0_3) = some r := by rw [if_neg (show ¬ (false = true) by decide)] at H; exact H
   clear H; have H := H1; clear H1; have H' := am H; clear H; have hz10 := zf4 BK372.out; go_wp2_with (first | ((with_reducible refine gy 12 rfl ?_); refine gl Try.func12 #[.agg #[.int .i64 a0_0, .slice A0_1 l0_1.length c0_1, .slice A0_2 l0_2.length c0_2, .slice A0_3 l0_3.length c0_3]] ?_; (with_reducible refine (spec_AutomatonValid.calls k a0_0 _ _ l0_1 _ _ l0_2 _ _ l0_3 false _ ?side1 ?side2 ?side3 ?side4 ?side5 ?side6 A5.out).mono ?_); (case side1 => exact cc (Kd.C_below HR0_1.out HB.out)); (case side2 => exact HC0_1.out); (case side3 => exact cc (Kd.C_below HR0_2.out HB.out)); (case side4 => exact HC0_2.out); (case side5 => exact cc (Kd.C_below HR0_3.out HB.out)); (case side6 => exact HC0_3.out); rintro e w11 ⟨rfl, hb⟩; refine ⟨_, rfl, ?_⟩; have n0_ := bk BK372 hb; have n1_ := hs HB hb; clear BK372 HB; revert n0_ n1_; intro BK372 HB; (try clear hb); (try clear hb2); (try clear hk); (try clear hi))); go_meet
   case rel => exact ⟨_, (true), (by first | rfl | (simp; done) | (simp [*]; done)), H', ⟨by first | omega | exact Nat.le_refl _⟩, ⟨kz BK372.out⟩, ⟨by exact bw HB.out⟩⟩
 case rest =>
  clear HC3; (try clear c1); (try clear p2); (try clear c3); (try clear c6); obtain ⟨kq, x15_2, rfl, HA, HJ2, BK372, HB⟩ := hcut
  cases kq with
  | zero => exact absurd HA.out (by simp [spec_CountAccepted.j0])
  | succ kj2 =>
   have H := HA.out; clear HA; simp only [spec_CountAccepted.j0] at H; by_cases c12 : x15_2 = true
   ·subst c12
    have H1 : (some (-1)) = some r := by rw [if_pos rfl] at H; exact H
    clear H; have H := H1; clear H1; obtain rfl := Option.some.inj H; go_wp2; go_ret; exact ⟨by first | rfl | (simp [errW_none, errW_some] <;> rfl) | (simp [*, errW_none, errW_some] <;> rfl), by exact bw HB.out⟩
   ·replace c12 := Bool.eq_false_iff.mpr c12; subst c12
    have H1 : ((spec_l4Words.f kj2 a1).bind fun t375 => (spec_CountAccepted.l0 kj2 0 t375 (t375.length : Int) 0 a0_0 l0_1 l0_2 l0_3)) = some r := by rw [if_neg (show ¬ (false = true) by decide)] at H; exact H
    clear H; have H := H1; clear H1; replace H := Option.bind_eq_some_iff.mp H; obtain ⟨t375, A130, H⟩ := H; (try dsimp only at H); have A13 := am A130; clear A130; have H' := am H; clear H; go_wp2_with (first | ((with_reducible refine gy 70 rfl ?_); refine gl Try.func70 #[.int .i64 a1] ?_; (with_reducible refine (spec_l4Words.calls kj2 a1 t375 _ A13.out).mono ?_); rintro e w14 ⟨v376, rfl, ho0, hb⟩; refine ⟨_, rfl, ?_⟩; have n0_ := am (Kd.R_lower ho0 (below_size (bw HB.out))); have n1_ := bk BK372 hb; have n2_ := hs HB hb; clear BK372 HB; revert n0_ n1_ n2_; intro HO377 BK372 HB; (try clear hb); (try clear hb2); (try clear hk); (try clear hi); (try clear ho0); obtain ⟨Ao15, co15, eo15⟩ := Kd.R_slice HO377.out; subst eo15)); go_loopg [5, 19] kj2 (fun kq v5 v19 w' => ∃ (x5_2 : Int) (x19_2 : Int), v5 = .int .i64 x5_2 ∧ v19 = .int .i64 x19_2 ∧ Aside0 (spec_CountAccepted.l0 kq x5_2 t375 (t375.length : Int) x19_2 a0_0 l0_1 l0_2 l0_3 = some r) ∧ Aside0 (kq ≤ kj2) ∧ Aside0 (Kd.R Kd.string 9 w' w.heap.size (fun _ => True) (.slice Ao15 t375.length co15) t375) ∧ Aside0 (w'.heap[gb372]? = some (.cells #[.int .i64 a0_0, (.slice A0_1 l0_1.length c0_1), (.slice A0_2 l0_2.length c0_2), (.slice A0_3 l0_3.length c0_3)] 30 (0, 0))) ∧ Aside0 (Below w.heap.size w w'))
    case atStart => exact ⟨(0), (0), (by first | rfl | (simp; done) | (simp [*]; done)), (by first | rfl | (simp; done) | (simp [*]; done)), H', ⟨Nat.le_refl _⟩, ⟨rz HO377.out⟩, ⟨kz BK372.out⟩, ⟨by exact bw HB.out⟩⟩
    case round =>
     clear H'; (try clear c1); (try clear p2); (try clear c3); (try clear c6); (try clear c7); (try clear c12); (try clear p2); obtain ⟨x5_2, x19_2, rfl, rfl, HA, HK2, HO_17, BK372, HB⟩ := hrel
     cases gk with
     | zero => exact absurd HA.out (by simp [spec_CountAccepted.l0])
     | succ k2 =>
      have H := HA.out; clear HA; simp only [spec_CountAccepted.l0] at H; by_cases c16 : x19_2 < (t375.length : Int)
      ·rw [if_pos c16] at H; have c16b0 : decide (x19_2 < (t375.length : Int)) = true := decide_eq_true c16; clear c16; by_cases c17 : 0 ≤ x19_2
       ·rw [if_pos c17] at H; have c17b0 : decide (0 ≤ x19_2) = true := decide_eq_true c17; clear c17; by_cases c18 : x19_2 < (t375.length : Int)
        ·rw [if_pos c18] at H; have c18b0 : decide (x19_2 < (t375.length : Int)) = true := decide_eq_true c18; clear c18; replace H := Option.bind_eq_some_iff.mp H; obtain ⟨t379, A190, H⟩ := H; (try dsimp only at H); have A19 := am A190; clear A190; by_cases c20 : t379 < 1000000
         ·rw [if_pos c20] at H; have c20b0 : decide (t379 < 1000000) = true := decide_eq_true c20; clear c20; have H' := am H; clear H; have p378 : 0 ≤ (x19_2 : Int) := da; have q378 : x19_2 < (t375.length : Int) := da; obtain ⟨ad378, e378, hx378_0⟩ := Kd.at_string (Kd.R_reads' HO_17.out).2.2 x19_2 p378 q378; cases e378; replace p378 := eq_true p378; replace q378 := eq_true q378; have hz21 := zf4 BK372.out; go_wp2_with (first | ((with_reducible refine gy 68 rfl ?_); refine gl Try.func68 #[.agg #[.int .i64 a0_0, .slice A0_1 l0_1.length c0_1, .slice A0_2 l0_2.length c0_2, .slice A0_3 l0_3.length c0_3], .string (rdOf ByteArray.empty t375 x19_2)] ?_; (with_reducible refine (spec_l4Cost.calls k2 a0_0 _ _ l0_1 _ _ l0_2 _ _ l0_3 (rdOf ByteArray.empty t375 x19_2) t379 _ ?side1 ?side2 ?side3 ?side4 ?side5 ?side6 A19.out).mono ?_); (case side1 => exact cc (Kd.C_below HR0_1.out HB.out)); (case side2 => exact HC0_1.out); (case side3 => exact cc (Kd.C_below HR0_2.out HB.out)); (case side4 => exact HC0_2.out); (case side5 => exact cc (Kd.C_below HR0_3.out HB.out)); (case side6 => exact HC0_3.out); rintro e w22 ⟨rfl, hb⟩; refine ⟨_, rfl, ?_⟩; have n0_ := rb HO_17 hb; have n1_ := bk BK372 hb; have n2_ := hs HB hb; clear HO_17 BK372 HB; revert n0_ n1_ n2_; intro HO_17 BK372 HB; (try clear hb); (try clear hb2); (try clear hk); (try clear hi))); go_roundg k2
          case measure => have := HJ2.out; have := HK2.out; omega
          case rel => exact ⟨(wrap64 (x5_2 + 1)), (wrap64 (x19_2 + 1)), (by first | rfl | (simp; done) | (simp [*]; done)), (by first | rfl | (simp; done) | (simp [*]; done)), H', ⟨by have := HJ2.out; have := HK2.out; omega⟩, ⟨rz HO_17.out⟩, ⟨kz BK372.out⟩, ⟨by exact bw HB.out⟩⟩
         ·rw [if_neg c20] at H; have c20b0 : decide (t379 < 1000000) = false := decide_eq_false c20; clear c20; have H' := am H; clear H; have p378 : 0 ≤ (x19_2 : Int) := da; have q378 : x19_2 < (t375.length : Int) := da; obtain ⟨ad378, e378, hx378_0⟩ := Kd.at_string (Kd.R_reads' HO_17.out).2.2 x19_2 p378 q378; cases e378; replace p378 := eq_true p378; replace q378 := eq_true q378; have hz23 := zf4 BK372.out; go_wp2_with (first | ((with_reducible refine gy 68 rfl ?_); refine gl Try.func68 #[.agg #[.int .i64 a0_0, .slice A0_1 l0_1.length c0_1, .slice A0_2 l0_2.length c0_2, .slice A0_3 l0_3.length c0_3], .string (rdOf ByteArray.empty t375 x19_2)] ?_; (with_reducible refine (spec_l4Cost.calls k2 a0_0 _ _ l0_1 _ _ l0_2 _ _ l0_3 (rdOf ByteArray.empty t375 x19_2) t379 _ ?side1 ?side2 ?side3 ?side4 ?side5 ?side6 A19.out).mono ?_); (case side1 => exact cc (Kd.C_below HR0_1.out HB.out)); (case side2 => exact HC0_1.out); (case side3 => exact cc (Kd.C_below HR0_2.out HB.out)); (case side4 => exact HC0_2.out); (case side5 => exact cc (Kd.C_below HR0_3.out HB.out)); (case side6 => exact HC0_3.out); rintro e w24 ⟨rfl, hb⟩; refine ⟨_, rfl, ?_⟩; have n0_ := rb HO_17 hb; have n1_ := bk BK372 hb; have n2_ := hs HB hb; clear HO_17 BK372 HB; revert n0_ n1_ n2_; intro HO_17 BK372 HB; (try clear hb); (try clear hb2); (try clear hk); (try clear hi))); go_roundg k2
          case measure => have := HJ2.out; have := HK2.out; omega
          case rel => exact ⟨(x5_2), (wrap64 (x19_2 + 1)), (by first | rfl | (simp; done) | (simp [*]; done)), (by first | rfl | (simp; done) | (simp [*]; done)), H', ⟨by have := HJ2.out; have := HK2.out; omega⟩, ⟨rz HO_17.out⟩, ⟨kz BK372.out⟩, ⟨by exact bw HB.out⟩⟩
        ·rw [if_neg c18] at H; exact absurd H (by simp)
       ·rw [if_neg c17] at H; exact absurd H (by simp)
      ·rw [if_neg c16] at H; have c16b0 : decide (x19_2 < (t375.length : Int)) = false := decide_eq_false c16; clear c16; obtain rfl := Option.some.inj H; go_wp2; go_ret; exact ⟨by first | rfl | (simp [errW_none, errW_some] <;> rfl) | (simp [*, errW_none, errW_some] <;> rfl), by exact bw HB.out⟩

/-! ### impl_CountAccepted: function 36 -/
mutual
def impl_CountAccepted.j0 : Nat → List ByteArray → Bool → Int → List Int → List Int → List (S51) → Option (Int)
 | 0, _, _, _, _, _, _ => none
 | k + 1, x5, x21, x381000, x381001, x381002, x381003 => if x21 = true then (some (-1)) else (impl_CountAccepted.l0 k 0 x5 (x5.length : Int) 0 x381000 x381001 x381002 x381003)
def impl_CountAccepted.l0 : Nat → Int → List ByteArray → Int → Int → Int → List Int → List Int → List (S51) → Option (Int)
 | 0, _, _, _, _, _, _, _, _ => none
 | k + 1, x7, x22, x23, x24, x381000, x381001, x381002, x381003 => if x24 < x23 then (if 0 ≤ x24 then (if x24 < (x22.length : Int) then ((impl_CostOf.f k x381000 x381001 x381002 x381003 (rdOf ByteArray.empty x22 x24)).bind fun t387 => (if t387 < 1000000 then (impl_CountAccepted.l0 k (wrap64 (x7 + 1)) x22 x23 (wrap64 (x24 + 1)) x381000 x381001 x381002 x381003) else (impl_CountAccepted.l0 k x7 x22 x23 (wrap64 (x24 + 1)) x381000 x381001 x381002 x381003))) else (none)) else (none)) else (some x7)
end
def impl_CountAccepted.f (k : Nat) (a0_0 : Int) (l0_1 : List Int) (l0_2 : List Int) (l0_3 : List (S51)) (a1 : Int) : Option (Int) := (impl_ShortWords.f k a1).bind fun bt381 => (if bt381.2 = true then ((impl_AutomatonValid.f k a0_0 l0_1 l0_2 l0_3).bind fun t385 => (impl_CountAccepted.j0 k bt381.1 (!t385) a0_0 l0_1 l0_2 l0_3)) else (impl_CountAccepted.j0 k bt381.1 true a0_0 l0_1 l0_2 l0_3))
theorem impl_CountAccepted.mono_l : ∀ k, (∀ y0 y1 y2 y3 y4 y5, LeO (impl_CountAccepted.j0 k y0 y1 y2 y3 y4 y5) (impl_CountAccepted.j0 (k + 1) y0 y1 y2 y3 y4 y5)) ∧ (∀ y0 y1 y2 y3 y4 y5 y6 y7, LeO (impl_CountAccepted.l0 k y0 y1 y2 y3 y4 y5 y6 y7) (impl_CountAccepted.l0 (k + 1) y0 y1 y2 y3 y4 y5 y6 y7))
 | 0 => ⟨fun _ _ _ _ _ _ r h => by simp [impl_CountAccepted.j0] at h, fun _ _ _ _ _ _ _ _ r h => by simp [impl_CountAccepted.l0] at h⟩
 | k + 1 => by
  obtain ⟨ih0, ih1⟩ := impl_CountAccepted.mono_l k; refine ⟨?_, ?_⟩
  ·intro y0 y1 y2 y3 y4 y5; unfold impl_CountAccepted.j0; repeat' first
   | (with_reducible exact ih0 _ _ _ _ _ _)
   | (with_reducible exact ih1 _ _ _ _ _ _ _ _)
   | (with_reducible exact impl_AutomatonValid.mono _ _ _ _ _)
   | (with_reducible exact impl_CostOf.mono _ _ _ _ _ _)
   | (with_reducible exact impl_ShortWords.mono _ _)
   | (with_reducible exact LeO.refl _)
   | (with_reducible exact LeO.none _)
   | (with_reducible refine LeO.ite ?_ ?_)
   | (with_reducible refine LeO.bind ?_ (fun _ => ?_))
   | exact ih0 _ _ _ _ _ _
   | exact ih1 _ _ _ _ _ _ _ _
   | exact impl_AutomatonValid.mono _ _ _ _ _
   | exact impl_CostOf.mono _ _ _ _ _ _
   | exact impl_ShortWords.mono _ _
   | exact LeO.none _
   | refine LeO.ite ?_ ?_
   | refine LeO.bind ?_ (fun _ => ?_)
  ·intro y0 y1 y2 y3 y4 y5 y6 y7; unfold impl_CountAccepted.l0; repeat' first
   | (with_reducible exact ih0 _ _ _ _ _ _)
   | (with_reducible exact ih1 _ _ _ _ _ _ _ _)
   | (with_reducible exact impl_AutomatonValid.mono _ _ _ _ _)
   | (with_reducible exact impl_CostOf.mono _ _ _ _ _ _)
   | (with_reducible exact impl_ShortWords.mono _ _)
   | (with_reducible exact LeO.refl _)
   | (with_reducible exact LeO.none _)
   | (with_reducible refine LeO.ite ?_ ?_)
   | (with_reducible refine LeO.bind ?_ (fun _ => ?_))
   | exact ih0 _ _ _ _ _ _
   | exact ih1 _ _ _ _ _ _ _ _
   | exact impl_AutomatonValid.mono _ _ _ _ _
   | exact impl_CostOf.mono _ _ _ _ _ _
   | exact impl_ShortWords.mono _ _
   | exact LeO.none _
   | refine LeO.ite ?_ ?_
   | refine LeO.bind ?_ (fun _ => ?_)
theorem impl_CountAccepted.mono : ∀ a0 a1 a2 a3 a4 k, LeO (impl_CountAccepted.f k a0 a1 a2 a3 a4) (impl_CountAccepted.f (k + 1) a0 a1 a2 a3 a4) := by
 intro a0 a1 a2 a3 a4 k; obtain ⟨ih0, ih1⟩ := impl_CountAccepted.mono_l k; unfold impl_CountAccepted.f; repeat' first
   | (with_reducible exact ih0 _ _ _ _ _ _)
   | (with_reducible exact ih1 _ _ _ _ _ _ _ _)
   | (with_reducible exact impl_AutomatonValid.mono _ _ _ _ _)
   | (with_reducible exact impl_CostOf.mono _ _ _ _ _ _)
   | (with_reducible exact impl_ShortWords.mono _ _)
   | (with_reducible exact LeO.refl _)
   | (with_reducible exact LeO.none _)
   | (with_reducible refine LeO.ite ?_ ?_)
   | (with_reducible refine LeO.bind ?_ (fun _ => ?_))
   | exact ih0 _ _ _ _ _ _
   | exact ih1 _ _ _ _ _ _ _ _
   | exact impl_AutomatonValid.mono _ _ _ _ _
   | exact impl_CostOf.mono _ _ _ _ _ _
   | exact impl_ShortWords.mono _ _
   | exact LeO.none _
   | refine LeO.ite ?_ ?_
   | refine LeO.bind ?_ (fun _ => ?_)
set_option maxHeartbeats 8000000 in
set_option maxRecDepth 100000 in
theorem impl_CountAccepted.calls (k : Nat) (a0_0 : Int) (A0_1 : Option Addr) (c0_1 : Nat) (l0_1 : List Int) (A0_2 : Option Addr) (c0_2 : Nat) (l0_2 : List Int) (A0_3 : Option Addr) (c0_3 : Nat) (l0_3 : List (S51)) (a1 : Int) (r : Int) (w : World) (hr0_1 : Kd.C (Kd.int .i64) w A0_1 l0_1.length l0_1) (hc0_1 : l0_1.length ≤ c0_1) (hr0_2 : Kd.C (Kd.int .i64) w A0_2 l0_2.length l0_2) (hc0_2 : l0_2.length ≤ c0_2) (hr0_3 : Kd.C k51 w A0_3 l0_3.length l0_3) (hc0_3 : l0_3.length ≤ c0_3) (h : impl_CountAccepted.f k a0_0 l0_1 l0_2 l0_3 a1 = some r) :
  Calls Try.prog 36 #[.agg #[.int .i64 a0_0, .slice A0_1 l0_1.length c0_1, .slice A0_2 l0_2.length c0_2, .slice A0_3 l0_3.length c0_3], .int .i64 a1] w fun e w' => e = .returned (.int .i64 r) ∧ Below w.heap.size w w' := by
 have hu30 := Try.underlying30; have HR0_1 := am hr0_1; have HC0_1 := am hc0_1; clear hr0_1 hc0_1; have HR0_2 := am hr0_2; have HC0_2 := am hc0_2; clear hr0_2 hc0_2; have HR0_3 := am hr0_3; have HC0_3 := am hc0_3; clear hr0_3 hc0_3; have HB := am (Below.refl w.heap.size w); have H : ((impl_ShortWords.f k a1).bind fun bt381 => (if bt381.2 = true then ((impl_AutomatonValid.f k a0_0 l0_1 l0_2 l0_3).bind fun t385 => (impl_CountAccepted.j0 k bt381.1 (!t385) a0_0 l0_1 l0_2 l0_3)) else (impl_CountAccepted.j0 k bt381.1 true a0_0 l0_1 l0_2 l0_3))) = some r := h; clear h; replace H := Option.bind_eq_some_iff.mp H; obtain ⟨⟨t381, t382⟩, A30, H⟩ := H; (try dsimp only at H); have A3 := am A30; clear A30; have HC4 := am H; clear H; go_enter Try.func36, Try.ntmps36; go_upto_region 2 with (first | ((with_reducible refine gx 2 rfl ?_); refine be (cs := #[.int .i64 a0_0, .slice A0_1 l0_1.length c0_1, .slice A0_2 l0_2.length c0_2, .slice A0_3 l0_3.length c0_3]) (t := 30) ?_; intro gb380 hg w5 hbox hb; have n0_ := hs HB hb; have n1_ := am (hbox); have n2_ := gs hg (bz HB.out); have n3_ := gs hg (bz HB.out); clear HB; revert n0_ n1_ n2_ n3_; intro HB BK380 GW380 GE380; clear hb hbox hg) | ((with_reducible refine gy 71 rfl ?_); refine gl Try.func71 #[.int .i64 a1] ?_; (with_reducible refine (impl_ShortWords.calls k a1 t381 t382 _ A3.out).mono ?_); rintro e w6 ⟨v383, rfl, ho0, hb⟩; refine ⟨_, rfl, ?_⟩; have n0_ := am (Kd.R_lower ho0 (below_size (bw HB.out))); have n1_ := bk BK380 hb; have n2_ := hs HB hb; clear BK380 HB; revert n0_ n1_ n2_; intro HO384 BK380 HB; (try clear hb); (try clear hb2); (try clear hk); (try clear hi); (try clear ho0))); (try simp only [Act.put, List.setIfInBounds_toArray, List.set_cons_zero, List.set_cons_succ]); go_cut [21] (fun v21 wc => ∃ (kq : Nat) (x21_3 : Bool), v21 = .bool x21_3 ∧ Aside0 (impl_CountAccepted.j0 kq t381 x21_3 a0_0 l0_1 l0_2 l0_3 = some r) ∧ Aside0 (kq ≤ k) ∧ Aside0 (Kd.R Kd.string 9 wc w.heap.size (fun _ => True) v383 t381) ∧ Aside0 (wc.heap[gb380]? = some (.cells #[.int .i64 a0_0, (.slice A0_1 l0_1.length c0_1), (.slice A0_2 l0_2.length c0_2), (.slice A0_3 l0_3.length c0_3)] 30 (0, 0))) ∧ Aside0 (Below w.heap.size w wc))
 case first =>
  have H := HC4.out; clear HC4; by_cases c7 : t382 = true
  ·subst c7
   have H1 : ((impl_AutomatonValid.f k a0_0 l0_1 l0_2 l0_3).bind fun t385 => (impl_CountAccepted.j0 k t381 (!t385) a0_0 l0_1 l0_2 l0_3)) = some r := by rw [if_pos rfl] at H; exact H
   clear H; have H := H1; clear H1; replace H := Option.bind_eq_some_iff.mp H; obtain ⟨t385, A80, H⟩ := H; (try dsimp only at H); have A8 := am A80; clear A80; have H' := am H; clear H; have hz9 := zf4 BK380.out; go_wp2_with (first | (go_at_call 14; (with_reducible refine (impl_AutomatonValid.calls k a0_0 _ _ l0_1 _ _ l0_2 _ _ l0_3 t385 _ ?side1 ?side2 ?side3 ?side4 ?side5 ?side6 A8.out).mono ?_); (case side1 => exact cc (Kd.C_below HR0_1.out HB.out)); (case side2 => exact HC0_1.out); (case side3 => exact cc (Kd.C_below HR0_2.out HB.out)); (case side4 => exact HC0_2.out); (case side5 => exact cc (Kd.C_below HR0_3.out HB.out)); (case side6 => exact HC0_3.out); rintro e w10 ⟨rfl, hb⟩; have n0_ := rb HO384 hb; have n1_ := bk BK380 hb; have n2_ := hs HB hb; clear HO384 BK380 HB; revert n0_ n1_ n2_; intro HO384 BK380 HB; (try clear hb); (try clear hb2); (try clear hk); (try clear hi))); go_meet
   case rel => exact ⟨_, (!t385), (by first | rfl | (simp; done) | (simp [*]; done)), H', ⟨by first | omega | exact Nat.le_refl _⟩, ⟨rz HO384.out⟩, ⟨kz BK380.out⟩, ⟨by exact bw HB.out⟩⟩
  ·replace c7 := Bool.eq_false_iff.mpr c7; subst c7
   have H1 : (impl_CountAccepted.j0 k t381 true a0_0 l0_1 l0_2 l0_3) = some r := by rw [if_neg (show ¬ (false = true) by decide)] at H; exact H
   clear H; have H := H1; clear H1; have H' := am H; clear H; go_wp2; go_meet
   case rel => exact ⟨_, (true), (by first | rfl | (simp; done) | (simp [*]; done)), H', ⟨by first | omega | exact Nat.le_refl _⟩, ⟨rz HO384.out⟩, ⟨kz BK380.out⟩, ⟨by exact bw HB.out⟩⟩
 case rest =>
  clear HC4; (try clear p2); (try clear c3); (try clear c7); obtain ⟨kq, x21_3, rfl, HA, HJ3, HO_5, BK380, HB⟩ := hcut
  cases kq with
  | zero => exact absurd HA.out (by simp [impl_CountAccepted.j0])
  | succ kj3 =>
   have H := HA.out; clear HA; simp only [impl_CountAccepted.j0] at H; by_cases c11 : x21_3 = true
   ·subst c11
    have H1 : (some (-1)) = some r := by rw [if_pos rfl] at H; exact H
    clear H; have H := H1; clear H1; obtain rfl := Option.some.inj H; go_wp2; go_ret; exact ⟨by first | rfl | (simp [errW_none, errW_some] <;> rfl) | (simp [*, errW_none, errW_some] <;> rfl), by exact bw HB.out⟩
   ·replace c11 := Bool.eq_false_iff.mpr c11; subst c11
    have H1 : (impl_CountAccepted.l0 kj3 0 t381 (t381.length : Int) 0 a0_0 l0_1 l0_2 l0_3) = some r := by rw [if_neg (show ¬ (false = true) by decide)] at H; exact H
    clear H; have H := H1; clear H1; have H' := am H; clear H; obtain ⟨Ao12, co12, eo12⟩ := Kd.R_slice HO_5.out; subst eo12; go_wp2; go_loopg [7, 24] kj3 (fun kq v7 v24 w' => ∃ (x7_2 : Int) (x24_2 : Int), v7 = .int .i64 x7_2 ∧ v24 = .int .i64 x24_2 ∧ Aside0 (impl_CountAccepted.l0 kq x7_2 t381 (t381.length : Int) x24_2 a0_0 l0_1 l0_2 l0_3 = some r) ∧ Aside0 (kq ≤ kj3) ∧ Aside0 (Kd.R Kd.string 9 w' w.heap.size (fun _ => True) (.slice Ao12 t381.length co12) t381) ∧ Aside0 (w'.heap[gb380]? = some (.cells #[.int .i64 a0_0, (.slice A0_1 l0_1.length c0_1), (.slice A0_2 l0_2.length c0_2), (.slice A0_3 l0_3.length c0_3)] 30 (0, 0))) ∧ Aside0 (Below w.heap.size w w'))
    case atStart => exact ⟨(0), (0), (by first | rfl | (simp; done) | (simp [*]; done)), (by first | rfl | (simp; done) | (simp [*]; done)), H', ⟨Nat.le_refl _⟩, ⟨rz HO_5.out⟩, ⟨kz BK380.out⟩, ⟨by exact bw HB.out⟩⟩
    case round =>
     clear H'; (try clear c1); (try clear p2); (try clear c3); (try clear c7); (try clear c11); (try clear p2); obtain ⟨x7_2, x24_2, rfl, rfl, HA, HK2, HO_22, BK380, HB⟩ := hrel
     cases gk with
     | zero => exact absurd HA.out (by simp [impl_CountAccepted.l0])
     | succ k2 =>
      have H := HA.out; clear HA; simp only [impl_CountAccepted.l0] at H; by_cases c13 : x24_2 < (t381.length : Int)
      ·rw [if_pos c13] at H; have c13b0 : decide (x24_2 < (t381.length : Int)) = true := decide_eq_true c13; clear c13; by_cases c14 : 0 ≤ x24_2
       ·rw [if_pos c14] at H; have c14b0 : decide (0 ≤ x24_2) = true := decide_eq_true c14; clear c14; by_cases c15 : x24_2 < (t381.length : Int)
        ·rw [if_pos c15] at H; have c15b0 : decide (x24_2 < (t381.length : Int)) = true := decide_eq_true c15; clear c15; replace H := Option.bind_eq_some_iff.mp H; obtain ⟨t387, A160, H⟩ := H; (try dsimp only at H); have A16 := am A160; clear A160; by_cases c17 : t387 < 1000000
         ·rw [if_pos c17] at H; have c17b0 : decide (t387 < 1000000) = true := decide_eq_true c17; clear c17; have H' := am H; clear H; have p386 : 0 ≤ (x24_2 : Int) := da; have q386 : x24_2 < (t381.length : Int) := da; obtain ⟨ad386, e386, hx386_0⟩ := Kd.at_string (Kd.R_reads' HO_22.out).2.2 x24_2 p386 q386; cases e386; replace p386 := eq_true p386; replace q386 := eq_true q386; have hz18 := zf4 BK380.out; go_wp2_with (first | ((with_reducible refine gy 32 rfl ?_); refine gl Try.func32 #[.agg #[.int .i64 a0_0, .slice A0_1 l0_1.length c0_1, .slice A0_2 l0_2.length c0_2, .slice A0_3 l0_3.length c0_3], .string (rdOf ByteArray.empty t381 x24_2)] ?_; (with_reducible refine (impl_CostOf.calls k2 a0_0 _ _ l0_1 _ _ l0_2 _ _ l0_3 (rdOf ByteArray.empty t381 x24_2) t387 _ ?side1 ?side2 ?side3 ?side4 ?side5 ?side6 A16.out).mono ?_); (case side1 => exact cc (Kd.C_below HR0_1.out HB.out)); (case side2 => exact HC0_1.out); (case side3 => exact cc (Kd.C_below HR0_2.out HB.out)); (case side4 => exact HC0_2.out); (case side5 => exact cc (Kd.C_below HR0_3.out HB.out)); (case side6 => exact HC0_3.out); rintro e w19 ⟨rfl, hb⟩; refine ⟨_, rfl, ?_⟩; have n0_ := rb HO_22 hb; have n1_ := bk BK380 hb; have n2_ := hs HB hb; clear HO_22 BK380 HB; revert n0_ n1_ n2_; intro HO_22 BK380 HB; (try clear hb); (try clear hb2); (try clear hk); (try clear hi))); go_roundg k2
          case measure => have := HJ3.out; have := HK2.out; omega
          case rel => exact ⟨(wrap64 (x7_2 + 1)), (wrap64 (x24_2 + 1)), (by first | rfl | (simp; done) | (simp [*]; done)), (by first | rfl | (simp; done) | (simp [*]; done)), H', ⟨by have := HJ3.out; have := HK2.out; omega⟩, ⟨rz HO_22.out⟩, ⟨kz BK380.out⟩, ⟨by exact bw HB.out⟩⟩
         ·rw [if_neg c17] at H; have c17b0 : decide (t387 < 1000000) = false := decide_eq_false c17; clear c17; have H' := am H; clear H; have p386 : 0 ≤ (x24_2 : Int) := da; have q386 : x24_2 < (t381.length : Int) := da; obtain ⟨ad386, e386, hx386_0⟩ := Kd.at_string (Kd.R_reads' HO_22.out).2.2 x24_2 p386 q386; cases e386; replace p386 := eq_true p386; replace q386 := eq_true q386; have hz20 := zf4 BK380.out; go_wp2_with (first | ((with_reducible refine gy 32 rfl ?_); refine gl Try.func32 #[.agg #[.int .i64 a0_0, .slice A0_1 l0_1.length c0_1, .slice A0_2 l0_2.length c0_2, .slice A0_3 l0_3.length c0_3], .string (rdOf ByteArray.empty t381 x24_2)] ?_; (with_reducible refine (impl_CostOf.calls k2 a0_0 _ _ l0_1 _ _ l0_2 _ _ l0_3 (rdOf ByteArray.empty t381 x24_2) t387 _ ?side1 ?side2 ?side3 ?side4 ?side5 ?side6 A16.out).mono ?_); (case side1 => exact cc (Kd.C_below HR0_1.out HB.out)); (case side2 => exact HC0_1.out); (case side3 => exact cc (Kd.C_below HR0_2.out HB.out)); (case side4 => exact HC0_2.out); (case side5 => exact cc (Kd.C_below HR0_3.out HB.out)); (case side6 => exact HC0_3.out); rintro e w21 ⟨rfl, hb⟩; refine ⟨_, rfl, ?_⟩; have n0_ := rb HO_22 hb; have n1_ := bk BK380 hb; have n2_ := hs HB hb; clear HO_22 BK380 HB; revert n0_ n1_ n2_; intro HO_22 BK380 HB; (try clear hb); (try clear hb2); (try clear hk); (try clear hi))); go_roundg k2
          case measure => have := HJ3.out; have := HK2.out; omega
          case rel => exact ⟨(x7_2), (wrap64 (x24_2 + 1)), (by first | rfl | (simp; done) | (simp [*]; done)), (by first | rfl | (simp; done) | (simp [*]; done)), H', ⟨by have := HJ3.out; have := HK2.out; omega⟩, ⟨rz HO_22.out⟩, ⟨kz BK380.out⟩, ⟨by exact bw HB.out⟩⟩
        ·rw [if_neg c15] at H; exact absurd H (by simp)
       ·rw [if_neg c14] at H; exact absurd H (by simp)
      ·rw [if_neg c13] at H; have c13b0 : decide (x24_2 < (t381.length : Int)) = false := decide_eq_false c13; clear c13; obtain rfl := Option.some.inj H; go_wp2; go_ret; exact ⟨by first | rfl | (simp [errW_none, errW_some] <;> rfl) | (simp [*, errW_none, errW_some] <;> rfl), by exact bw HB.out⟩

/-! ### laws_FnExactCountAccepted: function 10 -/
def laws_FnExactCountAccepted.f (k : Nat) (a0_0 : Int) (l0_1 : List Int) (l0_2 : List Int) (l0_3 : List (S90)) (a1 : Int) : Option (Bool) := (laws_szAutomaton.f k a0_0 l0_1 l0_2 l0_3 1048576).bind fun t389 => (if t389 < 0 then (some true) else ((laws_toAutomaton.f k a0_0 l0_1 l0_2 l0_3).bind fun bt390 => ((spec_CountAccepted.f k bt390.1 bt390.2.1 bt390.2.2.1 bt390.2.2.2 a1).bind fun t400 => ((laws_toAutomaton.f k a0_0 l0_1 l0_2 l0_3).bind fun bt401 => ((impl_CountAccepted.f k bt401.1 bt401.2.1 bt401.2.2.1 bt401.2.2.2 a1).bind fun t412 => (if t412 = t400 then ((laws_toAutomaton.f k a0_0 l0_1 l0_2 l0_3).bind fun bt413 => ((laws_eqAutomaton.f k bt401.1 bt401.2.1 bt401.2.2.1 bt401.2.2.2 bt413.1 bt413.2.1 bt413.2.2.1 bt413.2.2.2).bind fun t423 => (if t423 = true then (some true) else (none)))) else (none)))))))
theorem laws_FnExactCountAccepted.mono : ∀ a0 a1 a2 a3 a4 k, LeO (laws_FnExactCountAccepted.f k a0 a1 a2 a3 a4) (laws_FnExactCountAccepted.f (k + 1) a0 a1 a2 a3 a4) := by
 intro a0 a1 a2 a3 a4 k; unfold laws_FnExactCountAccepted.f; repeat' first
   | (with_reducible exact impl_CountAccepted.mono _ _ _ _ _ _)
   | (with_reducible exact laws_eqAutomaton.mono _ _ _ _ _ _ _ _ _)
   | (with_reducible exact laws_szAutomaton.mono _ _ _ _ _ _)
   | (with_reducible exact laws_toAutomaton.mono _ _ _ _ _)
   | (with_reducible exact spec_CountAccepted.mono _ _ _ _ _ _)
   | (with_reducible exact LeO.refl _)
   | (with_reducible exact LeO.none _)
   | (with_reducible refine LeO.ite ?_ ?_)
   | (with_reducible refine LeO.bind ?_ (fun _ => ?_))
   | exact impl_CountAccepted.mono _ _ _ _ _ _
   | exact laws_eqAutomaton.mono _ _ _ _ _ _ _ _ _
   | exact laws_szAutomaton.mono _ _ _ _ _ _
   | exact laws_toAutomaton.mono _ _ _ _ _
   | exact spec_CountAccepted.mono _ _ _ _ _ _
   | exact LeO.none _
   | refine LeO.ite ?_ ?_
   | refine LeO.bind ?_ (fun _ => ?_)
set_option maxHeartbeats 8000000 in
set_option maxRecDepth 100000 in
theorem laws_FnExactCountAccepted.calls (k : Nat) (a0_0 : Int) (A0_1 : Option Addr) (c0_1 : Nat) (l0_1 : List Int) (A0_2 : Option Addr) (c0_2 : Nat) (l0_2 : List Int) (A0_3 : Option Addr) (c0_3 : Nat) (l0_3 : List (S90)) (a1 : Int) (r : Bool) (w : World) (hr0_1 : Kd.C (Kd.int .i64) w A0_1 l0_1.length l0_1) (hc0_1 : l0_1.length ≤ c0_1) (hr0_2 : Kd.C (Kd.int .i64) w A0_2 l0_2.length l0_2) (hc0_2 : l0_2.length ≤ c0_2) (hr0_3 : Kd.C k90 w A0_3 l0_3.length l0_3) (hc0_3 : l0_3.length ≤ c0_3) (h : laws_FnExactCountAccepted.f k a0_0 l0_1 l0_2 l0_3 a1 = some r) :
  Calls Try.prog 10 #[.agg #[.int .i64 a0_0, .slice A0_1 l0_1.length c0_1, .slice A0_2 l0_2.length c0_2, .slice A0_3 l0_3.length c0_3], .int .i64 a1] w fun e w' => e = .returned (.bool r) ∧ Below w.heap.size w w' := by
 have hu25 := Try.underlying25; have hu30 := Try.underlying30; have HR0_1 := am hr0_1; have HC0_1 := am hc0_1; clear hr0_1 hc0_1; have HR0_2 := am hr0_2; have HC0_2 := am hc0_2; clear hr0_2 hc0_2; have HR0_3 := am hr0_3; have HC0_3 := am hc0_3; clear hr0_3 hc0_3; have HB := am (Below.refl w.heap.size w); have H : ((laws_szAutomaton.f k a0_0 l0_1 l0_2 l0_3 1048576).bind fun t389 => (if t389 < 0 then (some true) else ((laws_toAutomaton.f k a0_0 l0_1 l0_2 l0_3).bind fun bt390 => ((spec_CountAccepted.f k bt390.1 bt390.2.1 bt390.2.2.1 bt390.2.2.2 a1).bind fun t400 => ((laws_toAutomaton.f k a0_0 l0_1 l0_2 l0_3).bind fun bt401 => ((impl_CountAccepted.f k bt401.1 bt401.2.1 bt401.2.2.1 bt401.2.2.2 a1).bind fun t412 => (if t412 = t400 then ((laws_toAutomaton.f k a0_0 l0_1 l0_2 l0_3).bind fun bt413 => ((laws_eqAutomaton.f k bt401.1 bt401.2.1 bt401.2.2.1 bt401.2.2.2 bt413.1 bt413.2.1 bt413.2.2.1 bt413.2.2.2).bind fun t423 => (if t423 = true then (some true) else (none)))) else (none)))))))) = some r := h; clear h; replace H := Option.bind_eq_some_iff.mp H; obtain ⟨t389, A30, H⟩ := H; (try dsimp only at H); have A3 := am A30; clear A30; by_cases c4 : t389 < 0
 ·rw [if_pos c4] at H; have c4b0 : decide (t389 < 0) = true := decide_eq_true c4; clear c4; obtain rfl := Option.some.inj H; go_enter Try.func10, Try.ntmps10; go_wp2_with (first | ((with_reducible refine gx 2 rfl ?_); refine be (cs := #[.int .i64 a0_0, .slice A0_1 l0_1.length c0_1, .slice A0_2 l0_2.length c0_2, .slice A0_3 l0_3.length c0_3]) (t := 25) ?_; intro gb388 hg w5 hbox hb; have n0_ := hs HB hb; have n1_ := am (hbox); have n2_ := gs hg (bz HB.out); have n3_ := gs hg (bz HB.out); clear HB; revert n0_ n1_ n2_ n3_; intro HB BK388 GW388 GE388; clear hb hbox hg; have hz6 := zf4 BK388.out) | ((with_reducible refine gy 11 rfl ?_); refine gl Try.func11 #[.agg #[.int .i64 a0_0, .slice A0_1 l0_1.length c0_1, .slice A0_2 l0_2.length c0_2, .slice A0_3 l0_3.length c0_3], .int .i64 1048576] ?_; (with_reducible refine (laws_szAutomaton.calls k a0_0 _ _ l0_1 _ _ l0_2 _ _ l0_3 1048576 t389 _ ?side1 ?side2 ?side3 ?side4 ?side5 ?side6 A3.out).mono ?_); (case side1 => exact cc (Kd.C_below HR0_1.out HB.out)); (case side2 => exact HC0_1.out); (case side3 => exact cc (Kd.C_below HR0_2.out HB.out)); (case side4 => exact HC0_2.out); (case side5 => exact cc (Kd.C_below HR0_3.out HB.out)); (case side6 => exact HC0_3.out); rintro e w7 ⟨rfl, hb⟩; refine ⟨_, rfl, ?_⟩; have n0_ := bk BK388 hb; have n1_ := hs HB hb; clear BK388 HB; revert n0_ n1_; intro BK388 HB; (try clear hb); (try clear hb2); (try clear hk); (try clear hi))); go_ret; exact ⟨by first | rfl | (simp [errW_none, errW_some] <;> rfl) | (simp [*, errW_none, errW_some] <;> rfl), by exact bw HB.out⟩
 ·rw [if_neg c4] at H; have c4b0 : decide (t389 < 0) = false := decide_eq_false c4; clear c4; replace H := Option.bind_eq_some_iff.mp H; obtain ⟨⟨t390, t391, t394, t397⟩, A80, H⟩ := H; (try dsimp only at H); have A8 := am A80; clear A80; replace H := Option.bind_eq_some_iff.mp H; obtain ⟨t400, A90, H⟩ := H; (try dsimp only at H); have A9 := am A90; clear A90; replace H := Option.bind_eq_some_iff.mp H; obtain ⟨⟨t401, t402, t405, t408⟩, A100, H⟩ := H; (try dsimp only at H); have A10 := am A100; clear A100; replace H := Option.bind_eq_some_iff.mp H; obtain ⟨t412, A110, H⟩ := H; (try dsimp only at H); have A11 := am A110; clear A110; by_cases c12 : t412 = t400
  ·rw [if_pos c12] at H; have c12b0 : (t412 == t400) = true := beq_iff_eq.mpr c12; have c12b1 : (t412 != t400) = false := bne_eq_false_iff_eq.mpr c12; clear c12; replace H := Option.bind_eq_some_iff.mp H; obtain ⟨⟨t413, t414, t417, t420⟩, A130, H⟩ := H; (try dsimp only at H); have A13 := am A130; clear A130; replace H := Option.bind_eq_some_iff.mp H; obtain ⟨t423, A140, H⟩ := H; (try dsimp only at H); have A14 := am A140; clear A140; by_cases c15 : t423 = true
   ·subst c15
    have H1 : (some true) = some r := by rw [if_pos rfl] at H; exact H
    clear H; have H := H1; clear H1; obtain rfl := Option.some.inj H; go_enter Try.func10, Try.ntmps10; (try go_wp2_with (first | ((with_reducible refine gx 2 rfl ?_); refine be (cs := #[.int .i64 a0_0, .slice A0_1 l0_1.length c0_1, .slice A0_2 l0_2.length c0_2, .slice A0_3 l0_3.length c0_3]) (t := 25) ?_; intro gb388 hg w16 hbox hb; have n0_ := hs HB hb; have n1_ := am (hbox); have n2_ := gs hg (bz HB.out); have n3_ := gs hg (bz HB.out); clear HB; revert n0_ n1_ n2_ n3_; intro HB BK388 GW388 GE388; clear hb hbox hg; have hz17 := zf4 BK388.out) | ((with_reducible refine gy 11 rfl ?_); refine gl Try.func11 #[.agg #[.int .i64 a0_0, .slice A0_1 l0_1.length c0_1, .slice A0_2 l0_2.length c0_2, .slice A0_3 l0_3.length c0_3], .int .i64 1048576] ?_; (with_reducible refine (laws_szAutomaton.calls k a0_0 _ _ l0_1 _ _ l0_2 _ _ l0_3 1048576 t389 _ ?side1 ?side2 ?side3 ?side4 ?side5 ?side6 A3.out).mono ?_); (case side1 => exact cc (Kd.C_below HR0_1.out HB.out)); (case side2 => exact HC0_1.out); (case side3 => exact cc (Kd.C_below HR0_2.out HB.out)); (case side4 => exact HC0_2.out); (case side5 => exact cc (Kd.C_below HR0_3.out HB.out)); (case side6 => exact HC0_3.out); rintro e w18 ⟨rfl, hb⟩; refine ⟨_, rfl, ?_⟩; have n0_ := bk BK388 hb; have n1_ := hs HB hb; clear BK388 HB; revert n0_ n1_; intro BK388 HB; (try clear hb); (try clear hb2); (try clear hk); (try clear hi); have hz19 := zf4 BK388.out) | ((with_reducible refine gy 13 rfl ?_); refine gl Try.func13 #[.agg #[.int .i64 a0_0, .slice A0_1 l0_1.length c0_1, .slice A0_2 l0_2.length c0_2, .slice A0_3 l0_3.length c0_3]] ?_; (with_reducible refine (laws_toAutomaton.calls k a0_0 _ _ l0_1 _ _ l0_2 _ _ l0_3 t401 t402 t405 t408 _ ?side1 ?side2 ?side3 ?side4 ?side5 ?side6 A10.out).mono ?_); (case side1 => exact cc (Kd.C_below HR0_1.out HB.out)); (case side2 => exact HC0_1.out); (case side3 => exact cc (Kd.C_below HR0_2.out HB.out)); (case side4 => exact HC0_2.out); (case side5 => exact cc (Kd.C_below HR0_3.out HB.out)); (case side6 => exact HC0_3.out); rintro e w26 ⟨v403, v406, v409, rfl, ho0, ho1, ho2, hb⟩; refine ⟨_, rfl, ?_⟩; have n0_ := am (Kd.R_mono (Kd.R_told (Kd.R_told (Kd.R_old (rz HO393.out) hb) (Kd.R_base ho0)) (Kd.R_base ho1)) (fun _ h_ => h_.1)); have n1_ := am (Kd.R_mono (Kd.R_told (Kd.R_told (Kd.R_old (rz HO396.out) hb) (Kd.R_base ho0)) (Kd.R_base ho1)) (fun _ h_ => h_.1)); have n2_ := el HO399 (Kd.R_base ho2) hb; have n3_ := am (Kd.R_lower (Kd.R_new' (Kd.R_new' ho0 (Kd.R_lt (rz HO393.out))) (Kd.R_lt (rz HO396.out))) (below_size (bw HB.out))); have n4_ := am (Kd.R_lower (Kd.R_new' (Kd.R_new' ho1 (Kd.R_lt (rz HO393.out))) (Kd.R_lt (rz HO396.out))) (below_size (bw HB.out))); have n5_ := am (Kd.R_lower (Kd.R_new' ho2 (Kd.R_lt (rz HO399.out))) (below_size (bw HB.out))); have n6_ := bk BK388 hb; have n7_ := hs HB hb; clear HO393 HO396 HO399 BK388 HB; revert n0_ n1_ n2_ n3_ n4_ n5_ n6_ n7_; intro HO393 HO396 HO399 HO404 HO407 HO410 BK388 HB; (try clear hb); (try clear hb2); (try clear hk); (try clear hi); (try clear ho0); (try clear ho1); (try clear ho2)) | ((with_reducible refine gy 35 rfl ?_); refine gl Try.func35 #[.agg #[.int .i64 t390, .slice Ao21 t391.length co21, .slice Ao22 t394.length co22, .slice Ao23 t397.length co23], .int .i64 a1] ?_; (with_reducible refine (spec_CountAccepted.calls k t390 _ _ t391 _ _ t394 _ _ t397 a1 t400 _ ?side1 ?side2 ?side3 ?side4 ?side5 ?side6 A9.out).mono ?_); (case side1 => exact cc ((Kd.R_reads' HO393.out).2.2)); (case side2 => exact (Kd.R_reads' HO393.out).2.1); (case side3 => exact cc ((Kd.R_reads' HO396.out).2.2)); (case side4 => exact (Kd.R_reads' HO396.out).2.1); (case side5 => exact cc ((Kd.R_reads' HO399.out).2.2)); (case side6 => exact (Kd.R_reads' HO399.out).2.1); rintro e w24 ⟨rfl, hb⟩; refine ⟨_, rfl, ?_⟩; have n0_ := rb HO393 hb; have n1_ := rb HO396 hb; have n2_ := rb HO399 hb; have n3_ := bk BK388 hb; have n4_ := hs HB hb; clear HO393 HO396 HO399 BK388 HB; revert n0_ n1_ n2_ n3_ n4_; intro HO393 HO396 HO399 BK388 HB; (try clear hb); (try clear hb2); (try clear hk); (try clear hi); have hz25 := zf4 BK388.out) | ((with_reducible refine gy 13 rfl ?_); refine gl Try.func13 #[.agg #[.int .i64 a0_0, .slice A0_1 l0_1.length c0_1, .slice A0_2 l0_2.length c0_2, .slice A0_3 l0_3.length c0_3]] ?_; (with_reducible refine (laws_toAutomaton.calls k a0_0 _ _ l0_1 _ _ l0_2 _ _ l0_3 t390 t391 t394 t397 _ ?side1 ?side2 ?side3 ?side4 ?side5 ?side6 A8.out).mono ?_); (case side1 => exact cc (Kd.C_below HR0_1.out HB.out)); (case side2 => exact HC0_1.out); (case side3 => exact cc (Kd.C_below HR0_2.out HB.out)); (case side4 => exact HC0_2.out); (case side5 => exact cc (Kd.C_below HR0_3.out HB.out)); (case side6 => exact HC0_3.out); rintro e w20 ⟨v392, v395, v398, rfl, ho0, ho1, ho2, hb⟩; refine ⟨_, rfl, ?_⟩; have n0_ := am (Kd.R_lower ho0 (below_size (bw HB.out))); have n1_ := am (Kd.R_lower ho1 (below_size (bw HB.out))); have n2_ := am (Kd.R_lower ho2 (below_size (bw HB.out))); have n3_ := bk BK388 hb; have n4_ := hs HB hb; clear BK388 HB; revert n0_ n1_ n2_ n3_ n4_; intro HO393 HO396 HO399 BK388 HB; (try clear hb); (try clear hb2); (try clear hk); (try clear hi); (try clear ho0); (try clear ho1); (try clear ho2); obtain ⟨Ao21, co21, eo21⟩ := Kd.R_slice HO393.out; subst eo21; obtain ⟨Ao22, co22, eo22⟩ := Kd.R_slice HO396.out; subst eo22; obtain ⟨Ao23, co23, eo23⟩ := Kd.R_slice HO399.out; subst eo23) | ((with_reducible refine gx 7 rfl ?_); refine be (cs := #[.int .i64 0, .slice none 0 0, .slice none 0 0, .slice none 0 0]) (t := 30) ?_; intro gb411 hg w27 hbox hb; have n0_ := rb HO393 hb; have n1_ := rb HO396 hb; have n2_ := rb HO399 hb; have n3_ := rb HO404 hb; have n4_ := rb HO407 hb; have n5_ := rb HO410 hb; have n6_ := bk BK388 hb; have n7_ := hs HB hb; have n8_ := am (hbox); have n9_ := gs hg (bw HB.out); have n10_ := gs hg (bw HB.out); have n11_ := nl hg (kz BK388.out); have n12_ := nr hg (kz BK388.out); clear HO393 HO396 HO399 HO404 HO407 HO410 BK388 HB; revert n0_ n1_ n2_ n3_ n4_ n5_ n6_ n7_ n8_ n9_ n10_ n11_ n12_; intro HO393 HO396 HO399 HO404 HO407 HO410 BK388 HB BK411 GW411 GE411 NB388_411 NB411_388; clear hb hbox hg; have hnb28 := NB411_388.out; have hnc28 := NB388_411.out; have hz29 := zf4 BK411.out; obtain ⟨Ao30, co30, eo30⟩ := Kd.R_slice HO404.out; subst eo30; obtain ⟨Ao31, co31, eo31⟩ := Kd.R_slice HO407.out; subst eo31; obtain ⟨Ao32, co32, eo32⟩ := Kd.R_slice HO410.out; subst eo32) | ((with_reducible refine gy 36 rfl ?_); refine gl Try.func36 #[.agg #[.int .i64 t401, .slice Ao30 t402.length co30, .slice Ao31 t405.length co31, .slice Ao32 t408.length co32], .int .i64 a1] ?_; (with_reducible refine (impl_CountAccepted.calls k t401 _ _ t402 _ _ t405 _ _ t408 a1 t412 _ ?side1 ?side2 ?side3 ?side4 ?side5 ?side6 A11.out).mono ?_); (case side1 => refine (Kd.R_reads' (e := 3) (base := w.heap.size) (ok := fun k_ => ((NS Ao31 t405 co31 k_ ∧ NS Ao21 t391 co21 k_) ∧ NS Ao22 t394 co22 k_)) (n := t402.length) (c := co30) ?_).2.2; exact (rq (q4 HO404.out BK411.out (by decide)))); (case side2 => exact (Kd.R_reads' HO404.out).2.1); (case side3 => refine (Kd.R_reads' (e := 3) (base := w.heap.size) (ok := fun k_ => ((NS Ao30 t402 co30 k_ ∧ NS Ao21 t391 co21 k_) ∧ NS Ao22 t394 co22 k_)) (n := t405.length) (c := co31) ?_).2.2; exact (rq (q4 HO407.out BK411.out (by decide)))); (case side4 => exact (Kd.R_reads' HO407.out).2.1); (case side5 => refine (Kd.R_reads' (e := 51) (base := w.heap.size) (ok := fun k_ => (True ∧ NS Ao23 t397 co23 k_)) (n := t408.length) (c := co32) ?_).2.2; exact (rq (q4 HO410.out BK411.out (by decide)))); (case side6 => exact (Kd.R_reads' HO410.out).2.1); rintro e w33 ⟨rfl, hb⟩; refine ⟨_, rfl, ?_⟩; have n0_ := am (Kd.R_below (rq (q4 HO393.out BK411.out (by decide))) hb); have n1_ := am (Kd.R_below (rq (q4 HO396.out BK411.out (by decide))) hb); have n2_ := am (Kd.R_below (rq (q4 HO399.out BK411.out (by decide))) hb); have n3_ := am (Kd.R_below (rq (q4 HO404.out BK411.out (by decide))) hb); have n4_ := am (Kd.R_below (rq (q4 HO407.out BK411.out (by decide))) hb); have n5_ := am (Kd.R_below (rq (q4 HO410.out BK411.out (by decide))) hb); have n6_ := am (blk_below (kf BK388.out) hb); have n7_ := am (blk_below (kp BK411.out) hb); have n8_ := hs HB hb; clear HO393 HO396 HO399 HO404 HO407 HO410 BK388 BK411 HB; revert n0_ n1_ n2_ n3_ n4_ n5_ n6_ n7_ n8_; intro HO393 HO396 HO399 HO404 HO407 HO410 BK388 BK411 HB; (try clear hb); (try clear hb2); (try clear hk); (try clear hi)))); have n0_ := am (Kd.R_drew HO393.out); have n1_ := am (Kd.R_drew HO396.out); have n2_ := am (Kd.R_drew HO399.out); have n3_ := am (Kd.R_drew HO404.out); have n4_ := am (Kd.R_drew HO407.out); have n5_ := am (Kd.R_drew HO410.out); have n6_ := am (blk_drew BK388.out); have n7_ := am (blk_drew BK411.out); have n8_ := am (below_drew1 HB.out); clear HO393 HO396 HO399 HO404 HO407 HO410 BK388 BK411 HB; revert n0_ n1_ n2_ n3_ n4_ n5_ n6_ n7_ n8_; intro HO393 HO396 HO399 HO404 HO407 HO410 BK388 BK411 HB; refine start_ (n := 5) (S := fun w' => w'.cell? ⟨gb411, 0, none⟩ = some (.int .i64 t401) ∧ w'.cell? ⟨gb411, 1, none⟩ = some (.slice Ao30 t402.length co30) ∧ w'.cell? ⟨gb411, 2, none⟩ = some (.slice Ao31 t405.length co31) ∧ w'.cell? ⟨gb411, 3, none⟩ = some (.slice Ao32 t408.length co32) ∧ w'.cell? ⟨gb388, 0, none⟩ = some (.int .i64 a0_0) ∧ w'.cell? ⟨gb388, 1, none⟩ = some (.slice A0_1 l0_1.length c0_1) ∧ w'.cell? ⟨gb388, 2, none⟩ = some (.slice A0_2 l0_2.length c0_2) ∧ w'.cell? ⟨gb388, 3, none⟩ = some (.slice A0_3 l0_3.length c0_3)) (ds := []) #[false, false, false, false, false] (by kernel_rfl) rfl rfl ⟨bl BK411.out 0, bl BK411.out 1, bl BK411.out 2, bl BK411.out 3, bl BK388.out 0, bl BK388.out 1, bl BK388.out 2, bl BK388.out 3⟩ (fun hHeld => ?_); generalize w33.drew = w34 at HO393 HO396 HO399 HO404 HO407 HO410 BK388 BK411 HB hHeld ⊢; refine take_ (i := 0) (N := some 26) (v := ?_) (a' := ?_) #[true, false, false, false, false] rfl rfl (by kernel_rfl) (fun _ _ _ h => h) (Or.inl ⟨by rfl, ?_⟩) hHeld ?_ ?_; rotate_left
    ·rintro w' ⟨s0, s1, s2, s3, s4, s5, s6, s7⟩; go_simp
     with_reducible rfl
    rotate_left
    ·simp only [Act.put, List.setIfInBounds_toArray, List.set_cons_zero, List.set_cons_succ, i64_w, i32_w]; rfl
    refine take_ (i := 1) (N := some 27) (v := ?_) (a' := ?_) #[true, true, false, false, false] rfl rfl (by kernel_rfl) (fun _ _ _ h => h) (Or.inl ⟨by rfl, ?_⟩) hHeld ?_ ?_; rotate_left
    ·rintro w' ⟨s0, s1, s2, s3, s4, s5, s6, s7⟩; go_simp
     with_reducible rfl
    rotate_left
    ·simp only [Act.put, List.setIfInBounds_toArray, List.set_cons_zero, List.set_cons_succ, i64_w, i32_w]; rfl
    refine one_ (i := 2) (N := some 28) #[true, true, true, false, false] rfl rfl (by kernel_rfl) (by decide) (fun K hK => ?_); refine gr Try.func13 #[.agg #[.int .i64 a0_0, .slice A0_1 l0_1.length c0_1, .slice A0_2 l0_2.length c0_2, .slice A0_3 l0_3.length c0_3]] ?_
    with_reducible refine (laws_toAutomaton.calls k a0_0 _ _ l0_1 _ _ l0_2 _ _ l0_3 t413 t414 t417 t420 _ ?side1 ?side2 ?side3 ?side4 ?side5 ?side6 A13.out).mono ?_
    (case side1 => exact cc (Kd.C_below HR0_1.out HB.out)); (case side2 => exact HC0_1.out); (case side3 => exact cc (Kd.C_below HR0_2.out HB.out)); (case side4 => exact HC0_2.out); (case side5 => exact cc (Kd.C_below HR0_3.out HB.out)); (case side6 => exact HC0_3.out); rintro e w35 ⟨v415, v418, v421, rfl, ho0, ho1, ho2, hb⟩; refine ⟨_, rfl, ?_⟩; have n0_ := am (Kd.R_mono (Kd.R_told (Kd.R_told (Kd.R_old (rz HO393.out) hb) (Kd.R_base ho0)) (Kd.R_base ho1)) (fun _ h_ => h_.1)); have n1_ := am (Kd.R_mono (Kd.R_told (Kd.R_told (Kd.R_old (rz HO396.out) hb) (Kd.R_base ho0)) (Kd.R_base ho1)) (fun _ h_ => h_.1)); have n2_ := el HO399 (Kd.R_base ho2) hb; have n3_ := am (Kd.R_mono (Kd.R_told (Kd.R_told (Kd.R_old (rz HO404.out) hb) (Kd.R_base ho0)) (Kd.R_base ho1)) (fun _ h_ => h_.1)); have n4_ := am (Kd.R_mono (Kd.R_told (Kd.R_told (Kd.R_old (rz HO407.out) hb) (Kd.R_base ho0)) (Kd.R_base ho1)) (fun _ h_ => h_.1)); have n5_ := el HO410 (Kd.R_base ho2) hb; have n6_ := am (Kd.R_lower (Kd.R_new' (Kd.R_new' (Kd.R_new' (Kd.R_new' ho0 (Kd.R_lt (rz HO393.out))) (Kd.R_lt (rz HO396.out))) (Kd.R_lt (rz HO404.out))) (Kd.R_lt (rz HO407.out))) (below_size (bw HB.out))); have n7_ := am (Kd.R_lower (Kd.R_new' (Kd.R_new' (Kd.R_new' (Kd.R_new' ho1 (Kd.R_lt (rz HO393.out))) (Kd.R_lt (rz HO396.out))) (Kd.R_lt (rz HO404.out))) (Kd.R_lt (rz HO407.out))) (below_size (bw HB.out))); have n8_ := am (Kd.R_lower (Kd.R_new' (Kd.R_new' ho2 (Kd.R_lt (rz HO399.out))) (Kd.R_lt (rz HO410.out))) (below_size (bw HB.out))); have n9_ := bk BK388 hb; have n10_ := bk BK411 hb; have n11_ := hs HB hb; clear HO393 HO396 HO399 HO404 HO407 HO410 BK388 BK411 HB; revert n0_ n1_ n2_ n3_ n4_ n5_ n6_ n7_ n8_ n9_ n10_ n11_; intro HO393 HO396 HO399 HO404 HO407 HO410 HO416 HO419 HO422 BK388 BK411 HB; (try clear hb); (try clear hb2); (try clear hk); (try clear hi); (try clear ho0); (try clear ho1); (try clear ho2); obtain ⟨Ao36, co36, eo36⟩ := Kd.R_slice HO416.out; (first | subst eo36 | (injection eo36 with f1_ f2_ f3_; have f4_ := f1_.symm; have f5_ := f3_.symm; clear f1_ f2_ f3_; subst f4_; subst f5_)); obtain ⟨Ao37, co37, eo37⟩ := Kd.R_slice HO419.out; (first | subst eo37 | (injection eo37 with f1_ f2_ f3_; have f4_ := f1_.symm; have f5_ := f3_.symm; clear f1_ f2_ f3_; subst f4_; subst f5_)); obtain ⟨Ao38, co38, eo38⟩ := Kd.R_slice HO422.out; (first | subst eo38 | (injection eo38 with f1_ f2_ f3_; have f4_ := f1_.symm; have f5_ := f3_.symm; clear f1_ f2_ f3_; subst f4_; subst f5_)); refine hK.out _ _ ⟨bl BK411.out 0, bl BK411.out 1, bl BK411.out 2, bl BK411.out 3, bl BK388.out 0, bl BK388.out 1, bl BK388.out 2, bl BK388.out 3⟩ (fun hHeld => ?_); clear hK K; refine norm_ (a' := ?_) ?_ ?_; rotate_left
    ·show Act.put _ (some 28) _ = _; simp only [Act.put, List.setIfInBounds_toArray, List.set_cons_zero, List.set_cons_succ, i64_w, i32_w]; rfl
    refine one_ (i := 3) (N := some 29) #[true, true, true, true, false] rfl rfl (by kernel_rfl) (by decide) (fun K hK => ?_); refine gr Try.func15 #[.agg #[.int .i64 t401, .slice Ao30 t402.length co30, .slice Ao31 t405.length co31, .slice Ao32 t408.length co32], .agg #[.int .i64 t413, .slice Ao36 t414.length co36, .slice Ao37 t417.length co37, .slice Ao38 t420.length co38]] ?_
    with_reducible refine (laws_eqAutomaton.calls k t401 _ _ t402 _ _ t405 _ _ t408 t413 _ _ t414 _ _ t417 _ _ t420 true _ ?side1 ?side2 ?side3 ?side4 ?side5 ?side6 ?side7 ?side8 ?side9 ?side10 ?side11 ?side12 A14.out).mono ?_
    (case side1 => exact cc ((Kd.R_reads' HO404.out).2.2)); (case side2 => exact (Kd.R_reads' HO404.out).2.1); (case side3 => exact cc ((Kd.R_reads' HO407.out).2.2)); (case side4 => exact (Kd.R_reads' HO407.out).2.1); (case side5 => exact cc ((Kd.R_reads' HO410.out).2.2)); (case side6 => exact (Kd.R_reads' HO410.out).2.1); (case side7 => exact cc ((Kd.R_reads' HO416.out).2.2)); (case side8 => exact (Kd.R_reads' HO416.out).2.1); (case side9 => exact cc ((Kd.R_reads' HO419.out).2.2)); (case side10 => exact (Kd.R_reads' HO419.out).2.1); (case side11 => exact cc ((Kd.R_reads' HO422.out).2.2)); (case side12 => exact (Kd.R_reads' HO422.out).2.1); rintro e w39 ⟨rfl, hb⟩; refine ⟨_, rfl, ?_⟩; have n0_ := rb HO393 hb; have n1_ := rb HO396 hb; have n2_ := rb HO399 hb; have n3_ := rb HO404 hb; have n4_ := rb HO407 hb; have n5_ := rb HO410 hb; have n6_ := rb HO416 hb; have n7_ := rb HO419 hb; have n8_ := rb HO422 hb; have n9_ := bk BK388 hb; have n10_ := bk BK411 hb; have n11_ := hs HB hb; clear HO393 HO396 HO399 HO404 HO407 HO410 HO416 HO419 HO422 BK388 BK411 HB; revert n0_ n1_ n2_ n3_ n4_ n5_ n6_ n7_ n8_ n9_ n10_ n11_; intro HO393 HO396 HO399 HO404 HO407 HO410 HO416 HO419 HO422 BK388 BK411 HB; (try clear hb); (try clear hb2); (try clear hk); (try clear hi); refine hK.out _ _ ⟨bl BK411.out 0, bl BK411.out 1, bl BK411.out 2, bl BK411.out 3, bl BK388.out 0, bl BK388.out 1, bl BK388.out 2, bl BK388.out 3⟩ (fun hHeld => ?_); clear hK K; refine norm_ (a' := ?_) ?_ ?_; rotate_left
    ·show Act.put _ (some 29) _ = _; simp only [Act.put, List.setIfInBounds_toArray, List.set_cons_zero, List.set_cons_succ, i64_w, i32_w]; rfl
    refine pure_ (i := 4) (N := some 30) (v := ?_) (a' := ?_) #[true, true, true, true, true] rfl rfl (by kernel_rfl) (fun _ _ _ h => h) (Or.inl ⟨by rfl, ?_⟩) ?_ ?_; rotate_left
    ·intro w'; go_simp
     with_reducible rfl
    rotate_left
    ·simp only [Act.put, List.setIfInBounds_toArray, List.set_cons_zero, List.set_cons_succ, i64_w, i32_w]; rfl
    refine done_ (by kernel_rfl) ?_; (try go_wp2); go_ret; exact ⟨by first | rfl | (simp [errW_none, errW_some] <;> rfl) | (simp [*, errW_none, errW_some] <;> rfl), by exact bw HB.out⟩
   ·replace c15 := Bool.eq_false_iff.mpr c15; subst c15
    have H1 : (none) = some r := by rw [if_neg (show ¬ (false = true) by decide)] at H; exact H
    clear H; have H := H1; clear H1; exact absurd H (by simp)
  ·rw [if_neg c12] at H; exact absurd H (by simp)

/-- THE ONE PURE STATEMENT of laws_FnExactCountAccepted. -/
def laws_FnExactCountAccepted.Pure : Prop := ∀ (a0_0 : Int) (l0_1 : List Int) (l0_2 : List Int) (l0_3 : List (S90)) (a1 : Int), (Lit.int .i64 a0_0).wf = true → l0_1.length ≤ maxLen → (∀ x ∈ l0_1, (Lit.int .i64 x).wf = true) → l0_2.length ≤ maxLen → (∀ x ∈ l0_2, (Lit.int .i64 x).wf = true) → l0_3.length ≤ maxLen → (∀ x ∈ l0_3, ((Lit.int .i64 x.f0).wf = true ∧ x.f1.size ≤ maxLen ∧ (Lit.int .i64 x.f2).wf = true ∧ (Lit.int .i64 x.f3).wf = true)) → (Lit.int .i64 a1).wf = true → ∃ k, laws_FnExactCountAccepted.f k a0_0 l0_1 l0_2 l0_3 a1 = some true
theorem laws_FnExactCountAccepted.walk (P : laws_FnExactCountAccepted.Pure) (a0_0 : Int) (a0_1 : Option Addr) (len0_1 cap0_1 : Nat) (z0_1 : List Int) (a0_2 : Option Addr) (len0_2 cap0_2 : Nat) (z0_2 : List Int) (a0_3 : Option Addr) (cap0_3 : Nat) (l0_3 : List (S90)) (a1 : Int) (w : World) (w0_0 : (Lit.int .i64 a0_0).wf = true) (w0_1 : (a0_1 = none ∧ len0_1 = 0 ∧ cap0_1 = 0 ∧ z0_1 = []) ∨ ∃ x, a0_1 = some x ∧ len0_1 ≤ cap0_1 ∧ cap0_1 ≤ maxLen ∧ z0_1.length = cap0_1 ∧ (∀ i, i < z0_1.length → w.cell? (x.add i) = some (.int .i64 (z0_1.getD i 0))) ∧ ∀ n ∈ z0_1, (Lit.int .i64 n).wf = true) (w0_2 : (a0_2 = none ∧ len0_2 = 0 ∧ cap0_2 = 0 ∧ z0_2 = []) ∨ ∃ x, a0_2 = some x ∧ len0_2 ≤ cap0_2 ∧ cap0_2 ≤ maxLen ∧ z0_2.length = cap0_2 ∧ (∀ i, i < z0_2.length → w.cell? (x.add i) = some (.int .i64 (z0_2.getD i 0))) ∧ ∀ n ∈ z0_2, (Lit.int .i64 n).wf = true) (hr0_3 : Kd.C k90 w a0_3 l0_3.length l0_3) (hc0_3 : l0_3.length ≤ cap0_3) (hm0_3 : l0_3.length ≤ maxLen) (hw0_3 : ∀ x ∈ l0_3, ((Lit.int .i64 x.f0).wf = true ∧ x.f1.size ≤ maxLen ∧ (Lit.int .i64 x.f2).wf = true ∧ (Lit.int .i64 x.f3).wf = true)) (w1 : (Lit.int .i64 a1).wf = true) :
  Calls Try.prog 10 #[.agg #[.int .i64 a0_0, .slice a0_1 len0_1 cap0_1, .slice a0_2 len0_2 cap0_2, .slice a0_3 l0_3.length cap0_3], .int .i64 a1] w fun e w' => e = .returned (.bool true) ∧ Below w.heap.size w w' := by
 obtain ⟨l0_1, rfl, hr0_1, hm0_1, hw0_1, hc0_1⟩ := ReadsInt.ofRowC w0_1; obtain ⟨l0_2, rfl, hr0_2, hm0_2, hw0_2, hc0_2⟩ := ReadsInt.ofRowC w0_2; obtain ⟨k, h⟩ := P a0_0 l0_1 l0_2 l0_3 a1 w0_0 hm0_1 hw0_1 hm0_2 hw0_2 hm0_3 hw0_3 w1; refine (laws_FnExactCountAccepted.calls k a0_0 _ _ l0_1 _ _ l0_2 _ _ l0_3 a1 true w (Kd.C_of_reads (d := (0 : Int)) (h1 := fun _ => rfl) hr0_1) hc0_1 (Kd.C_of_reads (d := (0 : Int)) (h1 := fun _ => rfl) hr0_2) hc0_2 hr0_3 hc0_3 h).mono ?_; rintro e w' ⟨rfl, hd⟩; exact ⟨rfl, hd⟩

end Go.Proofs.Ytejnpldoakgadaa.PGA
