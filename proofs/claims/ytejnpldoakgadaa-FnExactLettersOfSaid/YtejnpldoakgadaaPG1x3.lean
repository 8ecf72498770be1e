-- Written by a program (wip/myprint.py): the machine side of one law: each function that it reaches, as a plain function, and the proof that a call comes to just that.
import Derived.Test.YtejnpldoakgadaaPG1x0
import Derived.Test.YtejnpldoakgadaaPG1x2
namespace Go.Proofs.Ytejnpldoakgadaa.PG1
open Go.RowKit Go.Proofs.YtejnpldoakgadaaW.PrintWords Go.Proofs.YtejnpldoakgadaaW.PrintLast Go.Proofs.YtejnpldoakgadaaW.PrintMore
attribute [local go_sem] max2_int min2_int max_two min_two max_three min_three max_four min_four   -- for this text's walks alone
set_option linter.unusedVariables false
set_option linter.unusedSimpArgs false

/-! ### spec_AutomatonValid: function 12 -/
mutual
def spec_AutomatonValid.j0 : Nat → Bool → Int → List Int → List Int → List (S51) → Option (Bool)
 | 0, _, _, _, _, _ => none
 | k + 1, x30, x159000, x159001, x159002, x159003 => if x30 = true then (some false) else (spec_AutomatonValid.l0 k x159003 (x159003.length : Int) 0 x159000 x159001 x159002 x159003)
def spec_AutomatonValid.l0 : Nat → List (S51) → Int → Int → Int → List Int → List Int → List (S51) → Option (Bool)
 | 0, _, _, _, _, _, _, _ => none
 | k + 1, x32, x33, x34, x159000, x159001, x159002, x159003 => if x34 < x33 then (if 0 ≤ x34 then (if x34 < (x32.length : Int) then ((spec_l3Step.f x159000 ((rd_T51 x32 x34).f0) ((rd_T51 x32 x34).f1) ((rd_T51 x32 x34).f2) ((rd_T51 x32 x34).f3)).bind fun t164 => (if t164 = true then (if x34 > 0 then (if 0 ≤ (wrap64 (x34 - 1)) then (if (wrap64 (x34 - 1)) < (x159003.length : Int) then ((spec_l3Before.f ((rd_T51 x159003 (wrap64 (x34 - 1))).f0) ((rd_T51 x159003 (wrap64 (x34 - 1))).f1) ((rd_T51 x159003 (wrap64 (x34 - 1))).f2) ((rd_T51 x159003 (wrap64 (x34 - 1))).f3) ((rd_T51 x32 x34).f0) ((rd_T51 x32 x34).f1) ((rd_T51 x32 x34).f2) ((rd_T51 x32 x34).f3)).bind fun t166 => (if t166 = true then (spec_AutomatonValid.l0 k x32 x33 (wrap64 (x34 + 1)) x159000 x159001 x159002 x159003) else (some false))) else (none)) else (none)) else (spec_AutomatonValid.l0 k x32 x33 (wrap64 (x34 + 1)) x159000 x159001 x159002 x159003)) else (some false))) else (none)) else (none)) else (some true)
end
def spec_AutomatonValid.f (k : Nat) (a0_0 : Int) (l0_1 : List Int) (l0_2 : List Int) (l0_3 : List (S51)) : Option (Bool) := (spec_l1In.f a0_0 1 4).bind fun t159 => (if t159 = true then ((spec_l3Marks.f k a0_0 l0_1).bind fun t160 => (if t160 = true then ((spec_l3Marks.f k a0_0 l0_2).bind fun t161 => (if t161 = true then (spec_AutomatonValid.j0 k (decide ((l0_3.length : Int) > 24)) a0_0 l0_1 l0_2 l0_3) else (spec_AutomatonValid.j0 k true a0_0 l0_1 l0_2 l0_3))) else (spec_AutomatonValid.j0 k true a0_0 l0_1 l0_2 l0_3))) else (spec_AutomatonValid.j0 k true a0_0 l0_1 l0_2 l0_3))
theorem spec_AutomatonValid.mono_l : ∀ k, (∀ y0 y1 y2 y3 y4, LeO (spec_AutomatonValid.j0 k y0 y1 y2 y3 y4) (spec_AutomatonValid.j0 (k + 1) y0 y1 y2 y3 y4)) ∧ (∀ y0 y1 y2 y3 y4 y5 y6, LeO (spec_AutomatonValid.l0 k y0 y1 y2 y3 y4 y5 y6) (spec_AutomatonValid.l0 (k + 1) y0 y1 y2 y3 y4 y5 y6))
 | 0 => ⟨fun _ _ _ _ _ r h => by simp [spec_AutomatonValid.j0] at h, fun _ _ _ _ _ _ _ r h => by simp [spec_AutomatonValid.l0] at h⟩
 | k + 1 => by
  obtain ⟨ih0, ih1⟩ := spec_AutomatonValid.mono_l k
  refine ⟨?_, ?_⟩
  ·intro y0 y1 y2 y3 y4
   unfold spec_AutomatonValid.j0
   repeat' first
   | (with_reducible exact ih0 _ _ _ _ _)
   | (with_reducible exact ih1 _ _ _ _ _ _ _)
   | (with_reducible exact spec_l3Marks.mono _ _ _)
   | (with_reducible exact LeO.refl _)
   | (with_reducible exact LeO.none _)
   | (with_reducible refine LeO.ite ?_ ?_)
   | (with_reducible refine LeO.bind ?_ (fun _ => ?_))
   | exact ih0 _ _ _ _ _
   | exact ih1 _ _ _ _ _ _ _
   | exact spec_l3Marks.mono _ _ _
   | exact LeO.none _
   | refine LeO.ite ?_ ?_
   | refine LeO.bind ?_ (fun _ => ?_)
  ·intro y0 y1 y2 y3 y4 y5 y6
   unfold spec_AutomatonValid.l0
   repeat' first
   | (with_reducible exact ih0 _ _ _ _ _)
   | (with_reducible exact ih1 _ _ _ _ _ _ _)
   | (with_reducible exact spec_l3Marks.mono _ _ _)
   | (with_reducible exact LeO.refl _)
   | (with_reducible exact LeO.none _)
   | (with_reducible refine LeO.ite ?_ ?_)
   | (with_reducible refine LeO.bind ?_ (fun _ => ?_))
   | exact ih0 _ _ _ _ _
   | exact ih1 _ _ _ _ _ _ _
   | exact spec_l3Marks.mono _ _ _
   | exact LeO.none _
   | refine LeO.ite ?_ ?_
   | refine LeO.bind ?_ (fun _ => ?_)
theorem spec_AutomatonValid.mono : ∀ a0 a1 a2 a3 k, LeO (spec_AutomatonValid.f k a0 a1 a2 a3) (spec_AutomatonValid.f (k + 1) a0 a1 a2 a3) := by
 intro a0 a1 a2 a3 k
 obtain ⟨ih0, ih1⟩ := spec_AutomatonValid.mono_l k
 unfold spec_AutomatonValid.f
 repeat' first
   | (with_reducible exact ih0 _ _ _ _ _)
   | (with_reducible exact ih1 _ _ _ _ _ _ _)
   | (with_reducible exact spec_l3Marks.mono _ _ _)
   | (with_reducible exact LeO.refl _)
   | (with_reducible exact LeO.none _)
   | (with_reducible refine LeO.ite ?_ ?_)
   | (with_reducible refine LeO.bind ?_ (fun _ => ?_))
   | exact ih0 _ _ _ _ _
   | exact ih1 _ _ _ _ _ _ _
   | exact spec_l3Marks.mono _ _ _
   | exact LeO.none _
   | refine LeO.ite ?_ ?_
   | refine LeO.bind ?_ (fun _ => ?_)
def spec_AutomatonValid.T6 : Bool × List (List Nat × List Nat) := (true, [([], []), ([0], [0]), ([], []), ([1, 2], [1, 2]), ([3], [3]), ([4, 3], [4]), ([5], [5]), ([6, 5], [5, 6]), ([7, 5, 5], [5, 7]), ([8], [8]), ([9, 8], [8, 9]), ([8], [8]), ([11, 8], [8, 11]), ([10, 12, 8], [8, 10, 12]), ([13, 8], [8, 13]), ([8], [8]), ([14, 15, 8, 8], [8, 14, 15]), ([16, 8], [8, 16]), ([8, 17, 5], [5, 8, 17]), ([5, 18], [5, 18])])
def spec_AutomatonValid.B6 : List Nat := [0, 1, 0, 7, 15, 31, 63, 127, 255, 511, 1023, 511, 2559, 8191, 16383, 511, 65535, 131071, 262143, 524287]
theorem spec_AutomatonValid.tab6 : rtab .any (opsOf Try.f12 6) = spec_AutomatonValid.T6 := by kernel_rfl
theorem spec_AutomatonValid.bits6 : waitsOk spec_AutomatonValid.T6.2 spec_AutomatonValid.B6 = true := by kernel_rfl
set_option maxHeartbeats 8000000 in
set_option maxRecDepth 100000 in
theorem spec_AutomatonValid.calls (k : Nat) (a0_0 : Int) (A0_1 : Option Addr) (c0_1 : Nat) (l0_1 : List Int) (A0_2 : Option Addr) (c0_2 : Nat) (l0_2 : List Int) (A0_3 : Option Addr) (c0_3 : Nat) (l0_3 : List (S51)) (r : Bool) (w : World) (hr0_1 : Kd.C (Kd.int .i64) w A0_1 l0_1.length l0_1) (hc0_1 : l0_1.length ≤ c0_1) (hr0_2 : Kd.C (Kd.int .i64) w A0_2 l0_2.length l0_2) (hc0_2 : l0_2.length ≤ c0_2) (hr0_3 : Kd.C k51 w A0_3 l0_3.length l0_3) (hc0_3 : l0_3.length ≤ c0_3) (h : spec_AutomatonValid.f k a0_0 l0_1 l0_2 l0_3 = some r) :
  Calls Try.prog 12 #[.agg #[.int .i64 a0_0, .slice A0_1 l0_1.length c0_1, .slice A0_2 l0_2.length c0_2, .slice A0_3 l0_3.length c0_3]] w fun e w' => e = .returned (.bool r) ∧ Below w.heap.size w w' := by
 have hu30 := Try.underlying30
 have hu51 := Try.underlying51
 have HR0_1 := am hr0_1
 have HC0_1 := am hc0_1
 clear hr0_1 hc0_1
 have HR0_2 := am hr0_2
 have HC0_2 := am hc0_2
 clear hr0_2 hc0_2
 have HR0_3 := am hr0_3
 have HC0_3 := am hc0_3
 clear hr0_3 hc0_3
 have HB := am (Below.refl w.heap.size w)
 have H : ((spec_l1In.f a0_0 1 4).bind fun t159 => (if t159 = true then ((spec_l3Marks.f k a0_0 l0_1).bind fun t160 => (if t160 = true then ((spec_l3Marks.f k a0_0 l0_2).bind fun t161 => (if t161 = true then (spec_AutomatonValid.j0 k (decide ((l0_3.length : Int) > 24)) a0_0 l0_1 l0_2 l0_3) else (spec_AutomatonValid.j0 k true a0_0 l0_1 l0_2 l0_3))) else (spec_AutomatonValid.j0 k true a0_0 l0_1 l0_2 l0_3))) else (spec_AutomatonValid.j0 k true a0_0 l0_1 l0_2 l0_3))) = some r := h
 clear h
 have HC2 := am H
 clear H
 go_enter Try.func12, Try.ntmps12
 go_upto_region 1 with (first | ((with_reducible refine gate_dst (N := 1) rfl ?_); (try (refine gate_guard (by rfl) ?_; dsimp only)); refine box_event ?hg (N := 1) ?hd (cs := #[.int .i64 a0_0, .slice A0_1 l0_1.length c0_1, .slice A0_2 l0_2.length c0_2, .slice A0_3 l0_3.length c0_3]) (t := 30) ?hr ?_; (case hd => rfl); (case hg => rfl); (case hr => first | (go_simp; done) | (go_simp; rfl)); intro gb158 hg w3 hbox hb; have n0_ := am (below_step (bz HB.out) hb); have n1_ := am (hbox); have n2_ := am ((by rw [hg]; exact (below_size (bz HB.out)) : w.heap.size ≤ gb158)); have n3_ := am ((by rw [hg]; exact (below_size (bz HB.out)) : w.heap.size ≤ gb158)); clear HB; revert n0_ n1_ n2_ n3_; intro HB BK158 GW158 GE158; clear hb hbox hg))
 (try simp only [Act.put, List.setIfInBounds_toArray, List.set_cons_zero, List.set_cons_succ])
 go_cut [30] (fun v30 wc => ∃ (kq : Nat) (x30_1 : Bool), v30 = .bool x30_1 ∧ Aside0 (spec_AutomatonValid.j0 kq x30_1 a0_0 l0_1 l0_2 l0_3 = some r) ∧ Aside0 (kq ≤ k) ∧ Aside0 (wc.heap[gb158]? = some (.cells #[.int .i64 a0_0, (.slice A0_1 l0_1.length c0_1), (.slice A0_2 l0_2.length c0_2), (.slice A0_3 l0_3.length c0_3)] 30 (0, 0))) ∧ Aside0 (Below w.heap.size w wc))
 case first =>
  have H := HC2.out
  clear HC2
  replace H := Option.bind_eq_some_iff.mp H
  obtain ⟨t159, A40, H⟩ := H
  (try dsimp only at H)
  have A4 := am A40
  clear A40
  by_cases c5 : t159 = true
  ·subst c5
   have H1 : ((spec_l3Marks.f k a0_0 l0_1).bind fun t160 => (if t160 = true then ((spec_l3Marks.f k a0_0 l0_2).bind fun t161 => (if t161 = true then (spec_AutomatonValid.j0 k (decide ((l0_3.length : Int) > 24)) a0_0 l0_1 l0_2 l0_3) else (spec_AutomatonValid.j0 k true a0_0 l0_1 l0_2 l0_3))) else (spec_AutomatonValid.j0 k true a0_0 l0_1 l0_2 l0_3))) = some r := by rw [if_pos rfl] at H; exact H
   clear H
   have H := H1
   clear H1
   replace H := Option.bind_eq_some_iff.mp H
   obtain ⟨t160, A60, H⟩ := H
   (try dsimp only at H)
   have A6 := am A60
   clear A60
   by_cases c7 : t160 = true
   ·subst c7
    have H1 : ((spec_l3Marks.f k a0_0 l0_2).bind fun t161 => (if t161 = true then (spec_AutomatonValid.j0 k (decide ((l0_3.length : Int) > 24)) a0_0 l0_1 l0_2 l0_3) else (spec_AutomatonValid.j0 k true a0_0 l0_1 l0_2 l0_3))) = some r := by rw [if_pos rfl] at H; exact H
    clear H
    have H := H1
    clear H1
    replace H := Option.bind_eq_some_iff.mp H
    obtain ⟨t161, A80, H⟩ := H
    (try dsimp only at H)
    have A8 := am A80
    clear A80
    by_cases c9 : t161 = true
    ·subst c9
     have H1 : (spec_AutomatonValid.j0 k (decide ((l0_3.length : Int) > 24)) a0_0 l0_1 l0_2 l0_3) = some r := by rw [if_pos rfl] at H; exact H
     clear H
     have H := H1
     clear H1
     have H' := am H
     clear H
     have hcz10_0 := cz40 BK158.out
     have hcz10_1 := cz41 BK158.out
     have hcz10_2 := cz42 BK158.out
     have hcz10_3 := cz43 BK158.out
     have hfz10_0 := blk_frozen BK158.out 0
     have hfz10_1 := blk_frozen BK158.out 1
     have hfz10_2 := blk_frozen BK158.out 2
     have hfz10_3 := blk_frozen BK158.out 3
     go_wp2_with (first | ((with_reducible refine gate_callee (f := 39) rfl ?_); refine goesL_ (some 7) rfl rfl Try.func39 (by kernel_rfl) rfl #[.int .i64 a0_0, .int .i64 1, .int .i64 4] rfl (by (try simp only [List.map_toArray, List.map_cons, List.map_nil]); first | done | rfl | (simp only [List.length_drop, List.length_take]; rfl)) ?_; (with_reducible refine (spec_l1In.calls a0_0 1 4 true _ A4.out).mono ?_); rintro e w' ⟨rfl, ⟨nd, rfl⟩⟩; refine ⟨_, rfl, ?_⟩) | (go_at_call 40; (with_reducible refine (spec_l3Marks.calls k a0_0 _ _ l0_1 true _ ?side1 ?side2 A6.out).mono ?_); (case side1 => repeat (first | exact (Kd.C_below HR0_1.out (bw HB.out)) | (with_reducible refine Kd.C_alloc ?_ _) | (with_reducible refine Kd.C_drewN ?_ _) | (with_reducible refine Kd.C_drew ?_))); (case side2 => exact HC0_1.out); rintro e w' ⟨rfl, ⟨nd, rfl⟩⟩) | (go_at_call 40; (with_reducible refine (spec_l3Marks.calls k a0_0 _ _ l0_2 true _ ?side1 ?side2 A8.out).mono ?_); (case side1 => repeat (first | exact (Kd.C_below HR0_2.out (bw HB.out)) | (with_reducible refine Kd.C_alloc ?_ _) | (with_reducible refine Kd.C_drewN ?_ _) | (with_reducible refine Kd.C_drew ?_))); (case side2 => exact HC0_2.out); rintro e w' ⟨rfl, ⟨nd, rfl⟩⟩))
     go_meet
     case rel => exact ⟨_, (decide ((l0_3.length : Int) > 24)), (by first | rfl | (simp; done) | (simp [*]; done)), H', ⟨by first | omega | exact Nat.le_refl _⟩, ⟨kz BK158.out⟩, ⟨by exact bw HB.out⟩⟩
    ·replace c9 := Bool.eq_false_iff.mpr c9
     subst c9
     have H1 : (spec_AutomatonValid.j0 k true a0_0 l0_1 l0_2 l0_3) = some r := by rw [if_neg (show ¬ (false = true) by decide)] at H; exact H
     clear H
     have H := H1
     clear H1
     have H' := am H
     clear H
     have hcz11_0 := cz40 BK158.out
     have hcz11_1 := cz41 BK158.out
     have hcz11_2 := cz42 BK158.out
     have hcz11_3 := cz43 BK158.out
     have hfz11_0 := blk_frozen BK158.out 0
     have hfz11_1 := blk_frozen BK158.out 1
     have hfz11_2 := blk_frozen BK158.out 2
     have hfz11_3 := blk_frozen BK158.out 3
     go_wp2_with (first | ((with_reducible refine gate_callee (f := 39) rfl ?_); refine goesL_ (some 7) rfl rfl Try.func39 (by kernel_rfl) rfl #[.int .i64 a0_0, .int .i64 1, .int .i64 4] rfl (by (try simp only [List.map_toArray, List.map_cons, List.map_nil]); first | done | rfl | (simp only [List.length_drop, List.length_take]; rfl)) ?_; (with_reducible refine (spec_l1In.calls a0_0 1 4 true _ A4.out).mono ?_); rintro e w' ⟨rfl, ⟨nd, rfl⟩⟩; refine ⟨_, rfl, ?_⟩) | (go_at_call 40; (with_reducible refine (spec_l3Marks.calls k a0_0 _ _ l0_1 true _ ?side1 ?side2 A6.out).mono ?_); (case side1 => repeat (first | exact (Kd.C_below HR0_1.out (bw HB.out)) | (with_reducible refine Kd.C_alloc ?_ _) | (with_reducible refine Kd.C_drewN ?_ _) | (with_reducible refine Kd.C_drew ?_))); (case side2 => exact HC0_1.out); rintro e w' ⟨rfl, ⟨nd, rfl⟩⟩) | (go_at_call 40; (with_reducible refine (spec_l3Marks.calls k a0_0 _ _ l0_2 false _ ?side1 ?side2 A8.out).mono ?_); (case side1 => repeat (first | exact (Kd.C_below HR0_2.out (bw HB.out)) | (with_reducible refine Kd.C_alloc ?_ _) | (with_reducible refine Kd.C_drewN ?_ _) | (with_reducible refine Kd.C_drew ?_))); (case side2 => exact HC0_2.out); rintro e w' ⟨rfl, ⟨nd, rfl⟩⟩))
     go_meet
     case rel => exact ⟨_, (true), (by first | rfl | (simp; done) | (simp [*]; done)), H', ⟨by first | omega | exact Nat.le_refl _⟩, ⟨kz BK158.out⟩, ⟨by exact bw HB.out⟩⟩
   ·replace c7 := Bool.eq_false_iff.mpr c7
    subst c7
    have H1 : (spec_AutomatonValid.j0 k true a0_0 l0_1 l0_2 l0_3) = some r := by rw [if_neg (show ¬ (false = true) by decide)] at H; exact H
    clear H
    have H := H1
    clear H1
    have H' := am H
    clear H
    have hcz12_0 := cz40 BK158.out
    have hcz12_1 := cz41 BK158.out
    have hcz12_2 := cz42 BK158.out
    have hcz12_3 := cz43 BK158.out
    have hfz12_0 := blk_frozen BK158.out 0
    have hfz12_1 := blk_frozen BK158.out 1
    have hfz12_2 := blk_frozen BK158.out 2
    have hfz12_3 := blk_frozen BK158.out 3
    go_wp2_with (first | ((with_reducible refine gate_callee (f := 39) rfl ?_); refine goesL_ (some 7) rfl rfl Try.func39 (by kernel_rfl) rfl #[.int .i64 a0_0, .int .i64 1, .int .i64 4] rfl (by (try simp only [List.map_toArray, List.map_cons, List.map_nil]); first | done | rfl | (simp only [List.length_drop, List.length_take]; rfl)) ?_; (with_reducible refine (spec_l1In.calls a0_0 1 4 true _ A4.out).mono ?_); rintro e w' ⟨rfl, ⟨nd, rfl⟩⟩; refine ⟨_, rfl, ?_⟩) | (go_at_call 40; (with_reducible refine (spec_l3Marks.calls k a0_0 _ _ l0_1 false _ ?side1 ?side2 A6.out).mono ?_); (case side1 => repeat (first | exact (Kd.C_below HR0_1.out (bw HB.out)) | (with_reducible refine Kd.C_alloc ?_ _) | (with_reducible refine Kd.C_drewN ?_ _) | (with_reducible refine Kd.C_drew ?_))); (case side2 => exact HC0_1.out); rintro e w' ⟨rfl, ⟨nd, rfl⟩⟩))
    go_meet
    case rel => exact ⟨_, (true), (by first | rfl | (simp; done) | (simp [*]; done)), H', ⟨by first | omega | exact Nat.le_refl _⟩, ⟨kz BK158.out⟩, ⟨by exact bw HB.out⟩⟩
  ·replace c5 := Bool.eq_false_iff.mpr c5
   subst c5
   have H1 : (spec_AutomatonValid.j0 k true a0_0 l0_1 l0_2 l0_3) = some r := by rw [if_neg (show ¬ (false = true) by decide)] at H; exact H
   clear H
   have H := H1
   clear H1
   have H' := am H
   clear H
   have hcz13_0 := cz40 BK158.out
   have hcz13_1 := cz41 BK158.out
   have hcz13_2 := cz42 BK158.out
   have hcz13_3 := cz43 BK158.out
   have hfz13_0 := blk_frozen BK158.out 0
   have hfz13_1 := blk_frozen BK158.out 1
   have hfz13_2 := blk_frozen BK158.out 2
   have hfz13_3 := blk_frozen BK158.out 3
   go_wp2_with (first | ((with_reducible refine gate_callee (f := 39) rfl ?_); refine goesL_ (some 7) rfl rfl Try.func39 (by kernel_rfl) rfl #[.int .i64 a0_0, .int .i64 1, .int .i64 4] rfl (by (try simp only [List.map_toArray, List.map_cons, List.map_nil]); first | done | rfl | (simp only [List.length_drop, List.length_take]; rfl)) ?_; (with_reducible refine (spec_l1In.calls a0_0 1 4 false _ A4.out).mono ?_); rintro e w' ⟨rfl, ⟨nd, rfl⟩⟩; refine ⟨_, rfl, ?_⟩))
   go_meet
   case rel => exact ⟨_, (true), (by first | rfl | (simp; done) | (simp [*]; done)), H', ⟨by first | omega | exact Nat.le_refl _⟩, ⟨kz BK158.out⟩, ⟨by exact bw HB.out⟩⟩
 case rest =>
  clear HC2
  try clear c1
  try clear p2
  try clear c3
  try clear c5
  try clear c7
  try clear c9
  try clear c12
  try clear hcz10_0
  try clear hcz10_1
  try clear hcz10_2
  try clear hcz10_3
  try clear hcz11_0
  try clear hcz11_1
  try clear hcz11_2
  try clear hcz11_3
  try clear hcz12_0
  try clear hcz12_1
  try clear hcz12_2
  try clear hcz12_3
  try clear hcz13_0
  try clear hcz13_1
  try clear hcz13_2
  try clear hcz13_3
  try clear hfz10_0
  try clear hfz10_1
  try clear hfz10_2
  try clear hfz10_3
  try clear hfz11_0
  try clear hfz11_1
  try clear hfz11_2
  try clear hfz11_3
  try clear hfz12_0
  try clear hfz12_1
  try clear hfz12_2
  try clear hfz12_3
  try clear hfz13_0
  try clear hfz13_1
  try clear hfz13_2
  try clear hfz13_3
  obtain ⟨kq, x30_1, rfl, HA, HJ1, BK158, HB⟩ := hcut
  cases kq with
  | zero => exact absurd HA.out (by simp [spec_AutomatonValid.j0])
  | succ kj1 =>
   have H := HA.out
   clear HA
   simp only [spec_AutomatonValid.j0] at H
   by_cases c14 : x30_1 = true
   ·subst c14
    have H1 : (some false) = some r := by rw [if_pos rfl] at H; exact H
    clear H
    have H := H1
    clear H1
    obtain rfl := Option.some.inj H
    go_wp2
    go_ret
    exact ⟨by first | rfl | (simp [errW_none, errW_some] <;> rfl) | (simp [*, errW_none, errW_some] <;> rfl), by exact bw HB.out⟩
   ·replace c14 := Bool.eq_false_iff.mpr c14
    subst c14
    have H1 : (spec_AutomatonValid.l0 kj1 l0_3 (l0_3.length : Int) 0 a0_0 l0_1 l0_2 l0_3) = some r := by rw [if_neg (show ¬ (false = true) by decide)] at H; exact H
    clear H
    have H := H1
    clear H1
    have H' := am H
    clear H
    have hcz15_0 := cz40 BK158.out
    have hcz15_1 := cz41 BK158.out
    have hcz15_2 := cz42 BK158.out
    have hcz15_3 := cz43 BK158.out
    have hfz15_0 := blk_frozen BK158.out 0
    have hfz15_1 := blk_frozen BK158.out 1
    have hfz15_2 := blk_frozen BK158.out 2
    have hfz15_3 := blk_frozen BK158.out 3
    go_wp2
    go_loopg [34] kj1 (fun kq v34 w' => ∃ (x34_2 : Int), v34 = .int .i64 x34_2 ∧ Aside0 (spec_AutomatonValid.l0 kq l0_3 (l0_3.length : Int) x34_2 a0_0 l0_1 l0_2 l0_3 = some r) ∧ Aside0 (kq ≤ kj1) ∧ Aside0 (w'.heap[gb158]? = some (.cells #[.int .i64 a0_0, (.slice A0_1 l0_1.length c0_1), (.slice A0_2 l0_2.length c0_2), (.slice A0_3 l0_3.length c0_3)] 30 (0, 0))) ∧ Aside0 (Below w.heap.size w w'))
    case atStart => exact ⟨(0), (by first | rfl | (simp; done) | (simp [*]; done)), H', ⟨Nat.le_refl _⟩, ⟨kz BK158.out⟩, ⟨by exact bw HB.out⟩⟩
    case round =>
     clear H'
     try clear c1
     try clear p2
     try clear c3
     try clear c5
     try clear c7
     try clear c9
     try clear c12
     try clear c14
     try clear hcz10_0
     try clear hcz10_1
     try clear hcz10_2
     try clear hcz10_3
     try clear hcz11_0
     try clear hcz11_1
     try clear hcz11_2
     try clear hcz11_3
     try clear hcz12_0
     try clear hcz12_1
     try clear hcz12_2
     try clear hcz12_3
     try clear hcz13_0
     try clear hcz13_1
     try clear hcz13_2
     try clear hcz13_3
     try clear hcz15_0
     try clear hcz15_1
     try clear hcz15_2
     try clear hcz15_3
     try clear hfz10_0
     try clear hfz10_1
     try clear hfz10_2
     try clear hfz10_3
     try clear hfz11_0
     try clear hfz11_1
     try clear hfz11_2
     try clear hfz11_3
     try clear hfz12_0
     try clear hfz12_1
     try clear hfz12_2
     try clear hfz12_3
     try clear hfz13_0
     try clear hfz13_1
     try clear hfz13_2
     try clear hfz13_3
     try clear hfz15_0
     try clear hfz15_1
     try clear hfz15_2
     try clear hfz15_3
     try clear p2
     obtain ⟨x34_2, rfl, HA, HK2, BK158, HB⟩ := hrel
     cases gk with
     | zero => exact absurd HA.out (by simp [spec_AutomatonValid.l0])
     | succ k2 =>
      have H := HA.out
      clear HA
      simp only [spec_AutomatonValid.l0] at H
      by_cases c16 : x34_2 < (l0_3.length : Int)
      ·rw [if_pos c16] at H
       have c16b0 : decide (x34_2 < (l0_3.length : Int)) = true := decide_eq_true c16
       clear c16
       by_cases c17 : 0 ≤ x34_2
       ·rw [if_pos c17] at H
        have c17b0 : decide (0 ≤ x34_2) = true := decide_eq_true c17
        clear c17
        by_cases c18 : x34_2 < (l0_3.length : Int)
        ·rw [if_pos c18] at H
         have c18b0 : decide (x34_2 < (l0_3.length : Int)) = true := decide_eq_true c18
         clear c18
         replace H := Option.bind_eq_some_iff.mp H
         obtain ⟨t164, A190, H⟩ := H
         (try dsimp only at H)
         have A19 := am A190
         clear A190
         by_cases c20 : t164 = true
         ·subst c20
          have H1 : (if x34_2 > 0 then (if 0 ≤ (wrap64 (x34_2 - 1)) then (if (wrap64 (x34_2 - 1)) < (l0_3.length : Int) then ((spec_l3Before.f ((rd_T51 l0_3 (wrap64 (x34_2 - 1))).f0) ((rd_T51 l0_3 (wrap64 (x34_2 - 1))).f1) ((rd_T51 l0_3 (wrap64 (x34_2 - 1))).f2) ((rd_T51 l0_3 (wrap64 (x34_2 - 1))).f3) ((rd_T51 l0_3 x34_2).f0) ((rd_T51 l0_3 x34_2).f1) ((rd_T51 l0_3 x34_2).f2) ((rd_T51 l0_3 x34_2).f3)).bind fun t166 => (if t166 = true then (spec_AutomatonValid.l0 k2 l0_3 (l0_3.length : Int) (wrap64 (x34_2 + 1)) a0_0 l0_1 l0_2 l0_3) else (some false))) else (none)) else (none)) else (spec_AutomatonValid.l0 k2 l0_3 (l0_3.length : Int) (wrap64 (x34_2 + 1)) a0_0 l0_1 l0_2 l0_3)) = some r := by rw [if_pos rfl] at H; exact H
          clear H
          have H := H1
          clear H1
          by_cases c21 : x34_2 > 0
          ·rw [if_pos c21] at H
           have c21b0 : decide (0 < x34_2) = true := decide_eq_true c21
           clear c21
           obtain ⟨ji22, hji22⟩ : ∃ j_ : Int, (wrap64 (x34_2 - 1)) = j_ := ⟨_, rfl⟩
           replace H : (if 0 ≤ (ji22) then (if (ji22) < (l0_3.length : Int) then ((spec_l3Before.f ((rd_T51 l0_3 (ji22)).f0) ((rd_T51 l0_3 (ji22)).f1) ((rd_T51 l0_3 (ji22)).f2) ((rd_T51 l0_3 (ji22)).f3) ((rd_T51 l0_3 x34_2).f0) ((rd_T51 l0_3 x34_2).f1) ((rd_T51 l0_3 x34_2).f2) ((rd_T51 l0_3 x34_2).f3)).bind fun t166 => (if t166 = true then (spec_AutomatonValid.l0 k2 l0_3 (l0_3.length : Int) (wrap64 (x34_2 + 1)) a0_0 l0_1 l0_2 l0_3) else (some false))) else (none)) else (none)) = some r := by first | (rw [hji22] at H; exact H) | (simp only [hji22] at H ⊢; exact H)
           (try rw [hji22] at A19)
           have hji22w : (IntKind.i64.wrap (x34_2 - 1)) = ji22 := (i64_w _).trans hji22
           by_cases c23 : 0 ≤ (ji22)
           ·rw [if_pos c23] at H
            have c23b0 : decide (0 ≤ (ji22)) = true := decide_eq_true c23
            clear c23
            by_cases c24 : (ji22) < (l0_3.length : Int)
            ·rw [if_pos c24] at H
             have c24b0 : decide ((ji22) < (l0_3.length : Int)) = true := decide_eq_true c24
             clear c24
             replace H := Option.bind_eq_some_iff.mp H
             obtain ⟨t166, A250, H⟩ := H
             (try dsimp only at H)
             have A25 := am A250
             clear A250
             by_cases c26 : t166 = true
             ·subst c26
              have H1 : (spec_AutomatonValid.l0 k2 l0_3 (l0_3.length : Int) (wrap64 (x34_2 + 1)) a0_0 l0_1 l0_2 l0_3) = some r := by rw [if_pos rfl] at H; exact H
              clear H
              have H := H1
              clear H1
              have H' := am H
              clear H
              have p162 : 0 ≤ (x34_2 : Int) := of_decide_eq_true (by first | (with_reducible assumption) | assumption)
              have q162 : x34_2 < (l0_3.length : Int) := of_decide_eq_true (by first | (with_reducible assumption) | assumption)
              obtain ⟨ad162, e162, hx162_0, hx162_1, hx162_2, hx162_3⟩ := at_T51 HR0_3.out x34_2 p162 q162
              cases e162
              replace hx162_0 := (HB.out.cell (World.block_lt_of_cell? w _ hx162_0)).trans hx162_0
              replace hx162_1 := (HB.out.cell (World.block_lt_of_cell? w _ hx162_1)).trans hx162_1
              replace hx162_2 := (HB.out.cell (World.block_lt_of_cell? w _ hx162_2)).trans hx162_2
              replace hx162_3 := (HB.out.cell (World.block_lt_of_cell? w _ hx162_3)).trans hx162_3
              replace p162 := eq_true p162
              replace q162 := eq_true q162
              try go_wp2_with (first | ((with_reducible refine gate_dst (N := 4) rfl ?_); (try (refine gate_guard (by rfl) ?_; dsimp only)); refine box_event ?hg (N := 4) ?hd (cs := #[.int .i64 0, .string (⟨#[]⟩ : ByteArray), .int .i64 0, .int .i64 0]) (t := 51) ?hr ?_; (case hd => rfl); (case hg => rfl); (case hr => first | (go_simp; done) | (go_simp; rfl)); intro gb163 hg w27 hbox hb; have n0_ := bk BK158 hb; have n1_ := am (below_step (bw HB.out) hb); have n2_ := am (hbox); have n3_ := am ((by rw [hg]; exact (below_size (bw HB.out)) : w.heap.size ≤ gb163)); have n4_ := am ((by rw [hg]; exact (below_size (bw HB.out)) : w.heap.size ≤ gb163)); have n5_ := am ((by rw [hg]; exact Nat.ne_of_lt (blk_lt (kz BK158.out)) : gb158 ≠ gb163)); have n6_ := am ((by rw [hg]; exact Nat.ne_of_gt (blk_lt (kz BK158.out)) : gb163 ≠ gb158)); clear BK158 HB; revert n0_ n1_ n2_ n3_ n4_ n5_ n6_; intro BK158 HB BK163 GW163 GE163 NB158_163 NB163_158; clear hb hbox hg; have hnb28 := NB163_158.out; have hnc28 := NB158_163.out; have hcz29_0 := cz40 BK163.out; have hcz29_1 := cz41 BK163.out; have hcz29_2 := cz42 BK163.out; have hcz29_3 := cz43 BK163.out; have hfz29_0 := blk_frozen BK163.out 0; have hfz29_1 := blk_frozen BK163.out 1; have hfz29_2 := blk_frozen BK163.out 2; have hfz29_3 := blk_frozen BK163.out 3))
              have n0_ : Aside0 (((((w27.setCell ⟨gb163, 0, none⟩ (.int .i64 ((rd_T51 l0_3 x34_2).f0))).setCell ⟨gb163, 1, none⟩ (.string ((rd_T51 l0_3 x34_2).f1))).setCell ⟨gb163, 2, none⟩ (.int .i64 ((rd_T51 l0_3 x34_2).f2))).setCell ⟨gb163, 3, none⟩ (.int .i64 ((rd_T51 l0_3 x34_2).f3))).heap[gb158]? = some (.cells #[.int .i64 a0_0, .slice A0_1 l0_1.length c0_1, .slice A0_2 l0_2.length c0_2, .slice (some ad162) l0_3.length c0_3] 30 (0, 0))) := ⟨by (with_reducible repeat (first | refine kn ?_ _ | refine kd ?_ | refine ka ?_ _)); refine blk_far ?_ NB158_163.out _; (with_reducible repeat (first | refine kn ?_ _ | refine kd ?_ | refine ka ?_ _)); refine blk_far ?_ NB158_163.out _; (with_reducible repeat (first | refine kn ?_ _ | refine kd ?_ | refine ka ?_ _)); refine blk_far ?_ NB158_163.out _; (with_reducible repeat (first | refine kn ?_ _ | refine kd ?_ | refine ka ?_ _)); refine blk_far ?_ NB158_163.out _; (with_reducible repeat (first | refine kn ?_ _ | refine kd ?_ | refine ka ?_ _)); exact BK158.out⟩
              have n1_ : Aside0 (((((w27.setCell ⟨gb163, 0, none⟩ (.int .i64 ((rd_T51 l0_3 x34_2).f0))).setCell ⟨gb163, 1, none⟩ (.string ((rd_T51 l0_3 x34_2).f1))).setCell ⟨gb163, 2, none⟩ (.int .i64 ((rd_T51 l0_3 x34_2).f2))).setCell ⟨gb163, 3, none⟩ (.int .i64 ((rd_T51 l0_3 x34_2).f3))).heap[gb163]? = some (.cells #[.int .i64 ((rd_T51 l0_3 x34_2).f0), .string ((rd_T51 l0_3 x34_2).f1), .int .i64 ((rd_T51 l0_3 x34_2).f2), .int .i64 ((rd_T51 l0_3 x34_2).f3)] 51 (0, 0))) := ⟨by (with_reducible repeat (first | refine kn ?_ _ | refine kd ?_ | refine ka ?_ _)); refine blk_put (cs := #[.int .i64 ((rd_T51 l0_3 x34_2).f0), .string ((rd_T51 l0_3 x34_2).f1), .int .i64 ((rd_T51 l0_3 x34_2).f2), .int .i64 0]) ?_ 3 _ rfl; (with_reducible repeat (first | refine kn ?_ _ | refine kd ?_ | refine ka ?_ _)); refine blk_put (cs := #[.int .i64 ((rd_T51 l0_3 x34_2).f0), .string ((rd_T51 l0_3 x34_2).f1), .int .i64 0, .int .i64 0]) ?_ 2 _ rfl; (with_reducible repeat (first | refine kn ?_ _ | refine kd ?_ | refine ka ?_ _)); refine blk_put (cs := #[.int .i64 ((rd_T51 l0_3 x34_2).f0), .string (⟨#[]⟩ : ByteArray), .int .i64 0, .int .i64 0]) ?_ 1 _ rfl; (with_reducible repeat (first | refine kn ?_ _ | refine kd ?_ | refine ka ?_ _)); refine blk_put (cs := #[.int .i64 0, .string (⟨#[]⟩ : ByteArray), .int .i64 0, .int .i64 0]) ?_ 0 _ rfl; (with_reducible repeat (first | refine kn ?_ _ | refine kd ?_ | refine ka ?_ _)); exact BK163.out⟩
              have n2_ : Aside0 (Below w.heap.size w ((((w27.setCell ⟨gb163, 0, none⟩ (.int .i64 ((rd_T51 l0_3 x34_2).f0))).setCell ⟨gb163, 1, none⟩ (.string ((rd_T51 l0_3 x34_2).f1))).setCell ⟨gb163, 2, none⟩ (.int .i64 ((rd_T51 l0_3 x34_2).f2))).setCell ⟨gb163, 3, none⟩ (.int .i64 ((rd_T51 l0_3 x34_2).f3)))) := ⟨by exact bw HB.out⟩
              (try clear BK158)
              (try clear BK163)
              (try clear HB)
              generalize ((((w27.setCell ⟨gb163, 0, none⟩ (.int .i64 ((rd_T51 l0_3 x34_2).f0))).setCell ⟨gb163, 1, none⟩ (.string ((rd_T51 l0_3 x34_2).f1))).setCell ⟨gb163, 2, none⟩ (.int .i64 ((rd_T51 l0_3 x34_2).f2))).setCell ⟨gb163, 3, none⟩ (.int .i64 ((rd_T51 l0_3 x34_2).f3))) = w30 at n0_ n1_ n2_ ⊢
              revert n0_ n1_ n2_; intro BK158 BK163 HB
              have n0_ := am (blk_drew BK158.out)
              have n1_ := am (blk_drew BK163.out)
              have n2_ := am (below_drew1 HB.out)
              clear BK158 BK163 HB
              revert n0_ n1_ n2_; intro BK158 BK163 HB
              have p165 : 0 ≤ ((ji22) : Int) := of_decide_eq_true (by first | (with_reducible assumption) | assumption)
              have q165 : (ji22) < (l0_3.length : Int) := of_decide_eq_true (by first | (with_reducible assumption) | assumption)
              obtain ⟨ad165, e165, hx165_0, hx165_1, hx165_2, hx165_3⟩ := at_T51 HR0_3.out (ji22) p165 q165
              have hw165_3 := hx165_3
              have hw165_2 := hx165_2
              have hw165_1 := hx165_1
              have hw165_0 := hx165_0
              obtain rfl : ad162 = ad165 := (by injection e165)
              replace hx165_0 := (HB.out.cell (World.block_lt_of_cell? w _ hx165_0)).trans hx165_0
              replace hx165_1 := (HB.out.cell (World.block_lt_of_cell? w _ hx165_1)).trans hx165_1
              replace hx165_2 := (HB.out.cell (World.block_lt_of_cell? w _ hx165_2)).trans hx165_2
              replace hx165_3 := (HB.out.cell (World.block_lt_of_cell? w _ hx165_3)).trans hx165_3
              replace p165 := eq_true p165
              replace q165 := eq_true q165
              refine start_ (n := 20) (S := fun w' => w'.cell? ⟨gb158, 0, none⟩ = some (.int .i64 a0_0) ∧ w'.cell? ⟨gb158, 1, none⟩ = some (.slice A0_1 l0_1.length c0_1) ∧ w'.cell? ⟨gb158, 2, none⟩ = some (.slice A0_2 l0_2.length c0_2) ∧ w'.cell? ⟨gb158, 3, none⟩ = some (.slice (some ad162) l0_3.length c0_3) ∧ w'.cell? ⟨gb163, 0, none⟩ = some (.int .i64 ((rd_T51 l0_3 x34_2).f0)) ∧ w'.cell? ⟨gb163, 1, none⟩ = some (.string ((rd_T51 l0_3 x34_2).f1)) ∧ w'.cell? ⟨gb163, 2, none⟩ = some (.int .i64 ((rd_T51 l0_3 x34_2).f2)) ∧ w'.cell? ⟨gb163, 3, none⟩ = some (.int .i64 ((rd_T51 l0_3 x34_2).f3)) ∧ w'.cell? (ad162.add (((ji22)).toNat * 4)) = some (.int .i64 ((rd_T51 l0_3 (ji22)).f0)) ∧ w'.cell? ⟨(ad162.add (((ji22)).toNat * 4)).block, (ad162.add (((ji22)).toNat * 4)).off + 1, none⟩ = some (.string ((rd_T51 l0_3 (ji22)).f1)) ∧ w'.cell? ⟨(ad162.add (((ji22)).toNat * 4)).block, (ad162.add (((ji22)).toNat * 4)).off + 2, none⟩ = some (.int .i64 ((rd_T51 l0_3 (ji22)).f2)) ∧ w'.cell? ⟨(ad162.add (((ji22)).toNat * 4)).block, (ad162.add (((ji22)).toNat * 4)).off + 3, none⟩ = some (.int .i64 ((rd_T51 l0_3 (ji22)).f3))) (ds := []) (mk 20 0) (by kernel_rfl) rfl rfl ⟨(blk_cell BK158.out 0).trans rfl, (blk_cell BK158.out 1).trans rfl, (blk_cell BK158.out 2).trans rfl, (blk_cell BK158.out 3).trans rfl, (blk_cell BK163.out 0).trans rfl, (blk_cell BK163.out 1).trans rfl, (blk_cell BK163.out 2).trans rfl, (blk_cell BK163.out 3).trans rfl, ((HB.out.cell (World.block_lt_of_cell? w _ hw165_0)).trans hw165_0), ((HB.out.cell (World.block_lt_of_cell? w _ hw165_1)).trans hw165_1), ((HB.out.cell (World.block_lt_of_cell? w _ hw165_2)).trans hw165_2), ((HB.out.cell (World.block_lt_of_cell? w _ hw165_3)).trans hw165_3)⟩ (fun hHeld => ?_); refine with_tabW spec_AutomatonValid.tab6 spec_AutomatonValid.bits6 (fun HT_ HW_ => ?_)
              generalize w30.drew = w31 at BK158 BK163 HB hx165_0 hx165_1 hx165_2 hx165_3 hHeld ⊢
              refine pv 0 39 20 1 HT_ ?_
              refine take_ (i := 1) (N := some 40) (v := ?_) (a' := ?_) (mk 20 3) rfl rfl (take_ofW HT_.out HW_.out (by kernel_rfl)) (fun _ _ _ h => h) (Or.inl ⟨by rfl, ?_⟩) hHeld ?_ ?_
              rotate_left
              ·rintro w' ⟨s0, s1, s2, s3, s4, s5, s6, s7, s8, s9, s10, s11⟩
               go_simp
               with_reducible rfl
              rotate_left
              ·simp only [Act.put, List.setIfInBounds_toArray, List.set_cons_zero, List.set_cons_succ, i64_w, i32_w]
               rfl
              refine take_ (i := 2) (N := some 41) (v := ?_) (a' := ?_) (mk 20 7) rfl rfl (take_ofW HT_.out HW_.out (by kernel_rfl)) (fun _ _ _ h => h) (Or.inl ⟨by rfl, ?_⟩) hHeld ?_ ?_
              rotate_left
              ·rintro w' ⟨s0, s1, s2, s3, s4, s5, s6, s7, s8, s9, s10, s11⟩
               go_simp
               with_reducible rfl
              rotate_left
              ·simp only [Act.put, List.setIfInBounds_toArray, List.set_cons_zero, List.set_cons_succ, i64_w, i32_w]
               rfl
              refine one_ (i := 3) (N := some 42) (mk 20 15) rfl rfl (one_of HT_.out (by kernel_rfl)) (by decide) (fun K hK => ?_)
              refine goes_ Try.func41 (by kernel_rfl) rfl #[.int .i64 a0_0, .agg #[.int .i64 ((rd_T51 l0_3 x34_2).f0), .string ((rd_T51 l0_3 x34_2).f1), .int .i64 ((rd_T51 l0_3 x34_2).f2), .int .i64 ((rd_T51 l0_3 x34_2).f3)]] (by rfl) rfl rfl (by (try simp only [List.map_toArray, List.map_cons, List.map_nil]); first | done | rfl | (simp only [List.length_drop, List.length_take]; rfl)) ?_
              with_reducible refine (spec_l3Step.calls a0_0 ((rd_T51 l0_3 x34_2).f0) ((rd_T51 l0_3 x34_2).f1) ((rd_T51 l0_3 x34_2).f2) ((rd_T51 l0_3 x34_2).f3) true _ A19.out).mono ?_
              rintro e w32 ⟨rfl, hb⟩
              refine ⟨_, rfl, ?_⟩
              have n0_ := bk BK158 hb
              have n1_ := bk BK163 hb
              have n2_ := am (below_step (bw HB.out) hb)
              clear BK158 BK163 HB
              revert n0_ n1_ n2_; intro BK158 BK163 HB
              (try clear hb)
              (try clear hb2)
              (try clear hk)
              (try clear hi)
              refine hK.out _ _ ⟨(blk_cell BK158.out 0).trans rfl, (blk_cell BK158.out 1).trans rfl, (blk_cell BK158.out 2).trans rfl, (blk_cell BK158.out 3).trans rfl, (blk_cell BK163.out 0).trans rfl, (blk_cell BK163.out 1).trans rfl, (blk_cell BK163.out 2).trans rfl, (blk_cell BK163.out 3).trans rfl, ((HB.out.cell (World.block_lt_of_cell? w _ hw165_0)).trans hw165_0), ((HB.out.cell (World.block_lt_of_cell? w _ hw165_1)).trans hw165_1), ((HB.out.cell (World.block_lt_of_cell? w _ hw165_2)).trans hw165_2), ((HB.out.cell (World.block_lt_of_cell? w _ hw165_3)).trans hw165_3)⟩ (fun hHeld => ?_)
              clear hK K
              refine norm_ (a' := ?_) ?_ ?_
              rotate_left
              ·show Act.put _ (some 42) _ = _
               simp only [Act.put, List.setIfInBounds_toArray, List.set_cons_zero, List.set_cons_succ, i64_w, i32_w]
               rfl
              refine pv 4 43 20 31 HT_ ?_
              refine pv 5 44 20 63 HT_ ?_
              refine pv 6 45 20 127 HT_ ?_
              refine pv 7 46 20 255 HT_ ?_
              refine pv 8 47 20 511 HT_ ?_
              refine pv 9 48 20 1023 HT_ ?_
              refine pv 11 50 20 3071 HT_ ?_
              refine pv 12 51 20 7167 HT_ ?_
              refine take_ (i := 10) (N := some 49) (v := ?_) (a' := ?_) (mk 20 8191) rfl rfl (take_ofW HT_.out HW_.out (by kernel_rfl)) (fun _ _ _ h => h) (Or.inl ⟨by rfl, ?_⟩) hHeld ?_ ?_
              rotate_left
              ·rintro w' ⟨s0, s1, s2, s3, s4, s5, s6, s7, s8, s9, s10, s11⟩
               go_simp
               with_reducible rfl
              rotate_left
              ·simp only [Act.put, List.setIfInBounds_toArray, List.set_cons_zero, List.set_cons_succ, i64_w, i32_w]
               rfl
              refine pv 13 52 20 16383 HT_ ?_
              refine take_ (i := 14) (N := some 53) (v := ?_) (a' := ?_) (mk 20 32767) rfl rfl (take_ofW HT_.out HW_.out (by kernel_rfl)) (fun _ _ _ h => h) (Or.inl ⟨by rfl, ?_⟩) hHeld ?_ ?_
              rotate_left
              ·rintro w' ⟨s0, s1, s2, s3, s4, s5, s6, s7, s8, s9, s10, s11⟩
               go_simp
               with_reducible rfl
              rotate_left
              ·simp only [Act.put, List.setIfInBounds_toArray, List.set_cons_zero, List.set_cons_succ, i64_w, i32_w]
               rfl
              refine take_ (i := 15) (N := some 54) (v := ?_) (a' := ?_) (mk 20 65535) rfl rfl (take_ofW HT_.out HW_.out (by kernel_rfl)) (fun _ _ _ h => h) (Or.inl ⟨by rfl, ?_⟩) hHeld ?_ ?_
              rotate_left
              ·rintro w' ⟨s0, s1, s2, s3, s4, s5, s6, s7, s8, s9, s10, s11⟩
               go_simp
               with_reducible rfl
              rotate_left
              ·simp only [Act.put, List.setIfInBounds_toArray, List.set_cons_zero, List.set_cons_succ, i64_w, i32_w]
               rfl
              refine one_ (i := 16) (N := some 55) (mk 20 131071) rfl rfl (one_of HT_.out (by kernel_rfl)) (by decide) (fun K hK => ?_)
              refine goes_ Try.func42 (by kernel_rfl) rfl #[.agg #[.int .i64 ((rd_T51 l0_3 (ji22)).f0), .string ((rd_T51 l0_3 (ji22)).f1), .int .i64 ((rd_T51 l0_3 (ji22)).f2), .int .i64 ((rd_T51 l0_3 (ji22)).f3)], .agg #[.int .i64 ((rd_T51 l0_3 x34_2).f0), .string ((rd_T51 l0_3 x34_2).f1), .int .i64 ((rd_T51 l0_3 x34_2).f2), .int .i64 ((rd_T51 l0_3 x34_2).f3)]] (by rfl) rfl rfl (by (try simp only [List.map_toArray, List.map_cons, List.map_nil]); first | done | (simp only [hji22]; rfl) | rfl | (simp only [List.length_drop, List.length_take]; rfl)) ?_
              with_reducible refine (spec_l3Before.calls ((rd_T51 l0_3 (ji22)).f0) ((rd_T51 l0_3 (ji22)).f1) ((rd_T51 l0_3 (ji22)).f2) ((rd_T51 l0_3 (ji22)).f3) ((rd_T51 l0_3 x34_2).f0) ((rd_T51 l0_3 x34_2).f1) ((rd_T51 l0_3 x34_2).f2) ((rd_T51 l0_3 x34_2).f3) true _ A25.out).mono ?_
              rintro e w33 ⟨rfl, hb⟩
              refine ⟨_, rfl, ?_⟩
              have n0_ := bk BK158 hb
              have n1_ := bk BK163 hb
              have n2_ := am (below_step (bw HB.out) hb)
              clear BK158 BK163 HB
              revert n0_ n1_ n2_; intro BK158 BK163 HB
              (try clear hb)
              (try clear hb2)
              (try clear hk)
              (try clear hi)
              refine hK.out _ _ ⟨(blk_cell BK158.out 0).trans rfl, (blk_cell BK158.out 1).trans rfl, (blk_cell BK158.out 2).trans rfl, (blk_cell BK158.out 3).trans rfl, (blk_cell BK163.out 0).trans rfl, (blk_cell BK163.out 1).trans rfl, (blk_cell BK163.out 2).trans rfl, (blk_cell BK163.out 3).trans rfl, ((HB.out.cell (World.block_lt_of_cell? w _ hw165_0)).trans hw165_0), ((HB.out.cell (World.block_lt_of_cell? w _ hw165_1)).trans hw165_1), ((HB.out.cell (World.block_lt_of_cell? w _ hw165_2)).trans hw165_2), ((HB.out.cell (World.block_lt_of_cell? w _ hw165_3)).trans hw165_3)⟩ (fun hHeld => ?_)
              clear hK K
              refine norm_ (a' := ?_) ?_ ?_
              rotate_left
              ·show Act.put _ (some 55) _ = _
               simp only [Act.put, List.setIfInBounds_toArray, List.set_cons_zero, List.set_cons_succ, i64_w, i32_w]
               rfl
              refine pv 17 56 20 262143 HT_ ?_
              refine pv 18 57 20 524287 HT_ ?_
              refine pv 19 58 20 1048575 HT_ ?_
              refine done_ (done_of HT_.out (by kernel_rfl)) ?_
              try go_wp2
              go_roundg k2
              case measure => have := HJ1.out; have := HK2.out; omega
              case rel => exact ⟨(wrap64 (x34_2 + 1)), (by first | rfl | (simp; done) | (simp [*]; done)), H', ⟨by have := HJ1.out; have := HK2.out; omega⟩, ⟨kz BK158.out⟩, ⟨by exact bw HB.out⟩⟩
             ·replace c26 := Bool.eq_false_iff.mpr c26
              subst c26
              have H1 : (some false) = some r := by rw [if_neg (show ¬ (false = true) by decide)] at H; exact H
              clear H
              have H := H1
              clear H1
              obtain rfl := Option.some.inj H
              have p162 : 0 ≤ (x34_2 : Int) := of_decide_eq_true (by first | (with_reducible assumption) | assumption)
              have q162 : x34_2 < (l0_3.length : Int) := of_decide_eq_true (by first | (with_reducible assumption) | assumption)
              obtain ⟨ad162, e162, hx162_0, hx162_1, hx162_2, hx162_3⟩ := at_T51 HR0_3.out x34_2 p162 q162
              cases e162
              replace hx162_0 := (HB.out.cell (World.block_lt_of_cell? w _ hx162_0)).trans hx162_0
              replace hx162_1 := (HB.out.cell (World.block_lt_of_cell? w _ hx162_1)).trans hx162_1
              replace hx162_2 := (HB.out.cell (World.block_lt_of_cell? w _ hx162_2)).trans hx162_2
              replace hx162_3 := (HB.out.cell (World.block_lt_of_cell? w _ hx162_3)).trans hx162_3
              replace p162 := eq_true p162
              replace q162 := eq_true q162
              try go_wp2_with (first | ((with_reducible refine gate_dst (N := 4) rfl ?_); (try (refine gate_guard (by rfl) ?_; dsimp only)); refine box_event ?hg (N := 4) ?hd (cs := #[.int .i64 0, .string (⟨#[]⟩ : ByteArray), .int .i64 0, .int .i64 0]) (t := 51) ?hr ?_; (case hd => rfl); (case hg => rfl); (case hr => first | (go_simp; done) | (go_simp; rfl)); intro gb163 hg w34 hbox hb; have n0_ := bk BK158 hb; have n1_ := am (below_step (bw HB.out) hb); have n2_ := am (hbox); have n3_ := am ((by rw [hg]; exact (below_size (bw HB.out)) : w.heap.size ≤ gb163)); have n4_ := am ((by rw [hg]; exact (below_size (bw HB.out)) : w.heap.size ≤ gb163)); have n5_ := am ((by rw [hg]; exact Nat.ne_of_lt (blk_lt (kz BK158.out)) : gb158 ≠ gb163)); have n6_ := am ((by rw [hg]; exact Nat.ne_of_gt (blk_lt (kz BK158.out)) : gb163 ≠ gb158)); clear BK158 HB; revert n0_ n1_ n2_ n3_ n4_ n5_ n6_; intro BK158 HB BK163 GW163 GE163 NB158_163 NB163_158; clear hb hbox hg; have hnb35 := NB163_158.out; have hnc35 := NB158_163.out; have hcz36_0 := cz40 BK163.out; have hcz36_1 := cz41 BK163.out; have hcz36_2 := cz42 BK163.out; have hcz36_3 := cz43 BK163.out; have hfz36_0 := blk_frozen BK163.out 0; have hfz36_1 := blk_frozen BK163.out 1; have hfz36_2 := blk_frozen BK163.out 2; have hfz36_3 := blk_frozen BK163.out 3))
              have n0_ : Aside0 (((((w34.setCell ⟨gb163, 0, none⟩ (.int .i64 ((rd_T51 l0_3 x34_2).f0))).setCell ⟨gb163, 1, none⟩ (.string ((rd_T51 l0_3 x34_2).f1))).setCell ⟨gb163, 2, none⟩ (.int .i64 ((rd_T51 l0_3 x34_2).f2))).setCell ⟨gb163, 3, none⟩ (.int .i64 ((rd_T51 l0_3 x34_2).f3))).heap[gb158]? = some (.cells #[.int .i64 a0_0, .slice A0_1 l0_1.length c0_1, .slice A0_2 l0_2.length c0_2, .slice (some ad162) l0_3.length c0_3] 30 (0, 0))) := ⟨by (with_reducible repeat (first | refine kn ?_ _ | refine kd ?_ | refine ka ?_ _)); refine blk_far ?_ NB158_163.out _; (with_reducible repeat (first | refine kn ?_ _ | refine kd ?_ | refine ka ?_ _)); refine blk_far ?_ NB158_163.out _; (with_reducible repeat (first | refine kn ?_ _ | refine kd ?_ | refine ka ?_ _)); refine blk_far ?_ NB158_163.out _; (with_reducible repeat (first | refine kn ?_ _ | refine kd ?_ | refine ka ?_ _)); refine blk_far ?_ NB158_163.out _; (with_reducible repeat (first | refine kn ?_ _ | refine kd ?_ | refine ka ?_ _)); exact BK158.out⟩
              have n1_ : Aside0 (((((w34.setCell ⟨gb163, 0, none⟩ (.int .i64 ((rd_T51 l0_3 x34_2).f0))).setCell ⟨gb163, 1, none⟩ (.string ((rd_T51 l0_3 x34_2).f1))).setCell ⟨gb163, 2, none⟩ (.int .i64 ((rd_T51 l0_3 x34_2).f2))).setCell ⟨gb163, 3, none⟩ (.int .i64 ((rd_T51 l0_3 x34_2).f3))).heap[gb163]? = some (.cells #[.int .i64 ((rd_T51 l0_3 x34_2).f0), .string ((rd_T51 l0_3 x34_2).f1), .int .i64 ((rd_T51 l0_3 x34_2).f2), .int .i64 ((rd_T51 l0_3 x34_2).f3)] 51 (0, 0))) := ⟨by (with_reducible repeat (first | refine kn ?_ _ | refine kd ?_ | refine ka ?_ _)); refine blk_put (cs := #[.int .i64 ((rd_T51 l0_3 x34_2).f0), .string ((rd_T51 l0_3 x34_2).f1), .int .i64 ((rd_T51 l0_3 x34_2).f2), .int .i64 0]) ?_ 3 _ rfl; (with_reducible repeat (first | refine kn ?_ _ | refine kd ?_ | refine ka ?_ _)); refine blk_put (cs := #[.int .i64 ((rd_T51 l0_3 x34_2).f0), .string ((rd_T51 l0_3 x34_2).f1), .int .i64 0, .int .i64 0]) ?_ 2 _ rfl; (with_reducible repeat (first | refine kn ?_ _ | refine kd ?_ | refine ka ?_ _)); refine blk_put (cs := #[.int .i64 ((rd_T51 l0_3 x34_2).f0), .string (⟨#[]⟩ : ByteArray), .int .i64 0, .int .i64 0]) ?_ 1 _ rfl; (with_reducible repeat (first | refine kn ?_ _ | refine kd ?_ | refine ka ?_ _)); refine blk_put (cs := #[.int .i64 0, .string (⟨#[]⟩ : ByteArray), .int .i64 0, .int .i64 0]) ?_ 0 _ rfl; (with_reducible repeat (first | refine kn ?_ _ | refine kd ?_ | refine ka ?_ _)); exact BK163.out⟩
              have n2_ : Aside0 (Below w.heap.size w ((((w34.setCell ⟨gb163, 0, none⟩ (.int .i64 ((rd_T51 l0_3 x34_2).f0))).setCell ⟨gb163, 1, none⟩ (.string ((rd_T51 l0_3 x34_2).f1))).setCell ⟨gb163, 2, none⟩ (.int .i64 ((rd_T51 l0_3 x34_2).f2))).setCell ⟨gb163, 3, none⟩ (.int .i64 ((rd_T51 l0_3 x34_2).f3)))) := ⟨by exact bw HB.out⟩
              (try clear BK158)
              (try clear BK163)
              (try clear HB)
              generalize ((((w34.setCell ⟨gb163, 0, none⟩ (.int .i64 ((rd_T51 l0_3 x34_2).f0))).setCell ⟨gb163, 1, none⟩ (.string ((rd_T51 l0_3 x34_2).f1))).setCell ⟨gb163, 2, none⟩ (.int .i64 ((rd_T51 l0_3 x34_2).f2))).setCell ⟨gb163, 3, none⟩ (.int .i64 ((rd_T51 l0_3 x34_2).f3))) = w37 at n0_ n1_ n2_ ⊢
              revert n0_ n1_ n2_; intro BK158 BK163 HB
              have n0_ := am (blk_drew BK158.out)
              have n1_ := am (blk_drew BK163.out)
              have n2_ := am (below_drew1 HB.out)
              clear BK158 BK163 HB
              revert n0_ n1_ n2_; intro BK158 BK163 HB
              have p165 : 0 ≤ ((ji22) : Int) := of_decide_eq_true (by first | (with_reducible assumption) | assumption)
              have q165 : (ji22) < (l0_3.length : Int) := of_decide_eq_true (by first | (with_reducible assumption) | assumption)
              obtain ⟨ad165, e165, hx165_0, hx165_1, hx165_2, hx165_3⟩ := at_T51 HR0_3.out (ji22) p165 q165
              have hw165_3 := hx165_3
              have hw165_2 := hx165_2
              have hw165_1 := hx165_1
              have hw165_0 := hx165_0
              obtain rfl : ad162 = ad165 := (by injection e165)
              replace hx165_0 := (HB.out.cell (World.block_lt_of_cell? w _ hx165_0)).trans hx165_0
              replace hx165_1 := (HB.out.cell (World.block_lt_of_cell? w _ hx165_1)).trans hx165_1
              replace hx165_2 := (HB.out.cell (World.block_lt_of_cell? w _ hx165_2)).trans hx165_2
              replace hx165_3 := (HB.out.cell (World.block_lt_of_cell? w _ hx165_3)).trans hx165_3
              replace p165 := eq_true p165
              replace q165 := eq_true q165
              refine start_ (n := 20) (S := fun w' => w'.cell? ⟨gb158, 0, none⟩ = some (.int .i64 a0_0) ∧ w'.cell? ⟨gb158, 1, none⟩ = some (.slice A0_1 l0_1.length c0_1) ∧ w'.cell? ⟨gb158, 2, none⟩ = some (.slice A0_2 l0_2.length c0_2) ∧ w'.cell? ⟨gb158, 3, none⟩ = some (.slice (some ad162) l0_3.length c0_3) ∧ w'.cell? ⟨gb163, 0, none⟩ = some (.int .i64 ((rd_T51 l0_3 x34_2).f0)) ∧ w'.cell? ⟨gb163, 1, none⟩ = some (.string ((rd_T51 l0_3 x34_2).f1)) ∧ w'.cell? ⟨gb163, 2, none⟩ = some (.int .i64 ((rd_T51 l0_3 x34_2).f2)) ∧ w'.cell? ⟨gb163, 3, none⟩ = some (.int .i64 ((rd_T51 l0_3 x34_2).f3)) ∧ w'.cell? (ad162.add (((ji22)).toNat * 4)) = some (.int .i64 ((rd_T51 l0_3 (ji22)).f0)) ∧ w'.cell? ⟨(ad162.add (((ji22)).toNat * 4)).block, (ad162.add (((ji22)).toNat * 4)).off + 1, none⟩ = some (.string ((rd_T51 l0_3 (ji22)).f1)) ∧ w'.cell? ⟨(ad162.add (((ji22)).toNat * 4)).block, (ad162.add (((ji22)).toNat * 4)).off + 2, none⟩ = some (.int .i64 ((rd_T51 l0_3 (ji22)).f2)) ∧ w'.cell? ⟨(ad162.add (((ji22)).toNat * 4)).block, (ad162.add (((ji22)).toNat * 4)).off + 3, none⟩ = some (.int .i64 ((rd_T51 l0_3 (ji22)).f3))) (ds := []) (mk 20 0) (by kernel_rfl) rfl rfl ⟨(blk_cell BK158.out 0).trans rfl, (blk_cell BK158.out 1).trans rfl, (blk_cell BK158.out 2).trans rfl, (blk_cell BK158.out 3).trans rfl, (blk_cell BK163.out 0).trans rfl, (blk_cell BK163.out 1).trans rfl, (blk_cell BK163.out 2).trans rfl, (blk_cell BK163.out 3).trans rfl, ((HB.out.cell (World.block_lt_of_cell? w _ hw165_0)).trans hw165_0), ((HB.out.cell (World.block_lt_of_cell? w _ hw165_1)).trans hw165_1), ((HB.out.cell (World.block_lt_of_cell? w _ hw165_2)).trans hw165_2), ((HB.out.cell (World.block_lt_of_cell? w _ hw165_3)).trans hw165_3)⟩ (fun hHeld => ?_); refine with_tabW spec_AutomatonValid.tab6 spec_AutomatonValid.bits6 (fun HT_ HW_ => ?_)
              generalize w37.drew = w38 at BK158 BK163 HB hx165_0 hx165_1 hx165_2 hx165_3 hHeld ⊢
              refine pv 0 39 20 1 HT_ ?_
              refine take_ (i := 1) (N := some 40) (v := ?_) (a' := ?_) (mk 20 3) rfl rfl (take_ofW HT_.out HW_.out (by kernel_rfl)) (fun _ _ _ h => h) (Or.inl ⟨by rfl, ?_⟩) hHeld ?_ ?_
              rotate_left
              ·rintro w' ⟨s0, s1, s2, s3, s4, s5, s6, s7, s8, s9, s10, s11⟩
               go_simp
               with_reducible rfl
              rotate_left
              ·simp only [Act.put, List.setIfInBounds_toArray, List.set_cons_zero, List.set_cons_succ, i64_w, i32_w]
               rfl
              refine take_ (i := 2) (N := some 41) (v := ?_) (a' := ?_) (mk 20 7) rfl rfl (take_ofW HT_.out HW_.out (by kernel_rfl)) (fun _ _ _ h => h) (Or.inl ⟨by rfl, ?_⟩) hHeld ?_ ?_
              rotate_left
              ·rintro w' ⟨s0, s1, s2, s3, s4, s5, s6, s7, s8, s9, s10, s11⟩
               go_simp
               with_reducible rfl
              rotate_left
              ·simp only [Act.put, List.setIfInBounds_toArray, List.set_cons_zero, List.set_cons_succ, i64_w, i32_w]
               rfl
              refine one_ (i := 3) (N := some 42) (mk 20 15) rfl rfl (one_of HT_.out (by kernel_rfl)) (by decide) (fun K hK => ?_)
              refine goes_ Try.func41 (by kernel_rfl) rfl #[.int .i64 a0_0, .agg #[.int .i64 ((rd_T51 l0_3 x34_2).f0), .string ((rd_T51 l0_3 x34_2).f1), .int .i64 ((rd_T51 l0_3 x34_2).f2), .int .i64 ((rd_T51 l0_3 x34_2).f3)]] (by rfl) rfl rfl (by (try simp only [List.map_toArray, List.map_cons, List.map_nil]); first | done | rfl | (simp only [List.length_drop, List.length_take]; rfl)) ?_
              with_reducible refine (spec_l3Step.calls a0_0 ((rd_T51 l0_3 x34_2).f0) ((rd_T51 l0_3 x34_2).f1) ((rd_T51 l0_3 x34_2).f2) ((rd_T51 l0_3 x34_2).f3) true _ A19.out).mono ?_
              rintro e w39 ⟨rfl, hb⟩
              refine ⟨_, rfl, ?_⟩
              have n0_ := bk BK158 hb
              have n1_ := bk BK163 hb
              have n2_ := am (below_step (bw HB.out) hb)
              clear BK158 BK163 HB
              revert n0_ n1_ n2_; intro BK158 BK163 HB
              (try clear hb)
              (try clear hb2)
              (try clear hk)
              (try clear hi)
              refine hK.out _ _ ⟨(blk_cell BK158.out 0).trans rfl, (blk_cell BK158.out 1).trans rfl, (blk_cell BK158.out 2).trans rfl, (blk_cell BK158.out 3).trans rfl, (blk_cell BK163.out 0).trans rfl, (blk_cell BK163.out 1).trans rfl, (blk_cell BK163.out 2).trans rfl, (blk_cell BK163.out 3).trans rfl, ((HB.out.cell (World.block_lt_of_cell? w _ hw165_0)).trans hw165_0), ((HB.out.cell (World.block_lt_of_cell? w _ hw165_1)).trans hw165_1), ((HB.out.cell (World.block_lt_of_cell? w _ hw165_2)).trans hw165_2), ((HB.out.cell (World.block_lt_of_cell? w _ hw165_3)).trans hw165_3)⟩ (fun hHeld => ?_)
              clear hK K
              refine norm_ (a' := ?_) ?_ ?_
              rotate_left
              ·show Act.put _ (some 42) _ = _
               simp only [Act.put, List.setIfInBounds_toArray, List.set_cons_zero, List.set_cons_succ, i64_w, i32_w]
               rfl
              refine pv 4 43 20 31 HT_ ?_
              refine pv 5 44 20 63 HT_ ?_
              refine pv 6 45 20 127 HT_ ?_
              refine pv 7 46 20 255 HT_ ?_
              refine pv 8 47 20 511 HT_ ?_
              refine pv 9 48 20 1023 HT_ ?_
              refine pv 11 50 20 3071 HT_ ?_
              refine pv 12 51 20 7167 HT_ ?_
              refine take_ (i := 10) (N := some 49) (v := ?_) (a' := ?_) (mk 20 8191) rfl rfl (take_ofW HT_.out HW_.out (by kernel_rfl)) (fun _ _ _ h => h) (Or.inl ⟨by rfl, ?_⟩) hHeld ?_ ?_
              rotate_left
              ·rintro w' ⟨s0, s1, s2, s3, s4, s5, s6, s7, s8, s9, s10, s11⟩
               go_simp
               with_reducible rfl
              rotate_left
              ·simp only [Act.put, List.setIfInBounds_toArray, List.set_cons_zero, List.set_cons_succ, i64_w, i32_w]
               rfl
              refine pv 13 52 20 16383 HT_ ?_
              refine take_ (i := 14) (N := some 53) (v := ?_) (a' := ?_) (mk 20 32767) rfl rfl (take_ofW HT_.out HW_.out (by kernel_rfl)) (fun _ _ _ h => h) (Or.inl ⟨by rfl, ?_⟩) hHeld ?_ ?_
              rotate_left
              ·rintro w' ⟨s0, s1, s2, s3, s4, s5, s6, s7, s8, s9, s10, s11⟩
               go_simp
               with_reducible rfl
              rotate_left
              ·simp only [Act.put, List.setIfInBounds_toArray, List.set_cons_zero, List.set_cons_succ, i64_w, i32_w]
               rfl
              refine take_ (i := 15) (N := some 54) (v := ?_) (a' := ?_) (mk 20 65535) rfl rfl (take_ofW HT_.out HW_.out (by kernel_rfl)) (fun _ _ _ h => h) (Or.inl ⟨by rfl, ?_⟩) hHeld ?_ ?_
              rotate_left
              ·rintro w' ⟨s0, s1, s2, s3, s4, s5, s6, s7, s8, s9, s10, s11⟩
               go_simp
               with_reducible rfl
              rotate_left
              ·simp only [Act.put, List.setIfInBounds_toArray, List.set_cons_zero, List.set_cons_succ, i64_w, i32_w]
               rfl
              refine one_ (i := 16) (N := some 55) (mk 20 131071) rfl rfl (one_of HT_.out (by kernel_rfl)) (by decide) (fun K hK => ?_)
              refine goes_ Try.func42 (by kernel_rfl) rfl #[.agg #[.int .i64 ((rd_T51 l0_3 (ji22)).f0), .string ((rd_T51 l0_3 (ji22)).f1), .int .i64 ((rd_T51 l0_3 (ji22)).f2), .int .i64 ((rd_T51 l0_3 (ji22)).f3)], .agg #[.int .i64 ((rd_T51 l0_3 x34_2).f0), .string ((rd_T51 l0_3 x34_2).f1), .int .i64 ((rd_T51 l0_3 x34_2).f2), .int .i64 ((rd_T51 l0_3 x34_2).f3)]] (by rfl) rfl rfl (by (try simp only [List.map_toArray, List.map_cons, List.map_nil]); first | done | (simp only [hji22]; rfl) | rfl | (simp only [List.length_drop, List.length_take]; rfl)) ?_
              with_reducible refine (spec_l3Before.calls ((rd_T51 l0_3 (ji22)).f0) ((rd_T51 l0_3 (ji22)).f1) ((rd_T51 l0_3 (ji22)).f2) ((rd_T51 l0_3 (ji22)).f3) ((rd_T51 l0_3 x34_2).f0) ((rd_T51 l0_3 x34_2).f1) ((rd_T51 l0_3 x34_2).f2) ((rd_T51 l0_3 x34_2).f3) false _ A25.out).mono ?_
              rintro e w40 ⟨rfl, hb⟩
              refine ⟨_, rfl, ?_⟩
              have n0_ := bk BK158 hb
              have n1_ := bk BK163 hb
              have n2_ := am (below_step (bw HB.out) hb)
              clear BK158 BK163 HB
              revert n0_ n1_ n2_; intro BK158 BK163 HB
              (try clear hb)
              (try clear hb2)
              (try clear hk)
              (try clear hi)
              refine hK.out _ _ ⟨(blk_cell BK158.out 0).trans rfl, (blk_cell BK158.out 1).trans rfl, (blk_cell BK158.out 2).trans rfl, (blk_cell BK158.out 3).trans rfl, (blk_cell BK163.out 0).trans rfl, (blk_cell BK163.out 1).trans rfl, (blk_cell BK163.out 2).trans rfl, (blk_cell BK163.out 3).trans rfl, ((HB.out.cell (World.block_lt_of_cell? w _ hw165_0)).trans hw165_0), ((HB.out.cell (World.block_lt_of_cell? w _ hw165_1)).trans hw165_1), ((HB.out.cell (World.block_lt_of_cell? w _ hw165_2)).trans hw165_2), ((HB.out.cell (World.block_lt_of_cell? w _ hw165_3)).trans hw165_3)⟩ (fun hHeld => ?_)
              clear hK K
              refine norm_ (a' := ?_) ?_ ?_
              rotate_left
              ·show Act.put _ (some 55) _ = _
               simp only [Act.put, List.setIfInBounds_toArray, List.set_cons_zero, List.set_cons_succ, i64_w, i32_w]
               rfl
              refine pv 17 56 20 262143 HT_ ?_
              refine pv 18 57 20 524287 HT_ ?_
              refine pv 19 58 20 1048575 HT_ ?_
              refine done_ (done_of HT_.out (by kernel_rfl)) ?_
              try go_wp2
              go_ret
              exact ⟨by first | rfl | (simp [errW_none, errW_some] <;> rfl) | (simp only [← hji22]; first | rfl | (simp [errW_none, errW_some] <;> rfl)) | (simp [*, errW_none, errW_some] <;> rfl), by exact bw HB.out⟩
            ·rw [if_neg c24] at H
             exact absurd H (by simp)
           ·rw [if_neg c23] at H
            exact absurd H (by simp)
          ·rw [if_neg c21] at H
           have c21b0 : decide (0 < x34_2) = false := decide_eq_false c21
           clear c21
           have H' := am H
           clear H
           have p162 : 0 ≤ (x34_2 : Int) := of_decide_eq_true (by first | (with_reducible assumption) | assumption)
           have q162 : x34_2 < (l0_3.length : Int) := of_decide_eq_true (by first | (with_reducible assumption) | assumption)
           obtain ⟨ad162, e162, hx162_0, hx162_1, hx162_2, hx162_3⟩ := at_T51 HR0_3.out x34_2 p162 q162
           cases e162
           replace hx162_0 := (HB.out.cell (World.block_lt_of_cell? w _ hx162_0)).trans hx162_0
           replace hx162_1 := (HB.out.cell (World.block_lt_of_cell? w _ hx162_1)).trans hx162_1
           replace hx162_2 := (HB.out.cell (World.block_lt_of_cell? w _ hx162_2)).trans hx162_2
           replace hx162_3 := (HB.out.cell (World.block_lt_of_cell? w _ hx162_3)).trans hx162_3
           replace p162 := eq_true p162
           replace q162 := eq_true q162
           try go_wp2_with (first | ((with_reducible refine gate_dst (N := 4) rfl ?_); (try (refine gate_guard (by rfl) ?_; dsimp only)); refine box_event ?hg (N := 4) ?hd (cs := #[.int .i64 0, .string (⟨#[]⟩ : ByteArray), .int .i64 0, .int .i64 0]) (t := 51) ?hr ?_; (case hd => rfl); (case hg => rfl); (case hr => first | (go_simp; done) | (go_simp; rfl)); intro gb163 hg w41 hbox hb; have n0_ := bk BK158 hb; have n1_ := am (below_step (bw HB.out) hb); have n2_ := am (hbox); have n3_ := am ((by rw [hg]; exact (below_size (bw HB.out)) : w.heap.size ≤ gb163)); have n4_ := am ((by rw [hg]; exact (below_size (bw HB.out)) : w.heap.size ≤ gb163)); have n5_ := am ((by rw [hg]; exact Nat.ne_of_lt (blk_lt (kz BK158.out)) : gb158 ≠ gb163)); have n6_ := am ((by rw [hg]; exact Nat.ne_of_gt (blk_lt (kz BK158.out)) : gb163 ≠ gb158)); clear BK158 HB; revert n0_ n1_ n2_ n3_ n4_ n5_ n6_; intro BK158 HB BK163 GW163 GE163 NB158_163 NB163_158; clear hb hbox hg; have hnb42 := NB163_158.out; have hnc42 := NB158_163.out; have hcz43_0 := cz40 BK163.out; have hcz43_1 := cz41 BK163.out; have hcz43_2 := cz42 BK163.out; have hcz43_3 := cz43 BK163.out; have hfz43_0 := blk_frozen BK163.out 0; have hfz43_1 := blk_frozen BK163.out 1; have hfz43_2 := blk_frozen BK163.out 2; have hfz43_3 := blk_frozen BK163.out 3))
           have n0_ : Aside0 (((((w41.setCell ⟨gb163, 0, none⟩ (.int .i64 ((rd_T51 l0_3 x34_2).f0))).setCell ⟨gb163, 1, none⟩ (.string ((rd_T51 l0_3 x34_2).f1))).setCell ⟨gb163, 2, none⟩ (.int .i64 ((rd_T51 l0_3 x34_2).f2))).setCell ⟨gb163, 3, none⟩ (.int .i64 ((rd_T51 l0_3 x34_2).f3))).heap[gb158]? = some (.cells #[.int .i64 a0_0, .slice A0_1 l0_1.length c0_1, .slice A0_2 l0_2.length c0_2, .slice (some ad162) l0_3.length c0_3] 30 (0, 0))) := ⟨by (with_reducible repeat (first | refine kn ?_ _ | refine kd ?_ | refine ka ?_ _)); refine blk_far ?_ NB158_163.out _; (with_reducible repeat (first | refine kn ?_ _ | refine kd ?_ | refine ka ?_ _)); refine blk_far ?_ NB158_163.out _; (with_reducible repeat (first | refine kn ?_ _ | refine kd ?_ | refine ka ?_ _)); refine blk_far ?_ NB158_163.out _; (with_reducible repeat (first | refine kn ?_ _ | refine kd ?_ | refine ka ?_ _)); refine blk_far ?_ NB158_163.out _; (with_reducible repeat (first | refine kn ?_ _ | refine kd ?_ | refine ka ?_ _)); exact BK158.out⟩
           have n1_ : Aside0 (((((w41.setCell ⟨gb163, 0, none⟩ (.int .i64 ((rd_T51 l0_3 x34_2).f0))).setCell ⟨gb163, 1, none⟩ (.string ((rd_T51 l0_3 x34_2).f1))).setCell ⟨gb163, 2, none⟩ (.int .i64 ((rd_T51 l0_3 x34_2).f2))).setCell ⟨gb163, 3, none⟩ (.int .i64 ((rd_T51 l0_3 x34_2).f3))).heap[gb163]? = some (.cells #[.int .i64 ((rd_T51 l0_3 x34_2).f0), .string ((rd_T51 l0_3 x34_2).f1), .int .i64 ((rd_T51 l0_3 x34_2).f2), .int .i64 ((rd_T51 l0_3 x34_2).f3)] 51 (0, 0))) := ⟨by (with_reducible repeat (first | refine kn ?_ _ | refine kd ?_ | refine ka ?_ _)); refine blk_put (cs := #[.int .i64 ((rd_T51 l0_3 x34_2).f0), .string ((rd_T51 l0_3 x34_2).f1), .int .i64 ((rd_T51 l0_3 x34_2).f2), .int .i64 0]) ?_ 3 _ rfl; (with_reducible repeat (first | refine kn ?_ _ | refine kd ?_ | refine ka ?_ _)); refine blk_put (cs := #[.int .i64 ((rd_T51 l0_3 x34_2).f0), .string ((rd_T51 l0_3 x34_2).f1), .int .i64 0, .int .i64 0]) ?_ 2 _ rfl; (with_reducible repeat (first | refine kn ?_ _ | refine kd ?_ | refine ka ?_ _)); refine blk_put (cs := #[.int .i64 ((rd_T51 l0_3 x34_2).f0), .string (⟨#[]⟩ : ByteArray), .int .i64 0, .int .i64 0]) ?_ 1 _ rfl; (with_reducible repeat (first | refine kn ?_ _ | refine kd ?_ | refine ka ?_ _)); refine blk_put (cs := #[.int .i64 0, .string (⟨#[]⟩ : ByteArray), .int .i64 0, .int .i64 0]) ?_ 0 _ rfl; (with_reducible repeat (first | refine kn ?_ _ | refine kd ?_ | refine ka ?_ _)); exact BK163.out⟩
           have n2_ : Aside0 (Below w.heap.size w ((((w41.setCell ⟨gb163, 0, none⟩ (.int .i64 ((rd_T51 l0_3 x34_2).f0))).setCell ⟨gb163, 1, none⟩ (.string ((rd_T51 l0_3 x34_2).f1))).setCell ⟨gb163, 2, none⟩ (.int .i64 ((rd_T51 l0_3 x34_2).f2))).setCell ⟨gb163, 3, none⟩ (.int .i64 ((rd_T51 l0_3 x34_2).f3)))) := ⟨by exact bw HB.out⟩
           (try clear BK158)
           (try clear BK163)
           (try clear HB)
           generalize ((((w41.setCell ⟨gb163, 0, none⟩ (.int .i64 ((rd_T51 l0_3 x34_2).f0))).setCell ⟨gb163, 1, none⟩ (.string ((rd_T51 l0_3 x34_2).f1))).setCell ⟨gb163, 2, none⟩ (.int .i64 ((rd_T51 l0_3 x34_2).f2))).setCell ⟨gb163, 3, none⟩ (.int .i64 ((rd_T51 l0_3 x34_2).f3))) = w44 at n0_ n1_ n2_ ⊢
           revert n0_ n1_ n2_; intro BK158 BK163 HB
           have n0_ := am (blk_drew BK158.out)
           have n1_ := am (blk_drew BK163.out)
           have n2_ := am (below_drew1 HB.out)
           clear BK158 BK163 HB
           revert n0_ n1_ n2_; intro BK158 BK163 HB
           refine start_ (n := 20) (S := fun w' => w'.cell? ⟨gb158, 0, none⟩ = some (.int .i64 a0_0) ∧ w'.cell? ⟨gb158, 1, none⟩ = some (.slice A0_1 l0_1.length c0_1) ∧ w'.cell? ⟨gb158, 2, none⟩ = some (.slice A0_2 l0_2.length c0_2) ∧ w'.cell? ⟨gb158, 3, none⟩ = some (.slice (some ad162) l0_3.length c0_3) ∧ w'.cell? ⟨gb163, 0, none⟩ = some (.int .i64 ((rd_T51 l0_3 x34_2).f0)) ∧ w'.cell? ⟨gb163, 1, none⟩ = some (.string ((rd_T51 l0_3 x34_2).f1)) ∧ w'.cell? ⟨gb163, 2, none⟩ = some (.int .i64 ((rd_T51 l0_3 x34_2).f2)) ∧ w'.cell? ⟨gb163, 3, none⟩ = some (.int .i64 ((rd_T51 l0_3 x34_2).f3))) (ds := []) (mk 20 0) (by kernel_rfl) rfl rfl ⟨(blk_cell BK158.out 0).trans rfl, (blk_cell BK158.out 1).trans rfl, (blk_cell BK158.out 2).trans rfl, (blk_cell BK158.out 3).trans rfl, (blk_cell BK163.out 0).trans rfl, (blk_cell BK163.out 1).trans rfl, (blk_cell BK163.out 2).trans rfl, (blk_cell BK163.out 3).trans rfl⟩ (fun hHeld => ?_); refine with_tabW spec_AutomatonValid.tab6 spec_AutomatonValid.bits6 (fun HT_ HW_ => ?_)
           generalize w44.drew = w45 at BK158 BK163 HB hHeld ⊢
           refine pv 0 39 20 1 HT_ ?_
           refine take_ (i := 1) (N := some 40) (v := ?_) (a' := ?_) (mk 20 3) rfl rfl (take_ofW HT_.out HW_.out (by kernel_rfl)) (fun _ _ _ h => h) (Or.inl ⟨by rfl, ?_⟩) hHeld ?_ ?_
           rotate_left
           ·rintro w' ⟨s0, s1, s2, s3, s4, s5, s6, s7⟩
            go_simp
            with_reducible rfl
           rotate_left
           ·simp only [Act.put, List.setIfInBounds_toArray, List.set_cons_zero, List.set_cons_succ, i64_w, i32_w]
            rfl
           refine take_ (i := 2) (N := some 41) (v := ?_) (a' := ?_) (mk 20 7) rfl rfl (take_ofW HT_.out HW_.out (by kernel_rfl)) (fun _ _ _ h => h) (Or.inl ⟨by rfl, ?_⟩) hHeld ?_ ?_
           rotate_left
           ·rintro w' ⟨s0, s1, s2, s3, s4, s5, s6, s7⟩
            go_simp
            with_reducible rfl
           rotate_left
           ·simp only [Act.put, List.setIfInBounds_toArray, List.set_cons_zero, List.set_cons_succ, i64_w, i32_w]
            rfl
           refine one_ (i := 3) (N := some 42) (mk 20 15) rfl rfl (one_of HT_.out (by kernel_rfl)) (by decide) (fun K hK => ?_)
           refine goes_ Try.func41 (by kernel_rfl) rfl #[.int .i64 a0_0, .agg #[.int .i64 ((rd_T51 l0_3 x34_2).f0), .string ((rd_T51 l0_3 x34_2).f1), .int .i64 ((rd_T51 l0_3 x34_2).f2), .int .i64 ((rd_T51 l0_3 x34_2).f3)]] (by rfl) rfl rfl (by (try simp only [List.map_toArray, List.map_cons, List.map_nil]); first | done | rfl | (simp only [List.length_drop, List.length_take]; rfl)) ?_
           with_reducible refine (spec_l3Step.calls a0_0 ((rd_T51 l0_3 x34_2).f0) ((rd_T51 l0_3 x34_2).f1) ((rd_T51 l0_3 x34_2).f2) ((rd_T51 l0_3 x34_2).f3) true _ A19.out).mono ?_
           rintro e w46 ⟨rfl, hb⟩
           refine ⟨_, rfl, ?_⟩
           have n0_ := bk BK158 hb
           have n1_ := bk BK163 hb
           have n2_ := am (below_step (bw HB.out) hb)
           clear BK158 BK163 HB
           revert n0_ n1_ n2_; intro BK158 BK163 HB
           (try clear hb)
           (try clear hb2)
           (try clear hk)
           (try clear hi)
           refine hK.out _ _ ⟨(blk_cell BK158.out 0).trans rfl, (blk_cell BK158.out 1).trans rfl, (blk_cell BK158.out 2).trans rfl, (blk_cell BK158.out 3).trans rfl, (blk_cell BK163.out 0).trans rfl, (blk_cell BK163.out 1).trans rfl, (blk_cell BK163.out 2).trans rfl, (blk_cell BK163.out 3).trans rfl⟩ (fun hHeld => ?_)
           clear hK K
           refine norm_ (a' := ?_) ?_ ?_
           rotate_left
           ·show Act.put _ (some 42) _ = _
            simp only [Act.put, List.setIfInBounds_toArray, List.set_cons_zero, List.set_cons_succ, i64_w, i32_w]
            rfl
           refine pv 4 43 20 31 HT_ ?_
           refine pv 5 44 20 63 HT_ ?_
           refine pv 6 45 20 127 HT_ ?_
           refine pv 7 46 20 255 HT_ ?_
           refine pv 8 47 20 511 HT_ ?_
           refine pu 9 48 20 1023 HT_ ?_
           refine pu 10 49 20 2047 HT_ ?_
           refine pu 11 50 20 4095 HT_ ?_
           refine pu 12 51 20 8191 HT_ ?_
           refine pu 13 52 20 16383 HT_ ?_
           refine pu 14 53 20 32767 HT_ ?_
           refine pu 15 54 20 65535 HT_ ?_
           refine pu 16 55 20 131071 HT_ ?_
           refine pu 17 56 20 262143 HT_ ?_
           refine pv 18 57 20 524287 HT_ ?_
           refine pv 19 58 20 1048575 HT_ ?_
           refine done_ (done_of HT_.out (by kernel_rfl)) ?_
           try go_wp2
           go_roundg k2
           case measure => have := HJ1.out; have := HK2.out; omega
           case rel => exact ⟨(wrap64 (x34_2 + 1)), (by first | rfl | (simp; done) | (simp [*]; done)), H', ⟨by have := HJ1.out; have := HK2.out; omega⟩, ⟨kz BK158.out⟩, ⟨by exact bw HB.out⟩⟩
         ·replace c20 := Bool.eq_false_iff.mpr c20
          subst c20
          have H1 : (some false) = some r := by rw [if_neg (show ¬ (false = true) by decide)] at H; exact H
          clear H
          have H := H1
          clear H1
          obtain rfl := Option.some.inj H
          have p162 : 0 ≤ (x34_2 : Int) := of_decide_eq_true (by first | (with_reducible assumption) | assumption)
          have q162 : x34_2 < (l0_3.length : Int) := of_decide_eq_true (by first | (with_reducible assumption) | assumption)
          obtain ⟨ad162, e162, hx162_0, hx162_1, hx162_2, hx162_3⟩ := at_T51 HR0_3.out x34_2 p162 q162
          cases e162
          replace hx162_0 := (HB.out.cell (World.block_lt_of_cell? w _ hx162_0)).trans hx162_0
          replace hx162_1 := (HB.out.cell (World.block_lt_of_cell? w _ hx162_1)).trans hx162_1
          replace hx162_2 := (HB.out.cell (World.block_lt_of_cell? w _ hx162_2)).trans hx162_2
          replace hx162_3 := (HB.out.cell (World.block_lt_of_cell? w _ hx162_3)).trans hx162_3
          replace p162 := eq_true p162
          replace q162 := eq_true q162
          try go_wp2_with (first | ((with_reducible refine gate_dst (N := 4) rfl ?_); (try (refine gate_guard (by rfl) ?_; dsimp only)); refine box_event ?hg (N := 4) ?hd (cs := #[.int .i64 0, .string (⟨#[]⟩ : ByteArray), .int .i64 0, .int .i64 0]) (t := 51) ?hr ?_; (case hd => rfl); (case hg => rfl); (case hr => first | (go_simp; done) | (go_simp; rfl)); intro gb163 hg w47 hbox hb; have n0_ := bk BK158 hb; have n1_ := am (below_step (bw HB.out) hb); have n2_ := am (hbox); have n3_ := am ((by rw [hg]; exact (below_size (bw HB.out)) : w.heap.size ≤ gb163)); have n4_ := am ((by rw [hg]; exact (below_size (bw HB.out)) : w.heap.size ≤ gb163)); have n5_ := am ((by rw [hg]; exact Nat.ne_of_lt (blk_lt (kz BK158.out)) : gb158 ≠ gb163)); have n6_ := am ((by rw [hg]; exact Nat.ne_of_gt (blk_lt (kz BK158.out)) : gb163 ≠ gb158)); clear BK158 HB; revert n0_ n1_ n2_ n3_ n4_ n5_ n6_; intro BK158 HB BK163 GW163 GE163 NB158_163 NB163_158; clear hb hbox hg; have hnb48 := NB163_158.out; have hnc48 := NB158_163.out; have hcz49_0 := cz40 BK163.out; have hcz49_1 := cz41 BK163.out; have hcz49_2 := cz42 BK163.out; have hcz49_3 := cz43 BK163.out; have hfz49_0 := blk_frozen BK163.out 0; have hfz49_1 := blk_frozen BK163.out 1; have hfz49_2 := blk_frozen BK163.out 2; have hfz49_3 := blk_frozen BK163.out 3))
          have n0_ : Aside0 (((((w47.setCell ⟨gb163, 0, none⟩ (.int .i64 ((rd_T51 l0_3 x34_2).f0))).setCell ⟨gb163, 1, none⟩ (.string ((rd_T51 l0_3 x34_2).f1))).setCell ⟨gb163, 2, none⟩ (.int .i64 ((rd_T51 l0_3 x34_2).f2))).setCell ⟨gb163, 3, none⟩ (.int .i64 ((rd_T51 l0_3 x34_2).f3))).heap[gb158]? = some (.cells #[.int .i64 a0_0, .slice A0_1 l0_1.length c0_1, .slice A0_2 l0_2.length c0_2, .slice (some ad162) l0_3.length c0_3] 30 (0, 0))) := ⟨by (with_reducible repeat (first | refine kn ?_ _ | refine kd ?_ | refine ka ?_ _)); refine blk_far ?_ NB158_163.out _; (with_reducible repeat (first | refine kn ?_ _ | refine kd ?_ | refine ka ?_ _)); refine blk_far ?_ NB158_163.out _; (with_reducible repeat (first | refine kn ?_ _ | refine kd ?_ | refine ka ?_ _)); refine blk_far ?_ NB158_163.out _; (with_reducible repeat (first | refine kn ?_ _ | refine kd ?_ | refine ka ?_ _)); refine blk_far ?_ NB158_163.out _; (with_reducible repeat (first | refine kn ?_ _ | refine kd ?_ | refine ka ?_ _)); exact BK158.out⟩
          have n1_ : Aside0 (((((w47.setCell ⟨gb163, 0, none⟩ (.int .i64 ((rd_T51 l0_3 x34_2).f0))).setCell ⟨gb163, 1, none⟩ (.string ((rd_T51 l0_3 x34_2).f1))).setCell ⟨gb163, 2, none⟩ (.int .i64 ((rd_T51 l0_3 x34_2).f2))).setCell ⟨gb163, 3, none⟩ (.int .i64 ((rd_T51 l0_3 x34_2).f3))).heap[gb163]? = some (.cells #[.int .i64 ((rd_T51 l0_3 x34_2).f0), .string ((rd_T51 l0_3 x34_2).f1), .int .i64 ((rd_T51 l0_3 x34_2).f2), .int .i64 ((rd_T51 l0_3 x34_2).f3)] 51 (0, 0))) := ⟨by (with_reducible repeat (first | refine kn ?_ _ | refine kd ?_ | refine ka ?_ _)); refine blk_put (cs := #[.int .i64 ((rd_T51 l0_3 x34_2).f0), .string ((rd_T51 l0_3 x34_2).f1), .int .i64 ((rd_T51 l0_3 x34_2).f2), .int .i64 0]) ?_ 3 _ rfl; (with_reducible repeat (first | refine kn ?_ _ | refine kd ?_ | refine ka ?_ _)); refine blk_put (cs := #[.int .i64 ((rd_T51 l0_3 x34_2).f0), .string ((rd_T51 l0_3 x34_2).f1), .int .i64 0, .int .i64 0]) ?_ 2 _ rfl; (with_reducible repeat (first | refine kn ?_ _ | refine kd ?_ | refine ka ?_ _)); refine blk_put (cs := #[.int .i64 ((rd_T51 l0_3 x34_2).f0), .string (⟨#[]⟩ : ByteArray), .int .i64 0, .int .i64 0]) ?_ 1 _ rfl; (with_reducible repeat (first | refine kn ?_ _ | refine kd ?_ | refine ka ?_ _)); refine blk_put (cs := #[.int .i64 0, .string (⟨#[]⟩ : ByteArray), .int .i64 0, .int .i64 0]) ?_ 0 _ rfl; (with_reducible repeat (first | refine kn ?_ _ | refine kd ?_ | refine ka ?_ _)); exact BK163.out⟩
          have n2_ : Aside0 (Below w.heap.size w ((((w47.setCell ⟨gb163, 0, none⟩ (.int .i64 ((rd_T51 l0_3 x34_2).f0))).setCell ⟨gb163, 1, none⟩ (.string ((rd_T51 l0_3 x34_2).f1))).setCell ⟨gb163, 2, none⟩ (.int .i64 ((rd_T51 l0_3 x34_2).f2))).setCell ⟨gb163, 3, none⟩ (.int .i64 ((rd_T51 l0_3 x34_2).f3)))) := ⟨by exact bw HB.out⟩
          (try clear BK158)
          (try clear BK163)
          (try clear HB)
          generalize ((((w47.setCell ⟨gb163, 0, none⟩ (.int .i64 ((rd_T51 l0_3 x34_2).f0))).setCell ⟨gb163, 1, none⟩ (.string ((rd_T51 l0_3 x34_2).f1))).setCell ⟨gb163, 2, none⟩ (.int .i64 ((rd_T51 l0_3 x34_2).f2))).setCell ⟨gb163, 3, none⟩ (.int .i64 ((rd_T51 l0_3 x34_2).f3))) = w50 at n0_ n1_ n2_ ⊢
          revert n0_ n1_ n2_; intro BK158 BK163 HB
          have n0_ := am (blk_drew BK158.out)
          have n1_ := am (blk_drew BK163.out)
          have n2_ := am (below_drew1 HB.out)
          clear BK158 BK163 HB
          revert n0_ n1_ n2_; intro BK158 BK163 HB
          refine start_ (n := 20) (S := fun w' => w'.cell? ⟨gb158, 0, none⟩ = some (.int .i64 a0_0) ∧ w'.cell? ⟨gb158, 1, none⟩ = some (.slice A0_1 l0_1.length c0_1) ∧ w'.cell? ⟨gb158, 2, none⟩ = some (.slice A0_2 l0_2.length c0_2) ∧ w'.cell? ⟨gb158, 3, none⟩ = some (.slice (some ad162) l0_3.length c0_3) ∧ w'.cell? ⟨gb163, 0, none⟩ = some (.int .i64 ((rd_T51 l0_3 x34_2).f0)) ∧ w'.cell? ⟨gb163, 1, none⟩ = some (.string ((rd_T51 l0_3 x34_2).f1)) ∧ w'.cell? ⟨gb163, 2, none⟩ = some (.int .i64 ((rd_T51 l0_3 x34_2).f2)) ∧ w'.cell? ⟨gb163, 3, none⟩ = some (.int .i64 ((rd_T51 l0_3 x34_2).f3))) (ds := []) (mk 20 0) (by kernel_rfl) rfl rfl ⟨(blk_cell BK158.out 0).trans rfl, (blk_cell BK158.out 1).trans rfl, (blk_cell BK158.out 2).trans rfl, (blk_cell BK158.out 3).trans rfl, (blk_cell BK163.out 0).trans rfl, (blk_cell BK163.out 1).trans rfl, (blk_cell BK163.out 2).trans rfl, (blk_cell BK163.out 3).trans rfl⟩ (fun hHeld => ?_); refine with_tabW spec_AutomatonValid.tab6 spec_AutomatonValid.bits6 (fun HT_ HW_ => ?_)
          generalize w50.drew = w51 at BK158 BK163 HB hHeld ⊢
          refine pv 0 39 20 1 HT_ ?_
          refine take_ (i := 1) (N := some 40) (v := ?_) (a' := ?_) (mk 20 3) rfl rfl (take_ofW HT_.out HW_.out (by kernel_rfl)) (fun _ _ _ h => h) (Or.inl ⟨by rfl, ?_⟩) hHeld ?_ ?_
          rotate_left
          ·rintro w' ⟨s0, s1, s2, s3, s4, s5, s6, s7⟩
           go_simp
           with_reducible rfl
          rotate_left
          ·simp only [Act.put, List.setIfInBounds_toArray, List.set_cons_zero, List.set_cons_succ, i64_w, i32_w]
           rfl
          refine take_ (i := 2) (N := some 41) (v := ?_) (a' := ?_) (mk 20 7) rfl rfl (take_ofW HT_.out HW_.out (by kernel_rfl)) (fun _ _ _ h => h) (Or.inl ⟨by rfl, ?_⟩) hHeld ?_ ?_
          rotate_left
          ·rintro w' ⟨s0, s1, s2, s3, s4, s5, s6, s7⟩
           go_simp
           with_reducible rfl
          rotate_left
          ·simp only [Act.put, List.setIfInBounds_toArray, List.set_cons_zero, List.set_cons_succ, i64_w, i32_w]
           rfl
          refine one_ (i := 3) (N := some 42) (mk 20 15) rfl rfl (one_of HT_.out (by kernel_rfl)) (by decide) (fun K hK => ?_)
          refine goes_ Try.func41 (by kernel_rfl) rfl #[.int .i64 a0_0, .agg #[.int .i64 ((rd_T51 l0_3 x34_2).f0), .string ((rd_T51 l0_3 x34_2).f1), .int .i64 ((rd_T51 l0_3 x34_2).f2), .int .i64 ((rd_T51 l0_3 x34_2).f3)]] (by rfl) rfl rfl (by (try simp only [List.map_toArray, List.map_cons, List.map_nil]); first | done | rfl | (simp only [List.length_drop, List.length_take]; rfl)) ?_
          with_reducible refine (spec_l3Step.calls a0_0 ((rd_T51 l0_3 x34_2).f0) ((rd_T51 l0_3 x34_2).f1) ((rd_T51 l0_3 x34_2).f2) ((rd_T51 l0_3 x34_2).f3) false _ A19.out).mono ?_
          rintro e w52 ⟨rfl, hb⟩
          refine ⟨_, rfl, ?_⟩
          have n0_ := bk BK158 hb
          have n1_ := bk BK163 hb
          have n2_ := am (below_step (bw HB.out) hb)
          clear BK158 BK163 HB
          revert n0_ n1_ n2_; intro BK158 BK163 HB
          (try clear hb)
          (try clear hb2)
          (try clear hk)
          (try clear hi)
          refine hK.out _ _ ⟨(blk_cell BK158.out 0).trans rfl, (blk_cell BK158.out 1).trans rfl, (blk_cell BK158.out 2).trans rfl, (blk_cell BK158.out 3).trans rfl, (blk_cell BK163.out 0).trans rfl, (blk_cell BK163.out 1).trans rfl, (blk_cell BK163.out 2).trans rfl, (blk_cell BK163.out 3).trans rfl⟩ (fun hHeld => ?_)
          clear hK K
          refine norm_ (a' := ?_) ?_ ?_
          rotate_left
          ·show Act.put _ (some 42) _ = _
           simp only [Act.put, List.setIfInBounds_toArray, List.set_cons_zero, List.set_cons_succ, i64_w, i32_w]
           rfl
          refine pv 4 43 20 31 HT_ ?_
          refine pv 5 44 20 63 HT_ ?_
          refine pu 6 45 20 127 HT_ ?_
          refine pu 7 46 20 255 HT_ ?_
          refine pu 8 47 20 511 HT_ ?_
          refine pu 9 48 20 1023 HT_ ?_
          refine pu 10 49 20 2047 HT_ ?_
          refine pu 11 50 20 4095 HT_ ?_
          refine pu 12 51 20 8191 HT_ ?_
          refine pu 13 52 20 16383 HT_ ?_
          refine pu 14 53 20 32767 HT_ ?_
          refine pu 15 54 20 65535 HT_ ?_
          refine pu 16 55 20 131071 HT_ ?_
          refine pu 17 56 20 262143 HT_ ?_
          refine pu 18 57 20 524287 HT_ ?_
          refine pv 19 58 20 1048575 HT_ ?_
          refine done_ (done_of HT_.out (by kernel_rfl)) ?_
          try go_wp2
          go_ret
          exact ⟨by first | rfl | (simp [errW_none, errW_some] <;> rfl) | (simp [*, errW_none, errW_some] <;> rfl), by exact bw HB.out⟩
        ·rw [if_neg c18] at H
         exact absurd H (by simp)
       ·rw [if_neg c17] at H
        exact absurd H (by simp)
      ·rw [if_neg c16] at H
       have c16b0 : decide (x34_2 < (l0_3.length : Int)) = false := decide_eq_false c16
       clear c16
       obtain rfl := Option.some.inj H
       go_wp2
       go_ret
       exact ⟨by first | rfl | (simp [errW_none, errW_some] <;> rfl) | (simp [*, errW_none, errW_some] <;> rfl), by exact bw HB.out⟩

end Go.Proofs.Ytejnpldoakgadaa.PG1
