-- Written by a program (wip/myprint.py): the machine side of one law: each function that it reaches, as a plain function, and the proof that a call comes to just that.
import Derived.Test.YthgkfakkpinbcaaPFnAddCostx0
import Derived.Test.YthgkfakkpinbcaaPFnAddCostx1
namespace Go.Proofs.Ythgkfakkpinbcaa.PFnAddCost
open Go.RowKit Go.Proofs.YthgkfakkpinbcaaW.PrintWords Go.Proofs.YthgkfakkpinbcaaW.PrintLast Go.Proofs.YthgkfakkpinbcaaW.PrintMore
attribute [local go_sem] max2_int min2_int max_two min_two max_three min_three max_four min_four   -- for this text's walks alone
set_option linter.unusedVariables false
set_option linter.unusedSimpArgs false

/-! ### spec_DrawAddCost: function 32 -/
def spec_DrawAddCost.f (k : Nat) (l0 : List Int) : Option (Int × Int) := (spec_l13Open.f l0).bind fun bt133 => ((spec_l1Cost.f k bt133.1 bt133.2).bind fun bt136 => ((spec_l1Cost.f k bt133.1 bt136.2).bind fun bt138 => (some (bt136.1, bt138.1))))
theorem spec_DrawAddCost.mono : ∀ a0 k, LeO (spec_DrawAddCost.f k a0) (spec_DrawAddCost.f (k + 1) a0) := by
 intro a0 k
 unfold spec_DrawAddCost.f
 repeat' first
   | (with_reducible exact spec_l1Cost.mono _ _ _)
   | (with_reducible exact LeO.refl _)
   | (with_reducible exact LeO.none _)
   | (with_reducible refine LeO.ite ?_ ?_)
   | (with_reducible refine LeO.bind ?_ (fun _ => ?_))
   | exact spec_l1Cost.mono _ _ _
   | exact LeO.none _
   | refine LeO.ite ?_ ?_
   | refine LeO.bind ?_ (fun _ => ?_)
set_option maxHeartbeats 8000000 in
set_option maxRecDepth 100000 in
theorem spec_DrawAddCost.calls (k : Nat) (A0 : Option Addr) (c0 : Nat) (l0 : List Int) (r1 : Int) (r2 : Int) (w : World) (hr0 : Kd.C (Kd.int .u8) w A0 l0.length l0) (hc0 : l0.length ≤ c0) (h : spec_DrawAddCost.f k l0 = some (r1, r2)) :
  Calls Try.prog 32 #[.slice A0 l0.length c0] w fun e w' => e = .returned (.tuple #[.int .i64 r1, .int .i64 r2]) ∧ Below w.heap.size w w' := by
 have HR0 := Aside0.mk hr0
 have HC0 := Aside0.mk hc0
 clear hr0 hc0
 have HB := Aside0.mk (Below.refl w.heap.size w)
 have H : ((spec_l13Open.f l0).bind fun bt133 => ((spec_l1Cost.f k bt133.1 bt133.2).bind fun bt136 => ((spec_l1Cost.f k bt133.1 bt136.2).bind fun bt138 => (some (bt136.1, bt138.1))))) = some (r1, r2) := h
 clear h
 replace H := Option.bind_eq_some_iff.mp H
 obtain ⟨⟨t133, t134⟩, A20, H⟩ := H
 replace H : ((spec_l1Cost.f k t133 t134).bind fun bt136 => ((spec_l1Cost.f k t133 bt136.2).bind fun bt138 => (some (bt136.1, bt138.1)))) = some (r1, r2) := H
 have A2 := Aside0.mk A20
 clear A20
 replace H := Option.bind_eq_some_iff.mp H
 obtain ⟨⟨t136, t137⟩, A30, H⟩ := H
 replace H : ((spec_l1Cost.f k t133 t137).bind fun bt138 => (some (t136, bt138.1))) = some (r1, r2) := H
 have A3 := Aside0.mk A30
 clear A30
 replace H := Option.bind_eq_some_iff.mp H
 obtain ⟨⟨t138, t139⟩, A40, H⟩ := H
 replace H : (some (t136, t138)) = some (r1, r2) := H
 have A4 := Aside0.mk A40
 clear A40
 simp only [Option.some.injEq, Prod.mk.injEq] at H
 obtain ⟨rfl, rfl⟩ := H
 go_enter Try.func32, Try.ntmps32
 go_wp2_with (first | ((with_reducible refine gate_callee (f := 50) rfl ?_); refine goesL_ (some 7) rfl rfl Try.func50 (by kernel_rfl) rfl #[.slice A0 l0.length c0] rfl (by (try simp only [List.map_toArray, List.map_cons, List.map_nil]); first | done | rfl | (simp only [List.length_drop, List.length_take]; rfl)) ?_; (with_reducible refine (spec_l13Open.calls _ _ l0 t133 t134 w _ ?side1 ?side2 ?side3 A2.out).mono ?_); (case side1 => repeat (first | (with_reducible first | exact HB.out | apply below_alloc | apply pw_below_drewN | apply below_drew1) | exact HB.out)); (case side2 => exact HR0.out); (case side3 => exact HC0.out); rintro e w5 ⟨g135, rfl, hi, hb, hb2⟩; refine ⟨_, rfl, ?_⟩; have n0_ := Aside0.mk (hb); have n1_ := Aside0.mk (hi); clear HB; have HB := n0_; have HI135 := n1_; clear n0_ n1_; (try clear hb); (try clear hb2); (try clear hk); (try clear hi)) | ((with_reducible refine gate_callee (f := 51) rfl ?_); refine goesL_ (some 9) rfl rfl Try.func51 (by kernel_rfl) rfl #[.pointer (some ⟨g135, 0, none⟩)] rfl (by (try simp only [List.map_toArray, List.map_cons, List.map_nil]); first | done | rfl | (simp only [List.length_drop, List.length_take]; rfl)) ?_; (with_reducible refine (spec_l1Cost.calls k g135 t133 t134 t136 t137 w _ ?side1 ?side2 A3.out).mono ?_); (case side1 => repeat (first | (with_reducible first | exact HI135.out | apply IsS61.alloc | apply IsS61.drewN | apply IsS61.drew | apply IsS61.set_1) | exact HI135.out)); (case side2 => repeat (first | (with_reducible first | exact HB.out | apply below_alloc | apply pw_below_drewN | apply below_drew1 | refine below_set ?_ (IsS61.ge HI135.out)) | exact HB.out)); rintro e w6 ⟨rfl, hi, hb, hk⟩; refine ⟨_, rfl, ?_⟩; have n0_ := Aside0.mk (hb); have n1_ := Aside0.mk (hi); clear HB HI135; have HB := n0_; have HI135 := n1_; clear n0_ n1_; (try clear hb); (try clear hb2); (try clear hk); (try clear hi)) | ((with_reducible refine gate_callee (f := 51) rfl ?_); refine goesL_ (some 12) rfl rfl Try.func51 (by kernel_rfl) rfl #[.pointer (some ⟨g135, 0, none⟩)] rfl (by (try simp only [List.map_toArray, List.map_cons, List.map_nil]); first | done | rfl | (simp only [List.length_drop, List.length_take]; rfl)) ?_; (with_reducible refine (spec_l1Cost.calls k g135 t133 t137 t138 t139 w _ ?side1 ?side2 A4.out).mono ?_); (case side1 => repeat (first | (with_reducible first | exact HI135.out | apply IsS61.alloc | apply IsS61.drewN | apply IsS61.drew | apply IsS61.set_1) | exact HI135.out)); (case side2 => repeat (first | (with_reducible first | exact HB.out | apply below_alloc | apply pw_below_drewN | apply below_drew1 | refine below_set ?_ (IsS61.ge HI135.out)) | exact HB.out)); rintro e w7 ⟨rfl, hi, hb, hk⟩; refine ⟨_, rfl, ?_⟩; have n0_ := Aside0.mk (hb); have n1_ := Aside0.mk (hi); clear HB HI135; have HB := n0_; have HI135 := n1_; clear n0_ n1_; (try clear hb); (try clear hb2); (try clear hk); (try clear hi)))
 go_ret2
 exact ⟨by first | rfl | (simp [errW_none, errW_some] <;> rfl) | (simp [*, errW_none, errW_some] <;> rfl), by repeat (first | (with_reducible first | exact HB.out | apply below_alloc | apply pw_below_drewN | apply below_drew1 | refine below_set ?_ (IsS61.ge HI135.out)) | exact HB.out)⟩

/-! ### spec_DrawMinCost: function 33 -/
def spec_DrawMinCost.f (k : Nat) (l0 : List Int) : Option (Int × Int) := (spec_DrawAddCost.f k l0).bind fun bt140 => (some (bt140.1, bt140.2))
theorem spec_DrawMinCost.mono : ∀ a0 k, LeO (spec_DrawMinCost.f k a0) (spec_DrawMinCost.f (k + 1) a0) := by
 intro a0 k
 unfold spec_DrawMinCost.f
 repeat' first
   | (with_reducible exact spec_DrawAddCost.mono _ _)
   | (with_reducible exact LeO.refl _)
   | (with_reducible exact LeO.none _)
   | (with_reducible refine LeO.ite ?_ ?_)
   | (with_reducible refine LeO.bind ?_ (fun _ => ?_))
   | exact spec_DrawAddCost.mono _ _
   | exact LeO.none _
   | refine LeO.ite ?_ ?_
   | refine LeO.bind ?_ (fun _ => ?_)
set_option maxHeartbeats 8000000 in
set_option maxRecDepth 100000 in
theorem spec_DrawMinCost.calls (k : Nat) (A0 : Option Addr) (c0 : Nat) (l0 : List Int) (r1 : Int) (r2 : Int) (w : World) (hr0 : Kd.C (Kd.int .u8) w A0 l0.length l0) (hc0 : l0.length ≤ c0) (h : spec_DrawMinCost.f k l0 = some (r1, r2)) :
  Calls Try.prog 33 #[.slice A0 l0.length c0] w fun e w' => e = .returned (.tuple #[.int .i64 r1, .int .i64 r2]) ∧ Below w.heap.size w w' := by
 have HR0 := Aside0.mk hr0
 have HC0 := Aside0.mk hc0
 clear hr0 hc0
 have HB := Aside0.mk (Below.refl w.heap.size w)
 have H : ((spec_DrawAddCost.f k l0).bind fun bt140 => (some (bt140.1, bt140.2))) = some (r1, r2) := h
 clear h
 replace H := Option.bind_eq_some_iff.mp H
 obtain ⟨⟨t140, t141⟩, A20, H⟩ := H
 replace H : (some (t140, t141)) = some (r1, r2) := H
 have A2 := Aside0.mk A20
 clear A20
 simp only [Option.some.injEq, Prod.mk.injEq] at H
 obtain ⟨rfl, rfl⟩ := H
 go_enter Try.func33, Try.ntmps33
 go_wp2_with (first | ((with_reducible refine gate_callee (f := 32) rfl ?_); refine goesL_ (some 5) rfl rfl Try.func32 (by kernel_rfl) rfl #[.slice A0 l0.length c0] rfl (by (try simp only [List.map_toArray, List.map_cons, List.map_nil]); first | done | rfl | (simp only [List.length_drop, List.length_take]; rfl)) ?_; (with_reducible refine (spec_DrawAddCost.calls k _ _ l0 t140 t141 _ ?side1 ?side2 A2.out).mono ?_); (case side1 => repeat (first | exact HR0.out | (with_reducible refine Kd.C_alloc ?_ _) | (with_reducible refine Kd.C_drewN ?_ _) | (with_reducible refine Kd.C_drew ?_))); (case side2 => exact HC0.out); rintro e w3 ⟨rfl, hb⟩; refine ⟨_, rfl, ?_⟩; have n0_ := Aside0.mk (below_step (by exact bz HB.out) hb); clear HB; have HB := n0_; clear n0_; (try clear hb); (try clear hb2); (try clear hk); (try clear hi)))
 go_ret2
 exact ⟨by first | rfl | (simp [errW_none, errW_some] <;> rfl) | (simp [*, errW_none, errW_some] <;> rfl), by exact bz HB.out⟩

/-! ### laws_FnAddCost: function 11 -/
mutual
def laws_FnAddCost.j0 : Nat → List Int → List Int → Bool → Option (Bool)
 | 0, _, _, _ => none
 | k + 1, x0, x1, x20 => if x20 = true then (some true) else ((spec_DrawAddCost.f k x0).bind fun bt142 => ((impl_AddCost.f bt142.1 bt142.2).bind fun t144 => ((impl_MinCost.f bt142.1 bt142.2).bind fun t145 => ((spec_AddCost.f k bt142.1 bt142.2).bind fun t146 => (if t144 = t146 then ((spec_MinCost.f k bt142.1 bt142.2).bind fun t147 => (if t145 = t147 then (laws_FnAddCost.j1 k x1 bt142.1 bt142.2 t144 t145 (decide (t144 < 0))) else (laws_FnAddCost.j1 k x1 bt142.1 bt142.2 t144 t145 true))) else (laws_FnAddCost.j1 k x1 bt142.1 bt142.2 t144 t145 true))))))
def laws_FnAddCost.j1 : Nat → List Int → Int → Int → Int → Int → Bool → Option (Bool)
 | 0, _, _, _, _, _, _ => none
 | k + 1, x1, x5, x6, x7, x8, x47 => if x47 = true then ((spec_AddCost.f k x5 x6).bind fun t148 => (if x7 = t148 then ((spec_MinCost.f k x5 x6).bind fun t149 => (if x8 = t149 then (some (x8 == x7)) else (none))) else (none))) else ((spec_DrawMinCost.f k x1).bind fun bt150 => ((impl_CostValid.f bt150.1).bind fun t152 => (if t152 = true then (laws_FnAddCost.j2 k x5 x6 x7 bt150.1) else (laws_FnAddCost.j2 k x5 x6 x7 1))))
def laws_FnAddCost.j2 : Nat → Int → Int → Int → Int → Option (Bool)
 | 0, _, _, _, _ => none
 | k + 1, x5, x6, x7, x9 => (impl_MinCost.f x5 x6).bind fun t153 => ((impl_AddCost.f t153 x9).bind fun t154 => ((impl_AddCost.f x5 x9).bind fun t155 => ((impl_AddCost.f x6 x9).bind fun t156 => ((impl_MinCost.f t155 t156).bind fun t157 => ((impl_AddCost.f x6 x5).bind fun t158 => (if x7 = t158 then (if t154 = t157 then ((impl_AddCost.f x7 x9).bind fun t159 => ((impl_AddCost.f x6 x9).bind fun t160 => ((impl_AddCost.f x5 t160).bind fun t161 => (if t159 = t161 then (if x7 ≥ (mx x5 x6) then ((impl_AddCost.f x5 0).bind fun t162 => (if t162 = x5 then ((impl_MinCost.f x5 1000000).bind fun t163 => (if t163 = x5 then ((impl_AddCost.f x5 1000000).bind fun t164 => (some (t164 == 1000000))) else (none))) else (none))) else (none)) else (none))))) else (none)) else (none)))))))
end
def laws_FnAddCost.f (k : Nat) (l0 : List Int) (l1 : List Int) : Option (Bool) := if (l0.length : Int) > 1048576 then (laws_FnAddCost.j0 k l0 l1 true) else (laws_FnAddCost.j0 k l0 l1 (decide ((l1.length : Int) > 1048576)))
theorem laws_FnAddCost.mono_l : ∀ k, (∀ y0 y1 y2, LeO (laws_FnAddCost.j0 k y0 y1 y2) (laws_FnAddCost.j0 (k + 1) y0 y1 y2)) ∧ (∀ y0 y1 y2 y3 y4 y5, LeO (laws_FnAddCost.j1 k y0 y1 y2 y3 y4 y5) (laws_FnAddCost.j1 (k + 1) y0 y1 y2 y3 y4 y5)) ∧ (∀ y0 y1 y2 y3, LeO (laws_FnAddCost.j2 k y0 y1 y2 y3) (laws_FnAddCost.j2 (k + 1) y0 y1 y2 y3))
 | 0 => ⟨fun _ _ _ r h => by simp [laws_FnAddCost.j0] at h, fun _ _ _ _ _ _ r h => by simp [laws_FnAddCost.j1] at h, fun _ _ _ _ r h => by simp [laws_FnAddCost.j2] at h⟩
 | k + 1 => by
  obtain ⟨ih0, ih1, ih2⟩ := laws_FnAddCost.mono_l k
  refine ⟨?_, ?_, ?_⟩
  ·intro y0 y1 y2
   unfold laws_FnAddCost.j0
   repeat' first
   | (with_reducible exact ih0 _ _ _)
   | (with_reducible exact ih1 _ _ _ _ _ _)
   | (with_reducible exact ih2 _ _ _ _)
   | (with_reducible exact spec_AddCost.mono _ _ _)
   | (with_reducible exact spec_DrawAddCost.mono _ _)
   | (with_reducible exact spec_DrawMinCost.mono _ _)
   | (with_reducible exact spec_MinCost.mono _ _ _)
   | (with_reducible exact LeO.refl _)
   | (with_reducible exact LeO.none _)
   | (with_reducible refine LeO.ite ?_ ?_)
   | (with_reducible refine LeO.bind ?_ (fun _ => ?_))
   | exact ih0 _ _ _
   | exact ih1 _ _ _ _ _ _
   | exact ih2 _ _ _ _
   | exact spec_AddCost.mono _ _ _
   | exact spec_DrawAddCost.mono _ _
   | exact spec_DrawMinCost.mono _ _
   | exact spec_MinCost.mono _ _ _
   | exact LeO.none _
   | refine LeO.ite ?_ ?_
   | refine LeO.bind ?_ (fun _ => ?_)
  ·intro y0 y1 y2 y3 y4 y5
   unfold laws_FnAddCost.j1
   repeat' first
   | (with_reducible exact ih0 _ _ _)
   | (with_reducible exact ih1 _ _ _ _ _ _)
   | (with_reducible exact ih2 _ _ _ _)
   | (with_reducible exact spec_AddCost.mono _ _ _)
   | (with_reducible exact spec_DrawAddCost.mono _ _)
   | (with_reducible exact spec_DrawMinCost.mono _ _)
   | (with_reducible exact spec_MinCost.mono _ _ _)
   | (with_reducible exact LeO.refl _)
   | (with_reducible exact LeO.none _)
   | (with_reducible refine LeO.ite ?_ ?_)
   | (with_reducible refine LeO.bind ?_ (fun _ => ?_))
   | exact ih0 _ _ _
   | exact ih1 _ _ _ _ _ _
   | exact ih2 _ _ _ _
   | exact spec_AddCost.mono _ _ _
   | exact spec_DrawAddCost.mono _ _
   | exact spec_DrawMinCost.mono _ _
   | exact spec_MinCost.mono _ _ _
   | exact LeO.none _
   | refine LeO.ite ?_ ?_
   | refine LeO.bind ?_ (fun _ => ?_)
  ·intro y0 y1 y2 y3
   unfold laws_FnAddCost.j2
   repeat' first
   | (with_reducible exact ih0 _ _ _)
   | (with_reducible exact ih1 _ _ _ _ _ _)
   | (with_reducible exact ih2 _ _ _ _)
   | (with_reducible exact spec_AddCost.mono _ _ _)
   | (with_reducible exact spec_DrawAddCost.mono _ _)
   | (with_reducible exact spec_DrawMinCost.mono _ _)
   | (with_reducible exact spec_MinCost.mono _ _ _)
   | (with_reducible exact LeO.refl _)
   | (with_reducible exact LeO.none _)
   | (with_reducible refine LeO.ite ?_ ?_)
   | (with_reducible refine LeO.bind ?_ (fun _ => ?_))
   | exact ih0 _ _ _
   | exact ih1 _ _ _ _ _ _
   | exact ih2 _ _ _ _
   | exact spec_AddCost.mono _ _ _
   | exact spec_DrawAddCost.mono _ _
   | exact spec_DrawMinCost.mono _ _
   | exact spec_MinCost.mono _ _ _
   | exact LeO.none _
   | refine LeO.ite ?_ ?_
   | refine LeO.bind ?_ (fun _ => ?_)
theorem laws_FnAddCost.mono : ∀ a0 a1 k, LeO (laws_FnAddCost.f k a0 a1) (laws_FnAddCost.f (k + 1) a0 a1) := by
 intro a0 a1 k
 obtain ⟨ih0, ih1, ih2⟩ := laws_FnAddCost.mono_l k
 unfold laws_FnAddCost.f
 repeat' first
   | (with_reducible exact ih0 _ _ _)
   | (with_reducible exact ih1 _ _ _ _ _ _)
   | (with_reducible exact ih2 _ _ _ _)
   | (with_reducible exact spec_AddCost.mono _ _ _)
   | (with_reducible exact spec_DrawAddCost.mono _ _)
   | (with_reducible exact spec_DrawMinCost.mono _ _)
   | (with_reducible exact spec_MinCost.mono _ _ _)
   | (with_reducible exact LeO.refl _)
   | (with_reducible exact LeO.none _)
   | (with_reducible refine LeO.ite ?_ ?_)
   | (with_reducible refine LeO.bind ?_ (fun _ => ?_))
   | exact ih0 _ _ _
   | exact ih1 _ _ _ _ _ _
   | exact ih2 _ _ _ _
   | exact spec_AddCost.mono _ _ _
   | exact spec_DrawAddCost.mono _ _
   | exact spec_DrawMinCost.mono _ _
   | exact spec_MinCost.mono _ _ _
   | exact LeO.none _
   | refine LeO.ite ?_ ?_
   | refine LeO.bind ?_ (fun _ => ?_)
set_option maxHeartbeats 8000000 in
set_option maxRecDepth 100000 in
theorem laws_FnAddCost.calls (k : Nat) (A0 : Option Addr) (c0 : Nat) (l0 : List Int) (A1 : Option Addr) (c1 : Nat) (l1 : List Int) (r : Bool) (w : World) (hr0 : Kd.C (Kd.int .u8) w A0 l0.length l0) (hc0 : l0.length ≤ c0) (hr1 : Kd.C (Kd.int .u8) w A1 l1.length l1) (hc1 : l1.length ≤ c1) (h : laws_FnAddCost.f k l0 l1 = some r) :
  Calls Try.prog 11 #[.slice A0 l0.length c0, .slice A1 l1.length c1] w fun e w' => e = .returned (.bool r) ∧ Below w.heap.size w w' := by
 have HR0 := Aside0.mk hr0
 have HC0 := Aside0.mk hc0
 clear hr0 hc0
 have HR1 := Aside0.mk hr1
 have HC1 := Aside0.mk hc1
 clear hr1 hc1
 have HB := Aside0.mk (Below.refl w.heap.size w)
 have H : (if (l0.length : Int) > 1048576 then (laws_FnAddCost.j0 k l0 l1 true) else (laws_FnAddCost.j0 k l0 l1 (decide ((l1.length : Int) > 1048576)))) = some r := h
 clear h
 have HC3 := Aside0.mk H
 clear H
 go_enter Try.func11, Try.ntmps11
 go_upto_region 1 with (fail)
 go_cut [20] (fun v20 wc => ∃ (kq : Nat) (x20_2 : Bool), v20 = .bool x20_2 ∧ Aside0 (laws_FnAddCost.j0 kq l0 l1 x20_2 = some r) ∧ Aside0 (kq ≤ k) ∧ Aside0 (Below w.heap.size w wc))
 case first =>
  have H := HC3.out
  clear HC3
  by_cases c4 : (l0.length : Int) > 1048576
  ·rw [if_pos c4] at H
   have c4b0 : decide (1048576 < (l0.length : Int)) = true := decide_eq_true c4
   have c4b1 : decide (1048576 < l0.length) = true := decide_eq_true (by omega)
   clear c4
   (first | rw [c4b0] | (simp only [i64_w, i32_w]; rw [c4b0]) | skip)
   have H' := Aside0.mk H
   clear H
   go_wp2
   go_meet
   case rel => exact ⟨_, (true), (by first | rfl | (simp; done) | (simp [*]; done)), H', ⟨by first | omega | exact Nat.le_refl _⟩, ⟨by exact bz HB.out⟩⟩
  ·rw [if_neg c4] at H
   have c4b0 : decide (1048576 < (l0.length : Int)) = false := decide_eq_false c4
   have c4b1 : decide (1048576 < l0.length) = false := decide_eq_false (by omega)
   clear c4
   (first | rw [c4b0] | (simp only [i64_w, i32_w]; rw [c4b0]) | skip)
   have H' := Aside0.mk H
   clear H
   go_wp2
   go_meet
   case rel => exact ⟨_, (decide ((l1.length : Int) > 1048576)), (by first | rfl | (simp; done) | (simp [*]; done)), H', ⟨by first | omega | exact Nat.le_refl _⟩, ⟨by exact bz HB.out⟩⟩
 case rest =>
  clear HC3
  try clear c1
  try clear p2
  try clear c4
  try clear c4b0
  try clear c4b1
  obtain ⟨kq, x20_2, rfl, HA, HJ2, HB⟩ := hcut
  cases kq with
  | zero => exact absurd HA.out (by simp [laws_FnAddCost.j0])
  | succ kj2 =>
   have H := HA.out
   clear HA
   simp only [laws_FnAddCost.j0] at H
   by_cases c5 : x20_2 = true
   ·subst c5
    have H1 : (some true) = some r := by rw [if_pos rfl] at H; exact H
    clear H
    have H := H1
    clear H1
    obtain rfl := Option.some.inj H
    go_wp2
    go_ret
    exact ⟨by first | rfl | (simp [errW_none, errW_some] <;> rfl) | (simp [*, errW_none, errW_some] <;> rfl), by exact bz HB.out⟩
   ·replace c5 := Bool.eq_false_iff.mpr c5
    subst c5
    have H1 : ((spec_DrawAddCost.f kj2 l0).bind fun bt142 => ((impl_AddCost.f bt142.1 bt142.2).bind fun t144 => ((impl_MinCost.f bt142.1 bt142.2).bind fun t145 => ((spec_AddCost.f kj2 bt142.1 bt142.2).bind fun t146 => (if t144 = t146 then ((spec_MinCost.f kj2 bt142.1 bt142.2).bind fun t147 => (if t145 = t147 then (laws_FnAddCost.j1 kj2 l1 bt142.1 bt142.2 t144 t145 (decide (t144 < 0))) else (laws_FnAddCost.j1 kj2 l1 bt142.1 bt142.2 t144 t145 true))) else (laws_FnAddCost.j1 kj2 l1 bt142.1 bt142.2 t144 t145 true)))))) = some r := by rw [if_neg (show ¬ (false = true) by decide)] at H; exact H
    clear H
    have H := H1
    clear H1
    replace H := Option.bind_eq_some_iff.mp H
    obtain ⟨⟨t142, t143⟩, A60, H⟩ := H
    replace H : ((impl_AddCost.f t142 t143).bind fun t144 => ((impl_MinCost.f t142 t143).bind fun t145 => ((spec_AddCost.f kj2 t142 t143).bind fun t146 => (if t144 = t146 then ((spec_MinCost.f kj2 t142 t143).bind fun t147 => (if t145 = t147 then (laws_FnAddCost.j1 kj2 l1 t142 t143 t144 t145 (decide (t144 < 0))) else (laws_FnAddCost.j1 kj2 l1 t142 t143 t144 t145 true))) else (laws_FnAddCost.j1 kj2 l1 t142 t143 t144 t145 true))))) = some r := H
    have A6 := Aside0.mk A60
    clear A60
    replace H := Option.bind_eq_some_iff.mp H
    obtain ⟨t144, A70, H⟩ := H
    replace H : ((impl_MinCost.f t142 t143).bind fun t145 => ((spec_AddCost.f kj2 t142 t143).bind fun t146 => (if t144 = t146 then ((spec_MinCost.f kj2 t142 t143).bind fun t147 => (if t145 = t147 then (laws_FnAddCost.j1 kj2 l1 t142 t143 t144 t145 (decide (t144 < 0))) else (laws_FnAddCost.j1 kj2 l1 t142 t143 t144 t145 true))) else (laws_FnAddCost.j1 kj2 l1 t142 t143 t144 t145 true)))) = some r := H
    have A7 := Aside0.mk A70
    clear A70
    replace H := Option.bind_eq_some_iff.mp H
    obtain ⟨t145, A80, H⟩ := H
    replace H : ((spec_AddCost.f kj2 t142 t143).bind fun t146 => (if t144 = t146 then ((spec_MinCost.f kj2 t142 t143).bind fun t147 => (if t145 = t147 then (laws_FnAddCost.j1 kj2 l1 t142 t143 t144 t145 (decide (t144 < 0))) else (laws_FnAddCost.j1 kj2 l1 t142 t143 t144 t145 true))) else (laws_FnAddCost.j1 kj2 l1 t142 t143 t144 t145 true))) = some r := H
    have A8 := Aside0.mk A80
    clear A80
    have HC9 := Aside0.mk H
    clear H
    go_upto_region 5 with (first | ((with_reducible refine gate_callee (f := 32) rfl ?_); refine goesL_ (some 23) rfl rfl Try.func32 (by kernel_rfl) rfl #[.slice A0 l0.length c0] rfl (by (try simp only [List.map_toArray, List.map_cons, List.map_nil]); first | done | rfl | (simp only [List.length_drop, List.length_take]; rfl)) ?_; (with_reducible refine (spec_DrawAddCost.calls kj2 _ _ l0 t142 t143 _ ?side1 ?side2 A6.out).mono ?_); (case side1 => repeat (first | exact (Kd.C_below HR0.out HB.out) | (with_reducible refine Kd.C_alloc ?_ _) | (with_reducible refine Kd.C_drewN ?_ _) | (with_reducible refine Kd.C_drew ?_))); (case side2 => exact HC0.out); rintro e w10 ⟨rfl, hb⟩; refine ⟨_, rfl, ?_⟩; have n0_ := Aside0.mk (below_step (by exact bz HB.out) hb); clear HB; have HB := n0_; clear n0_; (try clear hb); (try clear hb2); (try clear hk); (try clear hi)) | ((with_reducible refine gate_callee (f := 23) rfl ?_); refine goesL_ (some 28) rfl rfl Try.func23 (by kernel_rfl) rfl #[.int .i64 t142, .int .i64 t143] rfl (by (try simp only [List.map_toArray, List.map_cons, List.map_nil]); first | done | rfl | (simp only [List.length_drop, List.length_take]; rfl)) ?_; (with_reducible refine (impl_AddCost.calls t142 t143 t144 _ A7.out).mono ?_); rintro e w11 ⟨rfl, hb⟩; refine ⟨_, rfl, ?_⟩; have n0_ := Aside0.mk (below_step (by exact bz HB.out) hb); clear HB; have HB := n0_; clear n0_; (try clear hb); (try clear hb2); (try clear hk); (try clear hi)) | ((with_reducible refine gate_callee (f := 21) rfl ?_); refine goesL_ (some 31) rfl rfl Try.func21 (by kernel_rfl) rfl #[.int .i64 t142, .int .i64 t143] rfl (by (try simp only [List.map_toArray, List.map_cons, List.map_nil]); first | done | rfl | (simp only [List.length_drop, List.length_take]; rfl)) ?_; (with_reducible refine (impl_MinCost.calls t142 t143 t145 _ A8.out).mono ?_); rintro e w12 ⟨rfl, hb⟩; refine ⟨_, rfl, ?_⟩; have n0_ := Aside0.mk (below_step (by exact bz HB.out) hb); clear HB; have HB := n0_; clear n0_; (try clear hb); (try clear hb2); (try clear hk); (try clear hi)))
    (try simp only [Act.put, List.setIfInBounds_toArray, List.set_cons_zero, List.set_cons_succ])
    go_cut [47] (fun v47 wc => ∃ (kq : Nat) (x47_8 : Bool), v47 = .bool x47_8 ∧ Aside0 (laws_FnAddCost.j1 kq l1 t142 t143 t144 t145 x47_8 = some r) ∧ Aside0 (kq ≤ kj2) ∧ Aside0 (Below w.heap.size w wc))
    case first =>
     have H := HC9.out
     clear HC9
     replace H := Option.bind_eq_some_iff.mp H
     obtain ⟨t146, A130, H⟩ := H
     replace H : (if t144 = t146 then ((spec_MinCost.f kj2 t142 t143).bind fun t147 => (if t145 = t147 then (laws_FnAddCost.j1 kj2 l1 t142 t143 t144 t145 (decide (t144 < 0))) else (laws_FnAddCost.j1 kj2 l1 t142 t143 t144 t145 true))) else (laws_FnAddCost.j1 kj2 l1 t142 t143 t144 t145 true)) = some r := H
     have A13 := Aside0.mk A130
     clear A130
     by_cases c14 : t144 = t146
     ·rw [if_pos c14] at H
      have c14b0 : (t144 == t146) = true := beq_iff_eq.mpr c14
      have c14b1 : (t144 != t146) = false := bne_eq_false_iff_eq.mpr c14
      clear c14
      (first | rw [c14b0] | (simp only [i64_w, i32_w]; rw [c14b0]) | skip)
      replace H := Option.bind_eq_some_iff.mp H
      obtain ⟨t147, A150, H⟩ := H
      replace H : (if t145 = t147 then (laws_FnAddCost.j1 kj2 l1 t142 t143 t144 t145 (decide (t144 < 0))) else (laws_FnAddCost.j1 kj2 l1 t142 t143 t144 t145 true)) = some r := H
      have A15 := Aside0.mk A150
      clear A150
      by_cases c16 : t145 = t147
      ·rw [if_pos c16] at H
       have c16b0 : (t145 == t147) = true := beq_iff_eq.mpr c16
       have c16b1 : (t145 != t147) = false := bne_eq_false_iff_eq.mpr c16
       clear c16
       have H' := Aside0.mk H
       clear H
       go_wp2_with (first | ((with_reducible refine gate_callee (f := 22) rfl ?_); refine goesL_ (some 35) rfl rfl Try.func22 (by kernel_rfl) rfl #[.int .i64 t142, .int .i64 t143] rfl (by (try simp only [List.map_toArray, List.map_cons, List.map_nil]); first | done | rfl | (simp only [List.length_drop, List.length_take]; rfl)) ?_; (with_reducible refine (spec_AddCost.calls kj2 t142 t143 t146 _ A13.out).mono ?_); rintro e w17 ⟨rfl, hb⟩; refine ⟨_, rfl, ?_⟩; have n0_ := Aside0.mk (below_step (by exact bz HB.out) hb); clear HB; have HB := n0_; clear n0_; (try clear hb); (try clear hb2); (try clear hk); (try clear hi)) | (go_at_call 20; (with_reducible refine (spec_MinCost.calls kj2 t142 t143 t147 _ A15.out).mono ?_); rintro e w18 ⟨rfl, hb⟩; have n0_ := Aside0.mk (below_step (by exact bz HB.out) hb); clear HB; have HB := n0_; clear n0_; (try clear hb); (try clear hb2); (try clear hk); (try clear hi)))
       go_meet
       case rel => exact ⟨_, (decide (t144 < 0)), (by first | rfl | (simp; done) | (simp [*]; done)), H', ⟨by have := HJ2.out; first | omega | exact Nat.le_refl _⟩, ⟨by exact bz HB.out⟩⟩
      ·rw [if_neg c16] at H
       have c16b0 : (t145 == t147) = false := beq_eq_false_iff_ne.mpr c16
       have c16b1 : (t145 != t147) = true := bne_iff_ne.mpr c16
       have H' := Aside0.mk H
       clear H
       go_wp2_with (first | ((with_reducible refine gate_callee (f := 22) rfl ?_); refine goesL_ (some 35) rfl rfl Try.func22 (by kernel_rfl) rfl #[.int .i64 t142, .int .i64 t143] rfl (by (try simp only [List.map_toArray, List.map_cons, List.map_nil]); first | done | rfl | (simp only [List.length_drop, List.length_take]; rfl)) ?_; (with_reducible refine (spec_AddCost.calls kj2 t142 t143 t146 _ A13.out).mono ?_); rintro e w19 ⟨rfl, hb⟩; refine ⟨_, rfl, ?_⟩; have n0_ := Aside0.mk (below_step (by exact bz HB.out) hb); clear HB; have HB := n0_; clear n0_; (try clear hb); (try clear hb2); (try clear hk); (try clear hi)) | (go_at_call 20; (with_reducible refine (spec_MinCost.calls kj2 t142 t143 t147 _ A15.out).mono ?_); rintro e w20 ⟨rfl, hb⟩; have n0_ := Aside0.mk (below_step (by exact bz HB.out) hb); clear HB; have HB := n0_; clear n0_; (try clear hb); (try clear hb2); (try clear hk); (try clear hi)))
       go_meet
       case rel => exact ⟨_, (true), (by first | rfl | (simp; done) | (simp [*]; done)), H', ⟨by have := HJ2.out; first | omega | exact Nat.le_refl _⟩, ⟨by exact bz HB.out⟩⟩
     ·rw [if_neg c14] at H
      have c14b0 : (t144 == t146) = false := beq_eq_false_iff_ne.mpr c14
      have c14b1 : (t144 != t146) = true := bne_iff_ne.mpr c14
      (first | rw [c14b0] | (simp only [i64_w, i32_w]; rw [c14b0]) | skip)
      have H' := Aside0.mk H
      clear H
      go_wp2_with (first | ((with_reducible refine gate_callee (f := 22) rfl ?_); refine goesL_ (some 35) rfl rfl Try.func22 (by kernel_rfl) rfl #[.int .i64 t142, .int .i64 t143] rfl (by (try simp only [List.map_toArray, List.map_cons, List.map_nil]); first | done | rfl | (simp only [List.length_drop, List.length_take]; rfl)) ?_; (with_reducible refine (spec_AddCost.calls kj2 t142 t143 t146 _ A13.out).mono ?_); rintro e w21 ⟨rfl, hb⟩; refine ⟨_, rfl, ?_⟩; have n0_ := Aside0.mk (below_step (by exact bz HB.out) hb); clear HB; have HB := n0_; clear n0_; (try clear hb); (try clear hb2); (try clear hk); (try clear hi)))
      go_meet
      case rel => exact ⟨_, (true), (by first | rfl | (simp; done) | (simp [*]; done)), H', ⟨by have := HJ2.out; first | omega | exact Nat.le_refl _⟩, ⟨by exact bz HB.out⟩⟩
    case rest =>
     clear HC9
     try clear c1
     try clear c2
     try clear p2
     try clear c3
     try clear c4
     try clear c4b0
     try clear c4b1
     try clear c5
     try clear c11
     try clear c14
     try clear c14b0
     try clear c14b1
     try clear c16
     try clear c16b0
     try clear c16b1
     try clear c21
     try clear p2
     obtain ⟨kq, x47_8, rfl, HA, HJ8, HB⟩ := hcut
     cases kq with
     | zero => exact absurd HA.out (by simp [laws_FnAddCost.j1])
     | succ kj8 =>
      have H := HA.out
      clear HA
      simp only [laws_FnAddCost.j1] at H
      by_cases c22 : x47_8 = true
      ·subst c22
       have H1 : ((spec_AddCost.f kj8 t142 t143).bind fun t148 => (if t144 = t148 then ((spec_MinCost.f kj8 t142 t143).bind fun t149 => (if t145 = t149 then (some (t145 == t144)) else (none))) else (none))) = some r := by rw [if_pos rfl] at H; exact H
       clear H
       have H := H1
       clear H1
       replace H := Option.bind_eq_some_iff.mp H
       obtain ⟨t148, A230, H⟩ := H
       replace H : (if t144 = t148 then ((spec_MinCost.f kj8 t142 t143).bind fun t149 => (if t145 = t149 then (some (t145 == t144)) else (none))) else (none)) = some r := H
       have A23 := Aside0.mk A230
       clear A230
       by_cases c24 : t144 = t148
       ·rw [if_pos c24] at H
        have c24b0 : (t144 == t148) = true := beq_iff_eq.mpr c24
        have c24b1 : (t144 != t148) = false := bne_eq_false_iff_eq.mpr c24
        clear c24
        replace H := Option.bind_eq_some_iff.mp H
        obtain ⟨t149, A250, H⟩ := H
        replace H : (if t145 = t149 then (some (t145 == t144)) else (none)) = some r := H
        have A25 := Aside0.mk A250
        clear A250
        by_cases c26 : t145 = t149
        ·rw [if_pos c26] at H
         have c26b0 : (t145 == t149) = true := beq_iff_eq.mpr c26
         have c26b1 : (t145 != t149) = false := bne_eq_false_iff_eq.mpr c26
         clear c26
         obtain rfl := Option.some.inj H
         go_wp2_with (first | ((with_reducible refine gate_callee (f := 22) rfl ?_); refine goesL_ (some 51) rfl rfl Try.func22 (by kernel_rfl) rfl #[.int .i64 t142, .int .i64 t143] rfl (by (try simp only [List.map_toArray, List.map_cons, List.map_nil]); first | done | rfl | (simp only [List.length_drop, List.length_take]; rfl)) ?_; (with_reducible refine (spec_AddCost.calls kj8 t142 t143 t148 _ A23.out).mono ?_); rintro e w27 ⟨rfl, hb⟩; refine ⟨_, rfl, ?_⟩; have n0_ := Aside0.mk (below_step (by exact bz HB.out) hb); clear HB; have HB := n0_; clear n0_; (try clear hb); (try clear hb2); (try clear hk); (try clear hi)) | (go_at_call 20; (with_reducible refine (spec_MinCost.calls kj8 t142 t143 t149 _ A25.out).mono ?_); rintro e w28 ⟨rfl, hb⟩; have n0_ := Aside0.mk (below_step (by exact bz HB.out) hb); clear HB; have HB := n0_; clear n0_; (try clear hb); (try clear hb2); (try clear hk); (try clear hi)))
         go_ret
         exact ⟨by first | rfl | (simp [errW_none, errW_some] <;> rfl) | (simp [*, errW_none, errW_some] <;> rfl), by exact bz HB.out⟩
        ·rw [if_neg c26] at H
         exact absurd H (by simp)
       ·rw [if_neg c24] at H
        exact absurd H (by simp)
      ·replace c22 := Bool.eq_false_iff.mpr c22
       subst c22
       have H1 : ((spec_DrawMinCost.f kj8 l1).bind fun bt150 => ((impl_CostValid.f bt150.1).bind fun t152 => (if t152 = true then (laws_FnAddCost.j2 kj8 t142 t143 t144 bt150.1) else (laws_FnAddCost.j2 kj8 t142 t143 t144 1)))) = some r := by rw [if_neg (show ¬ (false = true) by decide)] at H; exact H
       clear H
       have H := H1
       clear H1
       replace H := Option.bind_eq_some_iff.mp H
       obtain ⟨⟨t150, t151⟩, A290, H⟩ := H
       replace H : ((impl_CostValid.f t150).bind fun t152 => (if t152 = true then (laws_FnAddCost.j2 kj8 t142 t143 t144 t150) else (laws_FnAddCost.j2 kj8 t142 t143 t144 1))) = some r := H
       have A29 := Aside0.mk A290
       clear A290
       replace H := Option.bind_eq_some_iff.mp H
       obtain ⟨t152, A300, H⟩ := H
       replace H : (if t152 = true then (laws_FnAddCost.j2 kj8 t142 t143 t144 t150) else (laws_FnAddCost.j2 kj8 t142 t143 t144 1)) = some r := H
       have A30 := Aside0.mk A300
       clear A300
       have HC31 := Aside0.mk H
       clear H
       go_upto_if 72 with (first | ((with_reducible refine gate_callee (f := 33) rfl ?_); refine goesL_ (some 67) rfl rfl Try.func33 (by kernel_rfl) rfl #[.slice A1 l1.length c1] rfl (by (try simp only [List.map_toArray, List.map_cons, List.map_nil]); first | done | rfl | (simp only [List.length_drop, List.length_take]; rfl)) ?_; (with_reducible refine (spec_DrawMinCost.calls kj8 _ _ l1 t150 t151 _ ?side1 ?side2 A29.out).mono ?_); (case side1 => repeat (first | exact (Kd.C_below HR1.out HB.out) | (with_reducible refine Kd.C_alloc ?_ _) | (with_reducible refine Kd.C_drewN ?_ _) | (with_reducible refine Kd.C_drew ?_))); (case side2 => exact HC1.out); rintro e w32 ⟨rfl, hb⟩; refine ⟨_, rfl, ?_⟩; have n0_ := Aside0.mk (below_step (by exact bz HB.out) hb); clear HB; have HB := n0_; clear n0_; (try clear hb); (try clear hb2); (try clear hk); (try clear hi)) | ((with_reducible refine gate_callee (f := 17) rfl ?_); refine goesL_ (some 71) rfl rfl Try.func17 (by kernel_rfl) rfl #[.int .i64 t150] rfl (by (try simp only [List.map_toArray, List.map_cons, List.map_nil]); first | done | rfl | (simp only [List.length_drop, List.length_take]; rfl)) ?_; (with_reducible refine (impl_CostValid.calls t150 t152 _ A30.out).mono ?_); rintro e w' ⟨rfl, ⟨nd, rfl⟩⟩; refine ⟨_, rfl, ?_⟩))
       (try simp only [Act.put, List.setIfInBounds_toArray, List.set_cons_zero, List.set_cons_succ])
       go_cut [9] (fun v9 wc => ∃ (kq : Nat) (x9_30 : Int), v9 = .int .i64 x9_30 ∧ Aside0 (laws_FnAddCost.j2 kq t142 t143 t144 x9_30 = some r) ∧ Aside0 (kq ≤ kj8) ∧ Aside0 (Below w.heap.size w wc))
       case first =>
        have H := HC31.out
        clear HC31
        by_cases c33 : t152 = true
        ·subst c33
         have H1 : (laws_FnAddCost.j2 kj8 t142 t143 t144 t150) = some r := by rw [if_pos rfl] at H; exact H
         clear H
         have H := H1
         clear H1
         have H' := Aside0.mk H
         clear H
         go_wp2
         go_meet
         case rel => exact ⟨_, (t150), (by first | rfl | (simp; done) | (simp [*]; done)), H', ⟨by have := HJ2.out; have := HJ8.out; first | omega | exact Nat.le_refl _⟩, ⟨by exact bz HB.out⟩⟩
        ·replace c33 := Bool.eq_false_iff.mpr c33
         subst c33
         have H1 : (laws_FnAddCost.j2 kj8 t142 t143 t144 1) = some r := by rw [if_neg (show ¬ (false = true) by decide)] at H; exact H
         clear H
         have H := H1
         clear H1
         have H' := Aside0.mk H
         clear H
         go_wp2
         go_meet
         case rel => exact ⟨_, (1), (by first | rfl | (simp; done) | (simp [*]; done)), H', ⟨by have := HJ2.out; have := HJ8.out; first | omega | exact Nat.le_refl _⟩, ⟨by exact bz HB.out⟩⟩
       case rest =>
        clear HC31
        try clear c1
        try clear c2
        try clear p2
        try clear c3
        try clear c4
        try clear c4b0
        try clear c4b1
        try clear c5
        try clear c11
        try clear c14
        try clear c14b0
        try clear c14b1
        try clear c16
        try clear c16b0
        try clear c16b1
        try clear c17
        try clear c21
        try clear c22
        try clear c23
        try clear c24
        try clear c24b0
        try clear c24b1
        try clear c26
        try clear c26b0
        try clear c26b1
        try clear c32
        try clear c33
        try clear p2
        obtain ⟨kq, x9_30, rfl, HA, HJ30, HB⟩ := hcut
        cases kq with
        | zero => exact absurd HA.out (by simp [laws_FnAddCost.j2])
        | succ kj30 =>
         have H := HA.out
         clear HA
         simp only [laws_FnAddCost.j2] at H
         replace H := Option.bind_eq_some_iff.mp H
         obtain ⟨t153, A340, H⟩ := H
         replace H : ((impl_AddCost.f t153 x9_30).bind fun t154 => ((impl_AddCost.f t142 x9_30).bind fun t155 => ((impl_AddCost.f t143 x9_30).bind fun t156 => ((impl_MinCost.f t155 t156).bind fun t157 => ((impl_AddCost.f t143 t142).bind fun t158 => (if t144 = t158 then (if t154 = t157 then ((impl_AddCost.f t144 x9_30).bind fun t159 => ((impl_AddCost.f t143 x9_30).bind fun t160 => ((impl_AddCost.f t142 t160).bind fun t161 => (if t159 = t161 then (if t144 ≥ (mx t142 t143) then ((impl_AddCost.f t142 0).bind fun t162 => (if t162 = t142 then ((impl_MinCost.f t142 1000000).bind fun t163 => (if t163 = t142 then ((impl_AddCost.f t142 1000000).bind fun t164 => (some (t164 == 1000000))) else (none))) else (none))) else (none)) else (none))))) else (none)) else (none))))))) = some r := H
         have A34 := Aside0.mk A340
         clear A340
         replace H := Option.bind_eq_some_iff.mp H
         obtain ⟨t154, A350, H⟩ := H
         replace H : ((impl_AddCost.f t142 x9_30).bind fun t155 => ((impl_AddCost.f t143 x9_30).bind fun t156 => ((impl_MinCost.f t155 t156).bind fun t157 => ((impl_AddCost.f t143 t142).bind fun t158 => (if t144 = t158 then (if t154 = t157 then ((impl_AddCost.f t144 x9_30).bind fun t159 => ((impl_AddCost.f t143 x9_30).bind fun t160 => ((impl_AddCost.f t142 t160).bind fun t161 => (if t159 = t161 then (if t144 ≥ (mx t142 t143) then ((impl_AddCost.f t142 0).bind fun t162 => (if t162 = t142 then ((impl_MinCost.f t142 1000000).bind fun t163 => (if t163 = t142 then ((impl_AddCost.f t142 1000000).bind fun t164 => (some (t164 == 1000000))) else (none))) else (none))) else (none)) else (none))))) else (none)) else (none)))))) = some r := H
         have A35 := Aside0.mk A350
         clear A350
         replace H := Option.bind_eq_some_iff.mp H
         obtain ⟨t155, A360, H⟩ := H
         replace H : ((impl_AddCost.f t143 x9_30).bind fun t156 => ((impl_MinCost.f t155 t156).bind fun t157 => ((impl_AddCost.f t143 t142).bind fun t158 => (if t144 = t158 then (if t154 = t157 then ((impl_AddCost.f t144 x9_30).bind fun t159 => ((impl_AddCost.f t143 x9_30).bind fun t160 => ((impl_AddCost.f t142 t160).bind fun t161 => (if t159 = t161 then (if t144 ≥ (mx t142 t143) then ((impl_AddCost.f t142 0).bind fun t162 => (if t162 = t142 then ((impl_MinCost.f t142 1000000).bind fun t163 => (if t163 = t142 then ((impl_AddCost.f t142 1000000).bind fun t164 => (some (t164 == 1000000))) else (none))) else (none))) else (none)) else (none))))) else (none)) else (none))))) = some r := H
         have A36 := Aside0.mk A360
         clear A360
         replace H := Option.bind_eq_some_iff.mp H
         obtain ⟨t156, A370, H⟩ := H
         replace H : ((impl_MinCost.f t155 t156).bind fun t157 => ((impl_AddCost.f t143 t142).bind fun t158 => (if t144 = t158 then (if t154 = t157 then ((impl_AddCost.f t144 x9_30).bind fun t159 => ((impl_AddCost.f t143 x9_30).bind fun t160 => ((impl_AddCost.f t142 t160).bind fun t161 => (if t159 = t161 then (if t144 ≥ (mx t142 t143) then ((impl_AddCost.f t142 0).bind fun t162 => (if t162 = t142 then ((impl_MinCost.f t142 1000000).bind fun t163 => (if t163 = t142 then ((impl_AddCost.f t142 1000000).bind fun t164 => (some (t164 == 1000000))) else (none))) else (none))) else (none)) else (none))))) else (none)) else (none)))) = some r := H
         have A37 := Aside0.mk A370
         clear A370
         replace H := Option.bind_eq_some_iff.mp H
         obtain ⟨t157, A380, H⟩ := H
         replace H : ((impl_AddCost.f t143 t142).bind fun t158 => (if t144 = t158 then (if t154 = t157 then ((impl_AddCost.f t144 x9_30).bind fun t159 => ((impl_AddCost.f t143 x9_30).bind fun t160 => ((impl_AddCost.f t142 t160).bind fun t161 => (if t159 = t161 then (if t144 ≥ (mx t142 t143) then ((impl_AddCost.f t142 0).bind fun t162 => (if t162 = t142 then ((impl_MinCost.f t142 1000000).bind fun t163 => (if t163 = t142 then ((impl_AddCost.f t142 1000000).bind fun t164 => (some (t164 == 1000000))) else (none))) else (none))) else (none)) else (none))))) else (none)) else (none))) = some r := H
         have A38 := Aside0.mk A380
         clear A380
         replace H := Option.bind_eq_some_iff.mp H
         obtain ⟨t158, A390, H⟩ := H
         replace H : (if t144 = t158 then (if t154 = t157 then ((impl_AddCost.f t144 x9_30).bind fun t159 => ((impl_AddCost.f t143 x9_30).bind fun t160 => ((impl_AddCost.f t142 t160).bind fun t161 => (if t159 = t161 then (if t144 ≥ (mx t142 t143) then ((impl_AddCost.f t142 0).bind fun t162 => (if t162 = t142 then ((impl_MinCost.f t142 1000000).bind fun t163 => (if t163 = t142 then ((impl_AddCost.f t142 1000000).bind fun t164 => (some (t164 == 1000000))) else (none))) else (none))) else (none)) else (none))))) else (none)) else (none)) = some r := H
         have A39 := Aside0.mk A390
         clear A390
         by_cases c40 : t144 = t158
         ·rw [if_pos c40] at H
          have c40b0 : (t144 == t158) = true := beq_iff_eq.mpr c40
          have c40b1 : (t144 != t158) = false := bne_eq_false_iff_eq.mpr c40
          clear c40
          by_cases c41 : t154 = t157
          ·rw [if_pos c41] at H
           have c41b0 : (t154 == t157) = true := beq_iff_eq.mpr c41
           have c41b1 : (t154 != t157) = false := bne_eq_false_iff_eq.mpr c41
           clear c41
           replace H := Option.bind_eq_some_iff.mp H
           obtain ⟨t159, A420, H⟩ := H
           replace H : ((impl_AddCost.f t143 x9_30).bind fun t160 => ((impl_AddCost.f t142 t160).bind fun t161 => (if t159 = t161 then (if t144 ≥ (mx t142 t143) then ((impl_AddCost.f t142 0).bind fun t162 => (if t162 = t142 then ((impl_MinCost.f t142 1000000).bind fun t163 => (if t163 = t142 then ((impl_AddCost.f t142 1000000).bind fun t164 => (some (t164 == 1000000))) else (none))) else (none))) else (none)) else (none)))) = some r := H
           have A42 := Aside0.mk A420
           clear A420
           replace H := Option.bind_eq_some_iff.mp H
           obtain ⟨t160, A430, H⟩ := H
           replace H : ((impl_AddCost.f t142 t160).bind fun t161 => (if t159 = t161 then (if t144 ≥ (mx t142 t143) then ((impl_AddCost.f t142 0).bind fun t162 => (if t162 = t142 then ((impl_MinCost.f t142 1000000).bind fun t163 => (if t163 = t142 then ((impl_AddCost.f t142 1000000).bind fun t164 => (some (t164 == 1000000))) else (none))) else (none))) else (none)) else (none))) = some r := H
           have A43 := Aside0.mk A430
           clear A430
           replace H := Option.bind_eq_some_iff.mp H
           obtain ⟨t161, A440, H⟩ := H
           replace H : (if t159 = t161 then (if t144 ≥ (mx t142 t143) then ((impl_AddCost.f t142 0).bind fun t162 => (if t162 = t142 then ((impl_MinCost.f t142 1000000).bind fun t163 => (if t163 = t142 then ((impl_AddCost.f t142 1000000).bind fun t164 => (some (t164 == 1000000))) else (none))) else (none))) else (none)) else (none)) = some r := H
           have A44 := Aside0.mk A440
           clear A440
           by_cases c45 : t159 = t161
           ·rw [if_pos c45] at H
            have c45b0 : (t159 == t161) = true := beq_iff_eq.mpr c45
            have c45b1 : (t159 != t161) = false := bne_eq_false_iff_eq.mpr c45
            clear c45
            obtain ⟨ji46, hji46⟩ : ∃ j_ : Int, (mx t142 t143) = j_ := ⟨_, rfl⟩
            replace H : (if t144 ≥ (ji46) then ((impl_AddCost.f t142 0).bind fun t162 => (if t162 = t142 then ((impl_MinCost.f t142 1000000).bind fun t163 => (if t163 = t142 then ((impl_AddCost.f t142 1000000).bind fun t164 => (some (t164 == 1000000))) else (none))) else (none))) else (none)) = some r := by first | (rw [hji46] at H; exact H) | (simp only [hji46] at H ⊢; exact H)
            (try rw [hji46] at A34)
            (try rw [hji46] at A35)
            (try rw [hji46] at A36)
            (try rw [hji46] at A37)
            (try rw [hji46] at A38)
            (try rw [hji46] at A39)
            (try rw [hji46] at A42)
            (try rw [hji46] at A43)
            (try rw [hji46] at A44)
            have hji46_ : (if t142 < t143 then t143 else t142) = ji46 := hji46
            by_cases c47 : t144 ≥ (ji46)
            ·rw [if_pos c47] at H
             have c47b0 : decide ((ji46) ≤ t144) = true := decide_eq_true c47
             clear c47
             replace H := Option.bind_eq_some_iff.mp H
             obtain ⟨t162, A480, H⟩ := H
             replace H : (if t162 = t142 then ((impl_MinCost.f t142 1000000).bind fun t163 => (if t163 = t142 then ((impl_AddCost.f t142 1000000).bind fun t164 => (some (t164 == 1000000))) else (none))) else (none)) = some r := H
             have A48 := Aside0.mk A480
             clear A480
             by_cases c49 : t162 = t142
             ·rw [if_pos c49] at H
              have c49b0 : (t162 == t142) = true := beq_iff_eq.mpr c49
              have c49b1 : (t162 != t142) = false := bne_eq_false_iff_eq.mpr c49
              clear c49
              replace H := Option.bind_eq_some_iff.mp H
              obtain ⟨t163, A500, H⟩ := H
              replace H : (if t163 = t142 then ((impl_AddCost.f t142 1000000).bind fun t164 => (some (t164 == 1000000))) else (none)) = some r := H
              have A50 := Aside0.mk A500
              clear A500
              by_cases c51 : t163 = t142
              ·rw [if_pos c51] at H
               have c51b0 : (t163 == t142) = true := beq_iff_eq.mpr c51
               have c51b1 : (t163 != t142) = false := bne_eq_false_iff_eq.mpr c51
               clear c51
               replace H := Option.bind_eq_some_iff.mp H
               obtain ⟨t164, A520, H⟩ := H
               replace H : (some (t164 == 1000000)) = some r := H
               have A52 := Aside0.mk A520
               clear A520
               obtain rfl := Option.some.inj H
               go_wp2_with (first | ((with_reducible refine gate_callee (f := 21) rfl ?_); refine goesL_ (some 75) rfl rfl Try.func21 (by kernel_rfl) rfl #[.int .i64 t142, .int .i64 t143] rfl (by (try simp only [List.map_toArray, List.map_cons, List.map_nil]); first | done | rfl | (simp only [List.length_drop, List.length_take]; rfl)) ?_; (with_reducible refine (impl_MinCost.calls t142 t143 t153 _ A34.out).mono ?_); rintro e w53 ⟨rfl, hb⟩; refine ⟨_, rfl, ?_⟩; have n0_ := Aside0.mk (below_step (by exact bz HB.out) hb); clear HB; have HB := n0_; clear n0_; (try clear hb); (try clear hb2); (try clear hk); (try clear hi)) | ((with_reducible refine gate_callee (f := 23) rfl ?_); refine goesL_ (some 77) rfl rfl Try.func23 (by kernel_rfl) rfl #[.int .i64 t153, .int .i64 x9_30] rfl (by (try simp only [List.map_toArray, List.map_cons, List.map_nil]); first | done | rfl | (simp only [List.length_drop, List.length_take]; rfl)) ?_; (with_reducible refine (impl_AddCost.calls t153 x9_30 t154 _ A35.out).mono ?_); rintro e w54 ⟨rfl, hb⟩; refine ⟨_, rfl, ?_⟩; have n0_ := Aside0.mk (below_step (by exact bz HB.out) hb); clear HB; have HB := n0_; clear n0_; (try clear hb); (try clear hb2); (try clear hk); (try clear hi)) | ((with_reducible refine gate_callee (f := 23) rfl ?_); refine goesL_ (some 80) rfl rfl Try.func23 (by kernel_rfl) rfl #[.int .i64 t142, .int .i64 x9_30] rfl (by (try simp only [List.map_toArray, List.map_cons, List.map_nil]); first | done | rfl | (simp only [List.length_drop, List.length_take]; rfl)) ?_; (with_reducible refine (impl_AddCost.calls t142 x9_30 t155 _ A36.out).mono ?_); rintro e w55 ⟨rfl, hb⟩; refine ⟨_, rfl, ?_⟩; have n0_ := Aside0.mk (below_step (by exact bz HB.out) hb); clear HB; have HB := n0_; clear n0_; (try clear hb); (try clear hb2); (try clear hk); (try clear hi)) | ((with_reducible refine gate_callee (f := 23) rfl ?_); refine goesL_ (some 83) rfl rfl Try.func23 (by kernel_rfl) rfl #[.int .i64 t143, .int .i64 x9_30] rfl (by (try simp only [List.map_toArray, List.map_cons, List.map_nil]); first | done | rfl | (simp only [List.length_drop, List.length_take]; rfl)) ?_; (with_reducible refine (impl_AddCost.calls t143 x9_30 t156 _ A37.out).mono ?_); rintro e w56 ⟨rfl, hb⟩; refine ⟨_, rfl, ?_⟩; have n0_ := Aside0.mk (below_step (by exact bz HB.out) hb); clear HB; have HB := n0_; clear n0_; (try clear hb); (try clear hb2); (try clear hk); (try clear hi)) | ((with_reducible refine gate_callee (f := 21) rfl ?_); refine goesL_ (some 84) rfl rfl Try.func21 (by kernel_rfl) rfl #[.int .i64 t155, .int .i64 t156] rfl (by (try simp only [List.map_toArray, List.map_cons, List.map_nil]); first | done | rfl | (simp only [List.length_drop, List.length_take]; rfl)) ?_; (with_reducible refine (impl_MinCost.calls t155 t156 t157 _ A38.out).mono ?_); rintro e w57 ⟨rfl, hb⟩; refine ⟨_, rfl, ?_⟩; have n0_ := Aside0.mk (below_step (by exact bz HB.out) hb); clear HB; have HB := n0_; clear n0_; (try clear hb); (try clear hb2); (try clear hk); (try clear hi)) | ((with_reducible refine gate_callee (f := 23) rfl ?_); refine goesL_ (some 88) rfl rfl Try.func23 (by kernel_rfl) rfl #[.int .i64 t143, .int .i64 t142] rfl (by (try simp only [List.map_toArray, List.map_cons, List.map_nil]); first | done | rfl | (simp only [List.length_drop, List.length_take]; rfl)) ?_; (with_reducible refine (impl_AddCost.calls t143 t142 t158 _ A39.out).mono ?_); rintro e w58 ⟨rfl, hb⟩; refine ⟨_, rfl, ?_⟩; have n0_ := Aside0.mk (below_step (by exact bz HB.out) hb); clear HB; have HB := n0_; clear n0_; (try clear hb); (try clear hb2); (try clear hk); (try clear hi)) | (go_at_call 23; (with_reducible refine (impl_AddCost.calls t144 x9_30 t159 _ A42.out).mono ?_); rintro e w59 ⟨rfl, hb⟩; have n0_ := Aside0.mk (below_step (by exact bz HB.out) hb); clear HB; have HB := n0_; clear n0_; (try clear hb); (try clear hb2); (try clear hk); (try clear hi)) | (go_at_call 23; (with_reducible refine (impl_AddCost.calls t143 x9_30 t160 _ A43.out).mono ?_); rintro e w60 ⟨rfl, hb⟩; have n0_ := Aside0.mk (below_step (by exact bz HB.out) hb); clear HB; have HB := n0_; clear n0_; (try clear hb); (try clear hb2); (try clear hk); (try clear hi)) | (go_at_call 23; (with_reducible refine (impl_AddCost.calls t142 t160 t161 _ A44.out).mono ?_); rintro e w61 ⟨rfl, hb⟩; have n0_ := Aside0.mk (below_step (by exact bz HB.out) hb); clear HB; have HB := n0_; clear n0_; (try clear hb); (try clear hb2); (try clear hk); (try clear hi)) | (go_at_call 23; (with_reducible refine (impl_AddCost.calls t142 0 t162 _ A48.out).mono ?_); rintro e w62 ⟨rfl, hb⟩; have n0_ := Aside0.mk (below_step (by exact bz HB.out) hb); clear HB; have HB := n0_; clear n0_; (try clear hb); (try clear hb2); (try clear hk); (try clear hi)) | (go_at_call 21; (with_reducible refine (impl_MinCost.calls t142 1000000 t163 _ A50.out).mono ?_); rintro e w63 ⟨rfl, hb⟩; have n0_ := Aside0.mk (below_step (by exact bz HB.out) hb); clear HB; have HB := n0_; clear n0_; (try clear hb); (try clear hb2); (try clear hk); (try clear hi)) | (go_at_call 23; (with_reducible refine (impl_AddCost.calls t142 1000000 t164 _ A52.out).mono ?_); rintro e w64 ⟨rfl, hb⟩; have n0_ := Aside0.mk (below_step (by exact bz HB.out) hb); clear HB; have HB := n0_; clear n0_; (try clear hb); (try clear hb2); (try clear hk); (try clear hi)))
               go_ret
               exact ⟨by first | rfl | (simp [errW_none, errW_some] <;> rfl) | (simp only [← hji46]; first | rfl | (simp [errW_none, errW_some] <;> rfl)) | (simp [*, errW_none, errW_some] <;> rfl), by exact bz HB.out⟩
              ·rw [if_neg c51] at H
               exact absurd H (by simp)
             ·rw [if_neg c49] at H
              exact absurd H (by simp)
            ·rw [if_neg c47] at H
             exact absurd H (by simp)
           ·rw [if_neg c45] at H
            exact absurd H (by simp)
          ·rw [if_neg c41] at H
           exact absurd H (by simp)
         ·rw [if_neg c40] at H
          exact absurd H (by simp)

/-- THE ONE PURE STATEMENT of laws_FnAddCost. -/
def laws_FnAddCost.Pure : Prop := ∀ (l0 : List Int) (l1 : List Int), l0.length ≤ maxLen → l0.length * 1 ≤ 140737488351232 → (∀ x ∈ l0, (Lit.int .u8 x).wf = true) → l1.length ≤ maxLen → l1.length * 1 ≤ 140737488351232 → (∀ x ∈ l1, (Lit.int .u8 x).wf = true) → ∃ k, laws_FnAddCost.f k l0 l1 = some true
theorem laws_FnAddCost.walk (P : laws_FnAddCost.Pure) (a0 : Option Addr) (len0 cap0 : Nat) (z0 : List Int) (a1 : Option Addr) (len1 cap1 : Nat) (z1 : List Int) (w : World) (w0 : (a0 = none ∧ len0 = 0 ∧ cap0 = 0 ∧ z0 = []) ∨ ∃ x, a0 = some x ∧ len0 ≤ cap0 ∧ cap0 ≤ maxLen ∧ z0.length = cap0 ∧ (∀ i, i < z0.length → w.cell? (x.add i) = some (.int .u8 (z0.getD i 0))) ∧ ∀ n ∈ z0, (Lit.int .u8 n).wf = true) (y0 : len0 * 1 ≤ 140737488351232) (w1 : (a1 = none ∧ len1 = 0 ∧ cap1 = 0 ∧ z1 = []) ∨ ∃ x, a1 = some x ∧ len1 ≤ cap1 ∧ cap1 ≤ maxLen ∧ z1.length = cap1 ∧ (∀ i, i < z1.length → w.cell? (x.add i) = some (.int .u8 (z1.getD i 0))) ∧ ∀ n ∈ z1, (Lit.int .u8 n).wf = true) (y1 : len1 * 1 ≤ 140737488351232) :
  Calls Try.prog 11 #[.slice a0 len0 cap0, .slice a1 len1 cap1] w fun e w' => e = .returned (.bool true) ∧ Below w.heap.size w w' := by
 obtain ⟨l0, rfl, hr0, hm0, hw0, hc0⟩ := ReadsInt.ofRowC w0
 obtain ⟨l1, rfl, hr1, hm1, hw1, hc1⟩ := ReadsInt.ofRowC w1
 obtain ⟨k, h⟩ := P l0 l1 hm0 y0 hw0 hm1 y1 hw1
 refine (laws_FnAddCost.calls k _ _ l0 _ _ l1 true w (Kd.C_of_reads (d := (0 : Int)) (h1 := fun _ => rfl) hr0) hc0 (Kd.C_of_reads (d := (0 : Int)) (h1 := fun _ => rfl) hr1) hc1 h).mono ?_
 rintro e w' ⟨rfl, hd⟩
 exact ⟨rfl, hd⟩

end Go.Proofs.Ythgkfakkpinbcaa.PFnAddCost
