-- Written by a program (wip/myprint.py): the machine side of one law: each function that it reaches, as a plain function, and the proof that a call comes to just that.
import Derived.Test.YtmnfbnpclanafaaDoorPGPx0
import Derived.Test.YtmnfbnpclanafaaDoorPGPx1
namespace Go.Proofs.YtmnfbnpclanafaaDoor.PGP
open Go.RowKit Go.Proofs.YtmnfbnpclanafaaDoorW.PrintWords Go.Proofs.YtmnfbnpclanafaaDoorW.PrintLast Go.Proofs.YtmnfbnpclanafaaDoorW.PrintMore
attribute [local go_sem] max2_int min2_int max_two min_two max_three min_three max_four min_four   -- for this text's walks alone
set_option linter.unusedVariables false
set_option linter.unusedSimpArgs false

/-! ### laws_FnExactParseCost: function 5 -/
def laws_FnExactParseCost.f (k : Nat) (a0 : ByteArray) : Option (Bool) := if (a0.size : Int) > 1048576 then (some true) else ((spec_ParseCost.f k a0).bind fun bt140 => ((impl_ParseCost.f a0).bind fun bt142 => (if bt142.1 = bt140.1 then (if (bt142.2 != bt140.2) = true then (none) else (some true)) else (none))))
theorem laws_FnExactParseCost.mono : ∀ a0 k, LeO (laws_FnExactParseCost.f k a0) (laws_FnExactParseCost.f (k + 1) a0) := by
 intro a0 k; unfold laws_FnExactParseCost.f; repeat' first
   | (with_reducible exact spec_ParseCost.mono _ _)
   | (with_reducible exact LeO.refl _)
   | (with_reducible exact LeO.none _)
   | (with_reducible refine LeO.ite ?_ ?_)
   | (with_reducible refine LeO.bind ?_ (fun _ => ?_))
   | exact spec_ParseCost.mono _ _
   | exact LeO.none _
   | refine LeO.ite ?_ ?_
   | refine LeO.bind ?_ (fun _ => ?_)
set_option maxHeartbeats 8000000 in
set_option maxRecDepth 100000 in
theorem laws_FnExactParseCost.calls (k : Nat) (a0 : ByteArray) (r : Bool) (w : World) (h : laws_FnExactParseCost.f k a0 = some r) (hD : Door w) :
  Calls Tryd.prog 5 #[.string a0] w fun e w' => e = .returned (.bool r) ∧ Below w.heap.size w w' := by
 have HD := am hD; clear hD; have HB := am (Below.refl w.heap.size w); have H : (if (a0.size : Int) > 1048576 then (some true) else ((spec_ParseCost.f k a0).bind fun bt140 => ((impl_ParseCost.f a0).bind fun bt142 => (if bt142.1 = bt140.1 then (if (bt142.2 != bt140.2) = true then (none) else (some true)) else (none))))) = some r := h; clear h; by_cases c2 : (a0.size : Int) > 1048576
 ·rw [if_pos c2] at H; have c2b0 : decide (1048576 < (a0.size : Int)) = true := decide_eq_true c2; have c2b1 : decide (1048576 < a0.size) = true := decide_eq_true (by omega); clear c2; obtain rfl := Option.some.inj H; go_enter Tryd.func5, Tryd.ntmps5; go_wp2; go_ret; exact ⟨by first | rfl | (simp [errW_none, errW_some] <;> rfl) | (simp [*, errW_none, errW_some] <;> rfl), by exact bz HB.out⟩
 ·rw [if_neg c2] at H; have c2b0 : decide (1048576 < (a0.size : Int)) = false := decide_eq_false c2; have c2b1 : decide (1048576 < a0.size) = false := decide_eq_false (by omega); clear c2; replace H := Option.bind_eq_some_iff.mp H; obtain ⟨⟨t140, t141⟩, A30, H⟩ := H; (try dsimp only at H); have A3 := am A30; clear A30; replace H := Option.bind_eq_some_iff.mp H; obtain ⟨⟨t142, t143⟩, A40, H⟩ := H; (try dsimp only at H); have A4 := am A40; clear A40; by_cases c5 : t142 = t140
  ·rw [if_pos c5] at H; have c5b0 : (t142 == t140) = true := beq_iff_eq.mpr c5; have c5b1 : (t142 != t140) = false := bne_eq_false_iff_eq.mpr c5; clear c5; by_cases c6 : (t143 != t141) = true
   ·rw [if_pos c6] at H; exact absurd H (by simp)
   ·rw [if_neg c6] at H
    have c6b0 : (t143 != t141) = false := by simpa using c6
    (try (have c6b1 : decide (t143 = t141) = true := by simpa using c6)); (try (have c6b2 : (t143 == t141) = true := by simpa using c6)); clear c6; obtain rfl := Option.some.inj H; go_enter Tryd.func5, Tryd.ntmps5; go_wp2_with (first | ((with_reducible refine gy 17 rfl ?_); refine gl Tryd.func17 #[.string a0] ?_; (with_reducible refine (spec_ParseCost.calls k a0 t140 t141 _ A3.out).mono ?_); rintro e w' ⟨rfl, ⟨nd, rfl⟩⟩; refine ⟨_, rfl, ?_⟩) | ((with_reducible refine gy 18 rfl ?_); refine gl Tryd.func18 #[.string a0] ?_; (with_reducible refine (impl_ParseCost.calls a0 t142 t143 _ A4.out ?sideD).mono ?_); (case sideD => exact door_up HD.out (bw HB.out)); rintro e w7 ⟨rfl, hb⟩; refine ⟨_, rfl, ?_⟩; have n0_ := hs HB hb; clear HB; revert n0_; intro HB; (try clear hb); (try clear hb2); (try clear hk); (try clear hi))); go_ret; exact ⟨by first | rfl | (simp [errW_none, errW_some] <;> rfl) | (simp [*, errW_none, errW_some] <;> rfl), by exact bz HB.out⟩
  ·rw [if_neg c5] at H; exact absurd H (by simp)

/-- THE ONE PURE STATEMENT of laws_FnExactParseCost. -/
def laws_FnExactParseCost.Pure : Prop := ∀ (a0 : ByteArray), a0.size ≤ 140737488351232 → ∃ k, laws_FnExactParseCost.f k a0 = some true
theorem laws_FnExactParseCost.walk (P : laws_FnExactParseCost.Pure) (a0 : ByteArray) (w : World) (w0 : a0.size ≤ 140737488351232) (hD : Door w) :
  Calls Tryd.prog 5 #[.string a0] w fun e w' => e = .returned (.bool true) ∧ Below w.heap.size w w' := by
 obtain ⟨k, h⟩ := P a0 w0; refine (laws_FnExactParseCost.calls k a0 true w  h hD).mono ?_; rintro e w' ⟨rfl, hd⟩; exact ⟨rfl, hd⟩

end Go.Proofs.YtmnfbnpclanafaaDoor.PGP
