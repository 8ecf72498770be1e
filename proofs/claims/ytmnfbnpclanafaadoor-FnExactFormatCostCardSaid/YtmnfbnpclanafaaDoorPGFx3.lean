-- Written by a program (wip/myprint.py): the machine side of one law: each function that it reaches, as a plain function, and the proof that a call comes to just that.
import Derived.Test.YtmnfbnpclanafaaDoorPGFx0
import Derived.Test.YtmnfbnpclanafaaDoorPGFx1
namespace Go.Proofs.YtmnfbnpclanafaaDoor.PGF
open Go.RowKit Go.Proofs.YtmnfbnpclanafaaDoorW.PrintWords Go.Proofs.YtmnfbnpclanafaaDoorW.PrintLast Go.Proofs.YtmnfbnpclanafaaDoorW.PrintMore
attribute [local go_sem] max2_int min2_int max_two min_two max_three min_three max_four min_four   -- for this text's walks alone
set_option linter.unusedVariables false
set_option linter.unusedSimpArgs false

/-! ### laws_FnExactFormatCost: function 3 -/
def laws_FnExactFormatCost.f (k : Nat) (a0 : Int) : Option (Bool) := (spec_FormatCost.f k a0).bind fun t132 => ((impl_FormatCost.f a0).bind fun t133 => (if t133.toList = t132.toList then (some true) else (none)))
theorem laws_FnExactFormatCost.mono : ∀ a0 k, LeO (laws_FnExactFormatCost.f k a0) (laws_FnExactFormatCost.f (k + 1) a0) := by
 intro a0 k; unfold laws_FnExactFormatCost.f; repeat' first
   | (with_reducible exact spec_FormatCost.mono _ _)
   | (with_reducible exact LeO.refl _)
   | (with_reducible exact LeO.none _)
   | (with_reducible refine LeO.ite ?_ ?_)
   | (with_reducible refine LeO.bind ?_ (fun _ => ?_))
   | exact spec_FormatCost.mono _ _
   | exact LeO.none _
   | refine LeO.ite ?_ ?_
   | refine LeO.bind ?_ (fun _ => ?_)
set_option maxHeartbeats 8000000 in
set_option maxRecDepth 100000 in
theorem laws_FnExactFormatCost.calls (k : Nat) (a0 : Int) (r : Bool) (w : World) (h : laws_FnExactFormatCost.f k a0 = some r) (hD : Door w) :
  Calls Tryd.prog 3 #[.int .i64 a0] w fun e w' => e = .returned (.bool r) ∧ Below w.heap.size w w' := by
 have HD := am hD; clear hD; have HB := am (Below.refl w.heap.size w); have H : ((spec_FormatCost.f k a0).bind fun t132 => ((impl_FormatCost.f a0).bind fun t133 => (if t133.toList = t132.toList then (some true) else (none)))) = some r := h; clear h; replace H := Option.bind_eq_some_iff.mp H; obtain ⟨t132, A20, H⟩ := H; (try dsimp only at H); have A2 := am A20; clear A20; replace H := Option.bind_eq_some_iff.mp H; obtain ⟨t133, A30, H⟩ := H; (try dsimp only at H); have A3 := am A30; clear A30; by_cases c4 : t133.toList = t132.toList
 ·rw [if_pos c4] at H; have c4b0 : (t133.toList == t132.toList) = true := beq_iff_eq.mpr c4; have c4b1 : (t133.toList != t132.toList) = false := bne_eq_false_iff_eq.mpr c4; clear c4; obtain rfl := Option.some.inj H; go_enter Tryd.func3, Tryd.ntmps3; go_wp2_with (first | ((with_reducible refine gy 11 rfl ?_); refine gl Tryd.func11 #[.int .i64 a0] ?_; (with_reducible refine (spec_FormatCost.calls k a0 t132 _ A2.out).mono ?_); rintro e w5 ⟨rfl, hb⟩; refine ⟨_, rfl, ?_⟩; have n0_ := hs HB hb; clear HB; revert n0_; intro HB; (try clear hb); (try clear hb2); (try clear hk); (try clear hi)) | ((with_reducible refine gy 12 rfl ?_); refine gl Tryd.func12 #[.int .i64 a0] ?_; (with_reducible refine (impl_FormatCost.calls a0 t133 _ A3.out ?sideD).mono ?_); (case sideD => exact door_up HD.out (bw HB.out)); rintro e w6 ⟨rfl, hb⟩; refine ⟨_, rfl, ?_⟩; have n0_ := hs HB hb; clear HB; revert n0_; intro HB; (try clear hb); (try clear hb2); (try clear hk); (try clear hi))); go_ret; exact ⟨by first | rfl | (simp [errW_none, errW_some] <;> rfl) | (simp [*, errW_none, errW_some] <;> rfl), by exact bz HB.out⟩
 ·rw [if_neg c4] at H; exact absurd H (by simp)

/-- THE ONE PURE STATEMENT of laws_FnExactFormatCost. -/
def laws_FnExactFormatCost.Pure : Prop := ∀ (a0 : Int), (Lit.int .i64 a0).wf = true → ∃ k, laws_FnExactFormatCost.f k a0 = some true
theorem laws_FnExactFormatCost.walk (P : laws_FnExactFormatCost.Pure) (a0 : Int) (w : World) (w0 : (Lit.int .i64 a0).wf = true) (hD : Door w) :
  Calls Tryd.prog 3 #[.int .i64 a0] w fun e w' => e = .returned (.bool true) ∧ Below w.heap.size w w' := by
 obtain ⟨k, h⟩ := P a0 w0; refine (laws_FnExactFormatCost.calls k a0 true w  h hD).mono ?_; rintro e w' ⟨rfl, hd⟩; exact ⟨rfl, hd⟩

end Go.Proofs.YtmnfbnpclanafaaDoor.PGF
