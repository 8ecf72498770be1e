-- Written by a program (wip/myprint.py): the machine side of one law: each function that it reaches, as a plain function, and the proof that a call comes to just that.
import Derived.Test.YtmnfbnpclanafaaDoorPGPx0
import Derived.Test.YtmnfbnpclanafaaDoorPGPx2
import Derived.Test.YtmnfbnpclanafaaDoorPGPx4
namespace Go.Proofs.YtmnfbnpclanafaaDoor.PGP
open Go.RowKit Go.Proofs.YtmnfbnpclanafaaDoorW.PrintWords Go.Proofs.YtmnfbnpclanafaaDoorW.PrintLast Go.Proofs.YtmnfbnpclanafaaDoorW.PrintMore
attribute [local go_sem] max2_int min2_int max_two min_two max_three min_three max_four min_four   -- for this text's walks alone
set_option linter.unusedVariables false
set_option linter.unusedSimpArgs false

/-! ### laws_FnExactParseCosts: function 6 -/
def laws_FnExactParseCosts.f (k : Nat) (a0 : ByteArray) : Option (Bool) := if (a0.size : Int) > 1048576 then (some true) else ((spec_ParseCosts.f k a0).bind fun bt186 => ((impl_ParseCosts.f k a0).bind fun bt190 => ((laws_eqIntS.f k bt190.1 bt186.1).bind fun t194 => (if t194 = true then (if (bt190.2 != bt186.2) = true then (none) else ((laws_markIntS.f k bt190.1 1).bind fun bt195 => ((laws_heldIntS.f k bt195.2 1).bind fun t197 => (if t197 < 0 then (none) else (if t197 = bt195.1 then ((impl_ParseCosts.f k a0).bind fun bt198 => ((laws_eqIntS.f k bt198.1 bt186.1).bind fun t202 => (if t202 = true then (if (bt198.2 != bt186.2) = true then (none) else ((laws_heldIntS.f k bt195.2 1).bind fun t203 => (if t203 < 0 then (none) else (if t203 = bt195.1 then (some true) else (none))))) else (none)))) else (none)))))) else (none)))))
theorem laws_FnExactParseCosts.mono : ∀ a0 k, LeO (laws_FnExactParseCosts.f k a0) (laws_FnExactParseCosts.f (k + 1) a0) := by
 intro a0 k; unfold laws_FnExactParseCosts.f; repeat' first
   | (with_reducible exact impl_ParseCosts.mono _ _)
   | (with_reducible exact laws_eqIntS.mono _ _ _)
   | (with_reducible exact laws_heldIntS.mono _ _ _)
   | (with_reducible exact laws_markIntS.mono _ _ _)
   | (with_reducible exact spec_ParseCosts.mono _ _)
   | (with_reducible exact LeO.refl _)
   | (with_reducible exact LeO.none _)
   | (with_reducible refine LeO.ite ?_ ?_)
   | (with_reducible refine LeO.bind ?_ (fun _ => ?_))
   | exact impl_ParseCosts.mono _ _
   | exact laws_eqIntS.mono _ _ _
   | exact laws_heldIntS.mono _ _ _
   | exact laws_markIntS.mono _ _ _
   | exact spec_ParseCosts.mono _ _
   | exact LeO.none _
   | refine LeO.ite ?_ ?_
   | refine LeO.bind ?_ (fun _ => ?_)
set_option maxHeartbeats 8000000 in
set_option maxRecDepth 100000 in
theorem laws_FnExactParseCosts.calls (k : Nat) (a0 : ByteArray) (r : Bool) (w : World) (h : laws_FnExactParseCosts.f k a0 = some r) (hD : Door w) :
  Calls Tryd.prog 6 #[.string a0] w fun e w' => e = .returned (.bool r) ∧ Below w.heap.size w w' := by
 have HD := am hD; clear hD; have HB := am (Below.refl w.heap.size w); have H : (if (a0.size : Int) > 1048576 then (some true) else ((spec_ParseCosts.f k a0).bind fun bt186 => ((impl_ParseCosts.f k a0).bind fun bt190 => ((laws_eqIntS.f k bt190.1 bt186.1).bind fun t194 => (if t194 = true then (if (bt190.2 != bt186.2) = true then (none) else ((laws_markIntS.f k bt190.1 1).bind fun bt195 => ((laws_heldIntS.f k bt195.2 1).bind fun t197 => (if t197 < 0 then (none) else (if t197 = bt195.1 then ((impl_ParseCosts.f k a0).bind fun bt198 => ((laws_eqIntS.f k bt198.1 bt186.1).bind fun t202 => (if t202 = true then (if (bt198.2 != bt186.2) = true then (none) else ((laws_heldIntS.f k bt195.2 1).bind fun t203 => (if t203 < 0 then (none) else (if t203 = bt195.1 then (some true) else (none))))) else (none)))) else (none)))))) else (none)))))) = some r := h; clear h; by_cases c2 : (a0.size : Int) > 1048576
 ·rw [if_pos c2] at H; have c2b0 : decide (1048576 < (a0.size : Int)) = true := decide_eq_true c2; have c2b1 : decide (1048576 < a0.size) = true := decide_eq_true (by omega); clear c2; obtain rfl := Option.some.inj H; go_enter Tryd.func6, Tryd.ntmps6; go_wp2; go_ret; exact ⟨by first | rfl | (simp [errW_none, errW_some] <;> rfl) | (simp [*, errW_none, errW_some] <;> rfl), by exact bz HB.out⟩
 ·rw [if_neg c2] at H; have c2b0 : decide (1048576 < (a0.size : Int)) = false := decide_eq_false c2; have c2b1 : decide (1048576 < a0.size) = false := decide_eq_false (by omega); clear c2; replace H := Option.bind_eq_some_iff.mp H; obtain ⟨⟨t186, t187⟩, A30, H⟩ := H; (try dsimp only at H); have A3 := am A30; clear A30; replace H := Option.bind_eq_some_iff.mp H; obtain ⟨⟨t190, t191⟩, A40, H⟩ := H; (try dsimp only at H); have A4 := am A40; clear A40; replace H := Option.bind_eq_some_iff.mp H; obtain ⟨t194, A50, H⟩ := H; (try dsimp only at H); have A5 := am A50; clear A50; by_cases c6 : t194 = true
  ·subst c6
   have H1 : (if (t191 != t187) = true then (none) else ((laws_markIntS.f k t190 1).bind fun bt195 => ((laws_heldIntS.f k bt195.2 1).bind fun t197 => (if t197 < 0 then (none) else (if t197 = bt195.1 then ((impl_ParseCosts.f k a0).bind fun bt198 => ((laws_eqIntS.f k bt198.1 t186).bind fun t202 => (if t202 = true then (if (bt198.2 != t187) = true then (none) else ((laws_heldIntS.f k bt195.2 1).bind fun t203 => (if t203 < 0 then (none) else (if t203 = bt195.1 then (some true) else (none))))) else (none)))) else (none)))))) = some r := by rw [if_pos rfl] at H; exact H
   clear H; have H := H1; clear H1; by_cases c7 : (t191 != t187) = true
   ·rw [if_pos c7] at H; exact absurd H (by simp)
   ·rw [if_neg c7] at H
    have c7b0 : (t191 != t187) = false := by simpa using c7
    (try (have c7b1 : decide (t191 = t187) = true := by simpa using c7)); (try (have c7b2 : (t191 == t187) = true := by simpa using c7)); clear c7; replace H := Option.bind_eq_some_iff.mp H; obtain ⟨⟨t195, t196⟩, A80, H⟩ := H; (try dsimp only at H); have A8 := am A80; clear A80; replace H := Option.bind_eq_some_iff.mp H; obtain ⟨t197, A90, H⟩ := H; (try dsimp only at H); have A9 := am A90; clear A90; by_cases c10 : t197 < 0
    ·rw [if_pos c10] at H; exact absurd H (by simp)
    ·rw [if_neg c10] at H; have c10b0 : decide (t197 < 0) = false := decide_eq_false c10; clear c10; by_cases c11 : t197 = t195
     ·rw [if_pos c11] at H; have c11b0 : (t197 == t195) = true := beq_iff_eq.mpr c11; have c11b1 : (t197 != t195) = false := bne_eq_false_iff_eq.mpr c11; clear c11; replace H := Option.bind_eq_some_iff.mp H; obtain ⟨⟨t198, t199⟩, A120, H⟩ := H; (try dsimp only at H); have A12 := am A120; clear A120; replace H := Option.bind_eq_some_iff.mp H; obtain ⟨t202, A130, H⟩ := H; (try dsimp only at H); have A13 := am A130; clear A130; by_cases c14 : t202 = true
      ·subst c14
       have H1 : (if (t199 != t187) = true then (none) else ((laws_heldIntS.f k t196 1).bind fun t203 => (if t203 < 0 then (none) else (if t203 = t195 then (some true) else (none))))) = some r := by rw [if_pos rfl] at H; exact H
       clear H; have H := H1; clear H1; by_cases c15 : (t199 != t187) = true
       ·rw [if_pos c15] at H; exact absurd H (by simp)
       ·rw [if_neg c15] at H
        have c15b0 : (t199 != t187) = false := by simpa using c15
        (try (have c15b1 : decide (t199 = t187) = true := by simpa using c15)); (try (have c15b2 : (t199 == t187) = true := by simpa using c15)); clear c15; replace H := Option.bind_eq_some_iff.mp H; obtain ⟨t203, A160, H⟩ := H; (try dsimp only at H); have A16 := am A160; clear A160; by_cases c17 : t203 < 0
        ·rw [if_pos c17] at H; exact absurd H (by simp)
        ·rw [if_neg c17] at H; have c17b0 : decide (t203 < 0) = false := decide_eq_false c17; clear c17; by_cases c18 : t203 = t195
         ·rw [if_pos c18] at H; have c18b0 : (t203 == t195) = true := beq_iff_eq.mpr c18; have c18b1 : (t203 != t195) = false := bne_eq_false_iff_eq.mpr c18; clear c18; obtain rfl := Option.some.inj H; go_enter Tryd.func6, Tryd.ntmps6; go_wp2_with (first | ((with_reducible refine gy 19 rfl ?_); refine gl Tryd.func19 #[.string a0] ?_; (with_reducible refine (spec_ParseCosts.calls k a0 t186 t187 _ A3.out).mono ?_); rintro e w19 ⟨v188, rfl, ho0, hb⟩; refine ⟨_, rfl, ?_⟩; have n0_ := am (Kd.R_lower ho0 (below_size (bz HB.out))); have n1_ := hs HB hb; clear HB; revert n0_ n1_; intro HO189 HB; (try clear hb); (try clear hb2); (try clear hk); (try clear hi); (try clear ho0)) | ((with_reducible refine gy 20 rfl ?_); refine gl Tryd.func20 #[.string a0] ?_; (with_reducible refine (impl_ParseCosts.calls k a0 t198 t199 _ A12.out ?sideD).mono ?_); (case sideD => exact door_up HD.out (bw HB.out)); rintro e w24 ⟨v200, rfl, ho0, hb⟩; refine ⟨_, rfl, ?_⟩; have n0_ := el HO189 (Kd.R_base ho0) hb; have n1_ := el HO193 (Kd.R_base ho0) hb; have n2_ := am (Kd.R_lower (Kd.R_new' (Kd.R_new' ho0 (Kd.R_lt (rz HO189.out))) (Kd.R_lt (rz HO193.out))) (below_size (bz HB.out))); have n3_ := hs HB hb; clear HO189 HO193 HB; revert n0_ n1_ n2_ n3_; intro HO189 HO193 HO201 HB; (try clear hb); (try clear hb2); (try clear hk); (try clear hi); (try clear ho0); obtain ⟨Ao25, co25, eo25⟩ := Kd.R_slice HO201.out; subst eo25) | ((with_reducible refine gy 16 rfl ?_); refine gl Tryd.func16 #[.slice Ao25 t198.length co25, .slice Ao22 t186.length co22] ?_; (with_reducible refine (laws_eqIntS.calls k _ _ t198 _ _ t186 true _ ?side1 ?side2 ?side3 ?side4 A13.out).mono ?_); (case side1 => exact cc ((Kd.R_reads' HO201.out).2.2)); (case side2 => exact (Kd.R_reads' HO201.out).2.1); (case side3 => exact cc ((Kd.R_reads' HO189.out).2.2)); (case side4 => exact (Kd.R_reads' HO189.out).2.1); rintro e w' ⟨rfl, ⟨nd, rfl⟩⟩; refine ⟨_, rfl, ?_⟩) | ((with_reducible refine gy 21 rfl ?_); refine gl Tryd.func21 #[.slice Ao21 t190.length co21, .int .i64 1] ?_; (with_reducible refine (laws_markIntS.calls k (fun k_ => some k_ = (.slice Ao21 t190.length co21 : Value).ownBlock) (.slice Ao21 t190.length co21) t190 1 t195 t196 w _ ?side1 ?side2 A8.out).mono ?_); (case side1 => exact bw HB.out); (case side2 => exact Kd.R_tight rfl HO193.out); rintro e w23 ⟨rfl, hy0, hb, hkp⟩; refine ⟨_, rfl, ?_⟩; have n0_ := am (Kd.R_mono (ok' := fun k_ => NS Ao21 t190 co21 k_) (Kd.R_keptB (HO189.out) hkp (fun k_ hk_ hs_ => (hk_.2) hs_)) (fun k_ hk_ => hk_.1.2)); have n1_ := am (Kd.R_reok rfl hy0 (fun k_ e_ => HO193.out.1 k_ e_)); have n2_ := am (hb); clear HO189 HO193 HB; revert n0_ n1_ n2_; intro HO189 HO193 HB; (try clear hb); (try clear hkp); (try clear hy0)) | ((with_reducible refine gy 22 rfl ?_); refine goesL_ (some 60) rfl rfl Tryd.func22 (by kernel_rfl) rfl #[.slice Ao21 t196.length co21, .int .i64 1] rfl (by (try simp only [List.map_toArray, List.map_cons, List.map_nil]); first | done | (rw [show t196.length = t190.length from (Kd.R_reads' HO193.out).1.symm] <;> rfl) | rfl | (simp only [List.length_drop, List.length_take]; rfl)) ?_; (with_reducible refine (laws_heldIntS.calls k _ _ t196 1 t203 _ ?side1 ?side2 A16.out).mono ?_); (case side1 => exact cc ((Kd.R_reads' HO193.out).2.2)); (case side2 => rw [show t196.length = t190.length from (Kd.R_reads' HO193.out).1.symm]; exact (Kd.R_reads' HO193.out).2.1); rintro e w' ⟨rfl, ⟨nd, rfl⟩⟩; refine ⟨_, rfl, ?_⟩) | ((with_reducible refine gy 20 rfl ?_); refine gl Tryd.func20 #[.string a0] ?_; (with_reducible refine (impl_ParseCosts.calls k a0 t190 t191 _ A4.out ?sideD).mono ?_); (case sideD => exact door_up HD.out (bw HB.out)); rintro e w20 ⟨v192, rfl, ho0, hb⟩; refine ⟨_, rfl, ?_⟩; have n0_ := el HO189 (Kd.R_base ho0) hb; have n1_ := am (Kd.R_lower (Kd.R_new' ho0 (Kd.R_lt (rz HO189.out))) (below_size (bz HB.out))); have n2_ := hs HB hb; clear HO189 HB; revert n0_ n1_ n2_; intro HO189 HO193 HB; (try clear hb); (try clear hb2); (try clear hk); (try clear hi); (try clear ho0); obtain ⟨Ao21, co21, eo21⟩ := Kd.R_slice HO193.out; subst eo21; obtain ⟨Ao22, co22, eo22⟩ := Kd.R_slice HO189.out; subst eo22) | ((with_reducible refine gy 16 rfl ?_); refine gl Tryd.func16 #[.slice Ao21 t190.length co21, .slice Ao22 t186.length co22] ?_; (with_reducible refine (laws_eqIntS.calls k _ _ t190 _ _ t186 true _ ?side1 ?side2 ?side3 ?side4 A5.out).mono ?_); (case side1 => exact cc ((Kd.R_reads' HO193.out).2.2)); (case side2 => exact (Kd.R_reads' HO193.out).2.1); (case side3 => exact cc ((Kd.R_reads' HO189.out).2.2)); (case side4 => exact (Kd.R_reads' HO189.out).2.1); rintro e w' ⟨rfl, ⟨nd, rfl⟩⟩; refine ⟨_, rfl, ?_⟩) | ((with_reducible refine gy 22 rfl ?_); refine goesL_ (some 38) rfl rfl Tryd.func22 (by kernel_rfl) rfl #[.slice Ao21 t196.length co21, .int .i64 1] rfl (by (try simp only [List.map_toArray, List.map_cons, List.map_nil]); first | done | (rw [show t196.length = t190.length from (Kd.R_reads' HO193.out).1.symm] <;> rfl) | rfl | (simp only [List.length_drop, List.length_take]; rfl)) ?_; (with_reducible refine (laws_heldIntS.calls k _ _ t196 1 t197 _ ?side1 ?side2 A9.out).mono ?_); (case side1 => exact cc ((Kd.R_reads' HO193.out).2.2)); (case side2 => rw [show t196.length = t190.length from (Kd.R_reads' HO193.out).1.symm]; exact (Kd.R_reads' HO193.out).2.1); rintro e w' ⟨rfl, ⟨nd, rfl⟩⟩; refine ⟨_, rfl, ?_⟩)); go_ret; exact ⟨by first | rfl | (simp [errW_none, errW_some] <;> rfl) | (simp [*, errW_none, errW_some] <;> rfl), by exact bz HB.out⟩
         ·rw [if_neg c18] at H; exact absurd H (by simp)
      ·replace c14 := Bool.eq_false_iff.mpr c14; subst c14
       have H1 : (none) = some r := by rw [if_neg (show ¬ (false = true) by decide)] at H; exact H
       clear H; have H := H1; clear H1; exact absurd H (by simp)
     ·rw [if_neg c11] at H; exact absurd H (by simp)
  ·replace c6 := Bool.eq_false_iff.mpr c6; subst c6
   have H1 : (none) = some r := by rw [if_neg (show ¬ (false = true) by decide)] at H; exact H
   clear H; have H := H1; clear H1; exact absurd H (by simp)

/-- THE ONE PURE STATEMENT of laws_FnExactParseCosts. -/
def laws_FnExactParseCosts.Pure : Prop := ∀ (a0 : ByteArray), a0.size ≤ 140737488351232 → ∃ k, laws_FnExactParseCosts.f k a0 = some true
theorem laws_FnExactParseCosts.walk (P : laws_FnExactParseCosts.Pure) (a0 : ByteArray) (w : World) (w0 : a0.size ≤ 140737488351232) (hD : Door w) :
  Calls Tryd.prog 6 #[.string a0] w fun e w' => e = .returned (.bool true) ∧ Below w.heap.size w w' := by
 obtain ⟨k, h⟩ := P a0 w0; refine (laws_FnExactParseCosts.calls k a0 true w  h hD).mono ?_; rintro e w' ⟨rfl, hd⟩; exact ⟨rfl, hd⟩

end Go.Proofs.YtmnfbnpclanafaaDoor.PGP
