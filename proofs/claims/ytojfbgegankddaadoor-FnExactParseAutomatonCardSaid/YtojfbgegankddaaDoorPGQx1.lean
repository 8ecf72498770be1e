-- Written by a program (wip/myprint.py): the machine side of one law: each function that it reaches, as a plain function, and the proof that a call comes to just that.
import Derived.Test.YtojfbgegankddaaDoorPGQx0
namespace Go.Proofs.YtojfbgegankddaaDoor.PGQ
open Go.RowKit Go.Proofs.YtojfbgegankddaaDoorW.PrintWords Go.Proofs.YtojfbgegankddaaDoorW.PrintLast Go.Proofs.YtojfbgegankddaaDoorW.PrintMore
attribute [local go_sem] max2_int min2_int max_two min_two max_three min_three max_four min_four   -- for this text's walks alone
set_option linter.unusedVariables false
set_option linter.unusedSimpArgs false

/-! ### laws_eqIntS: function 25 -/
def laws_eqIntS.l0 : Nat → List Int → List Int → Int → Option (Bool)
 | 0, _, _, _ => none
 | k + 1, x0, x1, x5 => if x5 < (x0.length : Int) then (if 0 ≤ x5 then (if x5 < (x1.length : Int) then (if (rd x0 x5) = (rd x1 x5) then (laws_eqIntS.l0 k x0 x1 (wrap64 (x5 + 1))) else (some false)) else (none)) else (none)) else (some true)
def laws_eqIntS.f (k : Nat) (l0 : List Int) (l1 : List Int) : Option (Bool) := if (l0.length : Int) = (l1.length : Int) then (laws_eqIntS.l0 k l0 l1 0) else (some false)
theorem laws_eqIntS.mono_l : ∀ k, (∀ y0 y1 y2, LeO (laws_eqIntS.l0 k y0 y1 y2) (laws_eqIntS.l0 (k + 1) y0 y1 y2))
 | 0 => fun _ _ _ r h => by simp [laws_eqIntS.l0] at h
 | k + 1 => by
  have ih0 := laws_eqIntS.mono_l k
  ·intro y0 y1 y2; unfold laws_eqIntS.l0; repeat' first
   | (with_reducible exact ih0 _ _ _)
   | (with_reducible exact LeO.refl _)
   | (with_reducible exact LeO.none _)
   | (with_reducible refine LeO.ite ?_ ?_)
   | (with_reducible refine LeO.bind ?_ (fun _ => ?_))
   | exact ih0 _ _ _
   | exact LeO.none _
   | refine LeO.ite ?_ ?_
   | refine LeO.bind ?_ (fun _ => ?_)
theorem laws_eqIntS.mono : ∀ a0 a1 k, LeO (laws_eqIntS.f k a0 a1) (laws_eqIntS.f (k + 1) a0 a1) := by
 intro a0 a1 k; have ih0 := laws_eqIntS.mono_l k; unfold laws_eqIntS.f; repeat' first
   | (with_reducible exact ih0 _ _ _)
   | (with_reducible exact LeO.refl _)
   | (with_reducible exact LeO.none _)
   | (with_reducible refine LeO.ite ?_ ?_)
   | (with_reducible refine LeO.bind ?_ (fun _ => ?_))
   | exact ih0 _ _ _
   | exact LeO.none _
   | refine LeO.ite ?_ ?_
   | refine LeO.bind ?_ (fun _ => ?_)
set_option maxHeartbeats 8000000 in
set_option maxRecDepth 100000 in
theorem laws_eqIntS.calls (k : Nat) (A0 : Option Addr) (c0 : Nat) (l0 : List Int) (A1 : Option Addr) (c1 : Nat) (l1 : List Int) (r : Bool) (w : World) (hr0 : Kd.C (Kd.int .i64) w A0 l0.length l0) (hc0 : l0.length ≤ c0) (hr1 : Kd.C (Kd.int .i64) w A1 l1.length l1) (hc1 : l1.length ≤ c1) (h : laws_eqIntS.f k l0 l1 = some r) :
  Calls Tryd.prog 25 #[.slice A0 l0.length c0, .slice A1 l1.length c1] w fun e w' => e = .returned (.bool r) ∧ Drawn0 w w' := by
 have HR0 := am hr0; have HC0 := am hc0; clear hr0 hc0; have HR1 := am hr1; have HC1 := am hc1; clear hr1 hc1; have H : (if (l0.length : Int) = (l1.length : Int) then (laws_eqIntS.l0 k l0 l1 0) else (some false)) = some r := h; clear h; by_cases c3 : (l0.length : Int) = (l1.length : Int)
 ·rw [if_pos c3] at H; have c3b0 : ((l0.length : Int) == (l1.length : Int)) = true := beq_iff_eq.mpr c3; have c3b1 : ((l0.length : Int) != (l1.length : Int)) = false := bne_eq_false_iff_eq.mpr c3
  have c3b2 : (l0.length == l1.length) = true := by first | simpa using c3 | (simp at c3 ⊢; omega)
  clear c3; have H' := am H; clear H; go_enter Tryd.func25, Tryd.ntmps25; go_wp2
  repeat (go_quiet (fail); try go_wp2)
  go_loopg [5] k (fun kq v5 w' => ∃ (x5_1 : Int), v5 = .int .i64 x5_1 ∧ Aside0 (laws_eqIntS.l0 kq l0 l1 x5_1 = some r) ∧ Aside0 (kq ≤ k) ∧ Drawn0 w w')
  case atStart => exact ⟨(0), (by first | rfl | (simp; done) | (simp [*]; done)), H', ⟨Nat.le_refl _⟩, by repeat (first | exact Drawn0.refl _ | apply Drawn0.step)⟩
  case round =>
   clear H'; (try clear c1); (try clear c2); (try clear p2); (try clear c3); (try clear c3b0); (try clear c3b1); (try clear c3b2); obtain ⟨x5_1, rfl, HA, HK1, ⟨m1, rfl⟩⟩ := hrel
   cases gk with
   | zero => exact absurd HA.out (by simp [laws_eqIntS.l0])
   | succ k1 =>
    have H := HA.out; clear HA; simp only [laws_eqIntS.l0] at H; by_cases c4 : x5_1 < (l0.length : Int)
    ·rw [if_pos c4] at H; have c4b0 : decide (x5_1 < (l0.length : Int)) = true := decide_eq_true c4; clear c4; by_cases c5 : 0 ≤ x5_1
     ·rw [if_pos c5] at H; have c5b0 : decide (0 ≤ x5_1) = true := decide_eq_true c5; clear c5; by_cases c6 : x5_1 < (l1.length : Int)
      ·rw [if_pos c6] at H; have c6b0 : decide (x5_1 < (l1.length : Int)) = true := decide_eq_true c6; clear c6; by_cases c7 : (rd l0 x5_1) = (rd l1 x5_1)
       ·rw [if_pos c7] at H; have c7b0 : ((rd l0 x5_1) == (rd l1 x5_1)) = true := beq_iff_eq.mpr c7; have c7b1 : ((rd l0 x5_1) != (rd l1 x5_1)) = false := bne_eq_false_iff_eq.mpr c7; clear c7; have H' := am H; clear H; have p101 : 0 ≤ (x5_1 : Int) := da; have q101 : x5_1 < (l0.length : Int) := da; obtain ⟨ad101, e101, hx101_0⟩ := Kd.at_int HR0.out x5_1 p101 q101; cases e101; replace p101 := eq_true p101; replace q101 := eq_true q101; have p102 : 0 ≤ (x5_1 : Int) := da; have q102 : x5_1 < (l1.length : Int) := da; obtain ⟨ad102, e102, hx102_0⟩ := Kd.at_int HR1.out x5_1 p102 q102; cases e102; replace p102 := eq_true p102; replace q102 := eq_true q102; go_wp2
        repeat (go_quiet (fail); try go_wp2)
        go_roundg k1
        case measure => have := HK1.out; omega
        case rel => exact ⟨(wrap64 (x5_1 + 1)), (by first | rfl | (simp; done) | (simp [*]; done)), H', ⟨by have := HK1.out; omega⟩, by repeat (first | exact Drawn0.refl _ | apply Drawn0.step)⟩
       ·rw [if_neg c7] at H; have c7b0 : ((rd l0 x5_1) == (rd l1 x5_1)) = false := beq_eq_false_iff_ne.mpr c7; have c7b1 : ((rd l0 x5_1) != (rd l1 x5_1)) = true := bne_iff_ne.mpr c7; obtain rfl := Option.some.inj H; have p101 : 0 ≤ (x5_1 : Int) := da; have q101 : x5_1 < (l0.length : Int) := da; obtain ⟨ad101, e101, hx101_0⟩ := Kd.at_int HR0.out x5_1 p101 q101; cases e101; replace p101 := eq_true p101; replace q101 := eq_true q101; have p102 : 0 ≤ (x5_1 : Int) := da; have q102 : x5_1 < (l1.length : Int) := da; obtain ⟨ad102, e102, hx102_0⟩ := Kd.at_int HR1.out x5_1 p102 q102; cases e102; replace p102 := eq_true p102; replace q102 := eq_true q102; go_wp2
        repeat (go_quiet (fail); try go_wp2)
        go_ret; exact ⟨by first | rfl | (simp; done) | (simp [*]; done), by repeat (first | exact Drawn0.refl _ | apply Drawn0.step)⟩
      ·rw [if_neg c6] at H; exact absurd H (by simp)
     ·rw [if_neg c5] at H; exact absurd H (by simp)
    ·rw [if_neg c4] at H; have c4b0 : decide (x5_1 < (l0.length : Int)) = false := decide_eq_false c4; clear c4; obtain rfl := Option.some.inj H; go_wp2
     repeat (go_quiet (fail); try go_wp2)
     go_ret; exact ⟨by first | rfl | (simp; done) | (simp [*]; done), by repeat (first | exact Drawn0.refl _ | apply Drawn0.step)⟩
 ·rw [if_neg c3] at H; have c3b0 : ((l0.length : Int) == (l1.length : Int)) = false := beq_eq_false_iff_ne.mpr c3; have c3b1 : ((l0.length : Int) != (l1.length : Int)) = true := bne_iff_ne.mpr c3
  have c3b2 : (l0.length == l1.length) = false := by first | simpa using c3 | (simp at c3 ⊢; omega)
  obtain rfl := Option.some.inj H; go_enter Tryd.func25, Tryd.ntmps25; go_wp2
  repeat (go_quiet (fail); try go_wp2)
  go_ret; exact ⟨by first | rfl | (simp; done) | (simp [*]; done), by repeat (first | exact Drawn0.refl _ | apply Drawn0.step)⟩

/-! ### laws_eqStep: function 49 -/
def laws_eqStep.f (a0_0 : Int) (a0_1 : ByteArray) (a0_2 : Int) (a0_3 : Int) (a1_0 : Int) (a1_1 : ByteArray) (a1_2 : Int) (a1_3 : Int) : Option (Bool) := if a0_0 = a1_0 then (if a0_1.toList = a1_1.toList then (if a0_2 = a1_2 then (if a0_3 = a1_3 then (some true) else (some false)) else (some false)) else (some false)) else (some false)
set_option maxHeartbeats 8000000 in
set_option maxRecDepth 100000 in
theorem laws_eqStep.calls (a0_0 : Int) (a0_1 : ByteArray) (a0_2 : Int) (a0_3 : Int) (a1_0 : Int) (a1_1 : ByteArray) (a1_2 : Int) (a1_3 : Int) (r : Bool) (w : World) (h : laws_eqStep.f a0_0 a0_1 a0_2 a0_3 a1_0 a1_1 a1_2 a1_3 = some r) :
  Calls Tryd.prog 49 #[.agg #[.int .i64 a0_0, .string a0_1, .int .i64 a0_2, .int .i64 a0_3], .agg #[.int .i64 a1_0, .string a1_1, .int .i64 a1_2, .int .i64 a1_3]] w fun e w' => e = .returned (.bool r) ∧ Below w.heap.size w w' := by
 have hu44 := Tryd.underlying44; have HB := am (Below.refl w.heap.size w); have H : (if a0_0 = a1_0 then (if a0_1.toList = a1_1.toList then (if a0_2 = a1_2 then (if a0_3 = a1_3 then (some true) else (some false)) else (some false)) else (some false)) else (some false)) = some r := h; clear h; by_cases c3 : a0_0 = a1_0
 ·rw [if_pos c3] at H; have c3b0 : (a0_0 == a1_0) = true := beq_iff_eq.mpr c3; have c3b1 : (a0_0 != a1_0) = false := bne_eq_false_iff_eq.mpr c3; clear c3; by_cases c4 : a0_1.toList = a1_1.toList
  ·rw [if_pos c4] at H; have c4b0 : (a0_1.toList == a1_1.toList) = true := beq_iff_eq.mpr c4; have c4b1 : (a0_1.toList != a1_1.toList) = false := bne_eq_false_iff_eq.mpr c4; clear c4; by_cases c5 : a0_2 = a1_2
   ·rw [if_pos c5] at H; have c5b0 : (a0_2 == a1_2) = true := beq_iff_eq.mpr c5; have c5b1 : (a0_2 != a1_2) = false := bne_eq_false_iff_eq.mpr c5; clear c5; by_cases c6 : a0_3 = a1_3
    ·rw [if_pos c6] at H; have c6b0 : (a0_3 == a1_3) = true := beq_iff_eq.mpr c6; have c6b1 : (a0_3 != a1_3) = false := bne_eq_false_iff_eq.mpr c6; clear c6; obtain rfl := Option.some.inj H; go_enter Tryd.func49, Tryd.ntmps49; go_wp2_with (first | ((with_reducible refine gx 2 rfl ?_); refine be (cs := #[.int .i64 a0_0, .string a0_1, .int .i64 a0_2, .int .i64 a0_3]) (t := 44) ?_; intro gb103 hg w7 hbox hb; have n0_ := hs HB hb; have n1_ := am (hbox); have n2_ := gs hg (bz HB.out); have n3_ := gs hg (bz HB.out); clear HB; revert n0_ n1_ n2_ n3_; intro HB BK103 GW103 GE103; clear hb hbox hg) | ((with_reducible refine gx 3 rfl ?_); refine be (cs := #[.int .i64 a1_0, .string a1_1, .int .i64 a1_2, .int .i64 a1_3]) (t := 44) ?_; intro gb104 hg w8 hbox hb; have n0_ := bk BK103 hb; have n1_ := hs HB hb; have n2_ := am (hbox); have n3_ := gs hg (bw HB.out); have n4_ := gs hg (bw HB.out); have n5_ := nl hg (kz BK103.out); have n6_ := nr hg (kz BK103.out); clear BK103 HB; revert n0_ n1_ n2_ n3_ n4_ n5_ n6_; intro BK103 HB BK104 GW104 GE104 NB103_104 NB104_103; clear hb hbox hg; have hnb9 := NB103_104.out; have hnc9 := NB104_103.out; have hz10 := zf4 BK103.out; have hz11 := zf4 BK104.out)); go_ret; exact ⟨by first | rfl | (simp [errW_none, errW_some] <;> rfl) | (simp [*, errW_none, errW_some] <;> rfl), by exact bw HB.out⟩
    ·rw [if_neg c6] at H; have c6b0 : (a0_3 == a1_3) = false := beq_eq_false_iff_ne.mpr c6; have c6b1 : (a0_3 != a1_3) = true := bne_iff_ne.mpr c6; obtain rfl := Option.some.inj H; go_enter Tryd.func49, Tryd.ntmps49; go_wp2_with (first | ((with_reducible refine gx 2 rfl ?_); refine be (cs := #[.int .i64 a0_0, .string a0_1, .int .i64 a0_2, .int .i64 a0_3]) (t := 44) ?_; intro gb103 hg w12 hbox hb; have n0_ := hs HB hb; have n1_ := am (hbox); have n2_ := gs hg (bz HB.out); have n3_ := gs hg (bz HB.out); clear HB; revert n0_ n1_ n2_ n3_; intro HB BK103 GW103 GE103; clear hb hbox hg) | ((with_reducible refine gx 3 rfl ?_); refine be (cs := #[.int .i64 a1_0, .string a1_1, .int .i64 a1_2, .int .i64 a1_3]) (t := 44) ?_; intro gb104 hg w13 hbox hb; have n0_ := bk BK103 hb; have n1_ := hs HB hb; have n2_ := am (hbox); have n3_ := gs hg (bw HB.out); have n4_ := gs hg (bw HB.out); have n5_ := nl hg (kz BK103.out); have n6_ := nr hg (kz BK103.out); clear BK103 HB; revert n0_ n1_ n2_ n3_ n4_ n5_ n6_; intro BK103 HB BK104 GW104 GE104 NB103_104 NB104_103; clear hb hbox hg; have hnb14 := NB103_104.out; have hnc14 := NB104_103.out; have hz15 := zf4 BK103.out; have hz16 := zf4 BK104.out)); go_ret; exact ⟨by first | rfl | (simp [errW_none, errW_some] <;> rfl) | (simp [*, errW_none, errW_some] <;> rfl), by exact bw HB.out⟩
   ·rw [if_neg c5] at H; have c5b0 : (a0_2 == a1_2) = false := beq_eq_false_iff_ne.mpr c5; have c5b1 : (a0_2 != a1_2) = true := bne_iff_ne.mpr c5; obtain rfl := Option.some.inj H; go_enter Tryd.func49, Tryd.ntmps49; go_wp2_with (first | ((with_reducible refine gx 2 rfl ?_); refine be (cs := #[.int .i64 a0_0, .string a0_1, .int .i64 a0_2, .int .i64 a0_3]) (t := 44) ?_; intro gb103 hg w17 hbox hb; have n0_ := hs HB hb; have n1_ := am (hbox); have n2_ := gs hg (bz HB.out); have n3_ := gs hg (bz HB.out); clear HB; revert n0_ n1_ n2_ n3_; intro HB BK103 GW103 GE103; clear hb hbox hg) | ((with_reducible refine gx 3 rfl ?_); refine be (cs := #[.int .i64 a1_0, .string a1_1, .int .i64 a1_2, .int .i64 a1_3]) (t := 44) ?_; intro gb104 hg w18 hbox hb; have n0_ := bk BK103 hb; have n1_ := hs HB hb; have n2_ := am (hbox); have n3_ := gs hg (bw HB.out); have n4_ := gs hg (bw HB.out); have n5_ := nl hg (kz BK103.out); have n6_ := nr hg (kz BK103.out); clear BK103 HB; revert n0_ n1_ n2_ n3_ n4_ n5_ n6_; intro BK103 HB BK104 GW104 GE104 NB103_104 NB104_103; clear hb hbox hg; have hnb19 := NB103_104.out; have hnc19 := NB104_103.out; have hz20 := zf4 BK103.out; have hz21 := zf4 BK104.out)); go_ret; exact ⟨by first | rfl | (simp [errW_none, errW_some] <;> rfl) | (simp [*, errW_none, errW_some] <;> rfl), by exact bw HB.out⟩
  ·rw [if_neg c4] at H; have c4b0 : (a0_1.toList == a1_1.toList) = false := beq_eq_false_iff_ne.mpr c4; have c4b1 : (a0_1.toList != a1_1.toList) = true := bne_iff_ne.mpr c4; obtain rfl := Option.some.inj H; go_enter Tryd.func49, Tryd.ntmps49; go_wp2_with (first | ((with_reducible refine gx 2 rfl ?_); refine be (cs := #[.int .i64 a0_0, .string a0_1, .int .i64 a0_2, .int .i64 a0_3]) (t := 44) ?_; intro gb103 hg w22 hbox hb; have n0_ := hs HB hb; have n1_ := am (hbox); have n2_ := gs hg (bz HB.out); have n3_ := gs hg (bz HB.out); clear HB; revert n0_ n1_ n2_ n3_; intro HB BK103 GW103 GE103; clear hb hbox hg) | ((with_reducible refine gx 3 rfl ?_); refine be (cs := #[.int .i64 a1_0, .string a1_1, .int .i64 a1_2, .int .i64 a1_3]) (t := 44) ?_; intro gb104 hg w23 hbox hb; have n0_ := bk BK103 hb; have n1_ := hs HB hb; have n2_ := am (hbox); have n3_ := gs hg (bw HB.out); have n4_ := gs hg (bw HB.out); have n5_ := nl hg (kz BK103.out); have n6_ := nr hg (kz BK103.out); clear BK103 HB; revert n0_ n1_ n2_ n3_ n4_ n5_ n6_; intro BK103 HB BK104 GW104 GE104 NB103_104 NB104_103; clear hb hbox hg; have hnb24 := NB103_104.out; have hnc24 := NB104_103.out; have hz25 := zf4 BK103.out; have hz26 := zf4 BK104.out)); go_ret; exact ⟨by first | rfl | (simp [errW_none, errW_some] <;> rfl) | (simp [*, errW_none, errW_some] <;> rfl), by exact bw HB.out⟩
 ·rw [if_neg c3] at H; have c3b0 : (a0_0 == a1_0) = false := beq_eq_false_iff_ne.mpr c3; have c3b1 : (a0_0 != a1_0) = true := bne_iff_ne.mpr c3; obtain rfl := Option.some.inj H; go_enter Tryd.func49, Tryd.ntmps49; go_wp2_with (first | ((with_reducible refine gx 2 rfl ?_); refine be (cs := #[.int .i64 a0_0, .string a0_1, .int .i64 a0_2, .int .i64 a0_3]) (t := 44) ?_; intro gb103 hg w27 hbox hb; have n0_ := hs HB hb; have n1_ := am (hbox); have n2_ := gs hg (bz HB.out); have n3_ := gs hg (bz HB.out); clear HB; revert n0_ n1_ n2_ n3_; intro HB BK103 GW103 GE103; clear hb hbox hg) | ((with_reducible refine gx 3 rfl ?_); refine be (cs := #[.int .i64 a1_0, .string a1_1, .int .i64 a1_2, .int .i64 a1_3]) (t := 44) ?_; intro gb104 hg w28 hbox hb; have n0_ := bk BK103 hb; have n1_ := hs HB hb; have n2_ := am (hbox); have n3_ := gs hg (bw HB.out); have n4_ := gs hg (bw HB.out); have n5_ := nl hg (kz BK103.out); have n6_ := nr hg (kz BK103.out); clear BK103 HB; revert n0_ n1_ n2_ n3_ n4_ n5_ n6_; intro BK103 HB BK104 GW104 GE104 NB103_104 NB104_103; clear hb hbox hg; have hnb29 := NB103_104.out; have hnc29 := NB104_103.out; have hz30 := zf4 BK103.out; have hz31 := zf4 BK104.out)); go_ret; exact ⟨by first | rfl | (simp [errW_none, errW_some] <;> rfl) | (simp [*, errW_none, errW_some] <;> rfl), by exact bw HB.out⟩

/-! ### laws_eqStepS: function 26 -/
def laws_eqStepS.l0 : Nat → List (S44) → List (S44) → Int → Option (Bool)
 | 0, _, _, _ => none
 | k + 1, x0, x1, x5 => if x5 < (x0.length : Int) then (if 0 ≤ x5 then (if x5 < (x1.length : Int) then ((laws_eqStep.f ((rd_T44 x0 x5).f0) ((rd_T44 x0 x5).f1) ((rd_T44 x0 x5).f2) ((rd_T44 x0 x5).f3) ((rd_T44 x1 x5).f0) ((rd_T44 x1 x5).f1) ((rd_T44 x1 x5).f2) ((rd_T44 x1 x5).f3)).bind fun t107 => (if t107 = true then (laws_eqStepS.l0 k x0 x1 (wrap64 (x5 + 1))) else (some false))) else (none)) else (none)) else (some true)
def laws_eqStepS.f (k : Nat) (l0 : List (S44)) (l1 : List (S44)) : Option (Bool) := if (l0.length : Int) = (l1.length : Int) then (laws_eqStepS.l0 k l0 l1 0) else (some false)
theorem laws_eqStepS.mono_l : ∀ k, (∀ y0 y1 y2, LeO (laws_eqStepS.l0 k y0 y1 y2) (laws_eqStepS.l0 (k + 1) y0 y1 y2))
 | 0 => fun _ _ _ r h => by simp [laws_eqStepS.l0] at h
 | k + 1 => by
  have ih0 := laws_eqStepS.mono_l k
  ·intro y0 y1 y2; unfold laws_eqStepS.l0; repeat' first
   | (with_reducible exact ih0 _ _ _)
   | (with_reducible exact LeO.refl _)
   | (with_reducible exact LeO.none _)
   | (with_reducible refine LeO.ite ?_ ?_)
   | (with_reducible refine LeO.bind ?_ (fun _ => ?_))
   | exact ih0 _ _ _
   | exact LeO.none _
   | refine LeO.ite ?_ ?_
   | refine LeO.bind ?_ (fun _ => ?_)
theorem laws_eqStepS.mono : ∀ a0 a1 k, LeO (laws_eqStepS.f k a0 a1) (laws_eqStepS.f (k + 1) a0 a1) := by
 intro a0 a1 k; have ih0 := laws_eqStepS.mono_l k; unfold laws_eqStepS.f; repeat' first
   | (with_reducible exact ih0 _ _ _)
   | (with_reducible exact LeO.refl _)
   | (with_reducible exact LeO.none _)
   | (with_reducible refine LeO.ite ?_ ?_)
   | (with_reducible refine LeO.bind ?_ (fun _ => ?_))
   | exact ih0 _ _ _
   | exact LeO.none _
   | refine LeO.ite ?_ ?_
   | refine LeO.bind ?_ (fun _ => ?_)
def laws_eqStepS.T6 : Bool × List (List Nat × List Nat) := (true, [([], []), ([], []), ([0, 1], [0, 1]), ([2], [2]), ([], []), ([], []), ([4, 5], [4, 5]), ([6], [6]), ([3, 7], [3, 7]), ([8], [8])])
def laws_eqStepS.B6 : List Nat := [0, 0, 3, 7, 0, 0, 48, 112, 255, 511]
theorem laws_eqStepS.tab6 : rtab .any (opsOf Tryd.f26 6) = laws_eqStepS.T6 := by kernel_rfl
theorem laws_eqStepS.bits6 : waitsOk laws_eqStepS.T6.2 laws_eqStepS.B6 = true := by kernel_rfl
set_option maxHeartbeats 8000000 in
set_option maxRecDepth 100000 in
theorem laws_eqStepS.calls (k : Nat) (A0 : Option Addr) (c0 : Nat) (l0 : List (S44)) (A1 : Option Addr) (c1 : Nat) (l1 : List (S44)) (r : Bool) (w : World) (hr0 : Kd.C k44 w A0 l0.length l0) (hc0 : l0.length ≤ c0) (hr1 : Kd.C k44 w A1 l1.length l1) (hc1 : l1.length ≤ c1) (h : laws_eqStepS.f k l0 l1 = some r) :
  Calls Tryd.prog 26 #[.slice A0 l0.length c0, .slice A1 l1.length c1] w fun e w' => e = .returned (.bool r) ∧ Below w.heap.size w w' := by
 have hu44 := Tryd.underlying44; have HR0 := am hr0; have HC0 := am hc0; clear hr0 hc0; have HR1 := am hr1; have HC1 := am hc1; clear hr1 hc1; have HB := am (Below.refl w.heap.size w); have H : (if (l0.length : Int) = (l1.length : Int) then (laws_eqStepS.l0 k l0 l1 0) else (some false)) = some r := h; clear h; by_cases c3 : (l0.length : Int) = (l1.length : Int)
 ·rw [if_pos c3] at H; have c3b0 : ((l0.length : Int) == (l1.length : Int)) = true := beq_iff_eq.mpr c3; have c3b1 : ((l0.length : Int) != (l1.length : Int)) = false := bne_eq_false_iff_eq.mpr c3
  have c3b2 : (l0.length == l1.length) = true := by first | simpa using c3 | (simp at c3 ⊢; omega)
  clear c3; have H' := am H; clear H; go_enter Tryd.func26, Tryd.ntmps26; go_wp2; go_loopg [5] k (fun kq v5 w' => ∃ (x5_1 : Int), v5 = .int .i64 x5_1 ∧ Aside0 (laws_eqStepS.l0 kq l0 l1 x5_1 = some r) ∧ Aside0 (kq ≤ k) ∧ Aside0 (Below w.heap.size w w'))
  case atStart => exact ⟨(0), (by first | rfl | (simp; done) | (simp [*]; done)), H', ⟨Nat.le_refl _⟩, ⟨by exact bz HB.out⟩⟩
  case round =>
   clear H'; (try clear c1); (try clear c2); (try clear p2); (try clear c3); (try clear c3b0); (try clear c3b1); (try clear c3b2); obtain ⟨x5_1, rfl, HA, HK1, HB⟩ := hrel
   cases gk with
   | zero => exact absurd HA.out (by simp [laws_eqStepS.l0])
   | succ k1 =>
    have H := HA.out; clear HA; simp only [laws_eqStepS.l0] at H; by_cases c4 : x5_1 < (l0.length : Int)
    ·rw [if_pos c4] at H; have c4b0 : decide (x5_1 < (l0.length : Int)) = true := decide_eq_true c4; clear c4; by_cases c5 : 0 ≤ x5_1
     ·rw [if_pos c5] at H; have c5b0 : decide (0 ≤ x5_1) = true := decide_eq_true c5; clear c5; by_cases c6 : x5_1 < (l1.length : Int)
      ·rw [if_pos c6] at H; have c6b0 : decide (x5_1 < (l1.length : Int)) = true := decide_eq_true c6; clear c6; replace H := Option.bind_eq_some_iff.mp H; obtain ⟨t107, A70, H⟩ := H; (try dsimp only at H); have A7 := am A70; clear A70; by_cases c8 : t107 = true
       ·subst c8
        have H1 : (laws_eqStepS.l0 k1 l0 l1 (wrap64 (x5_1 + 1))) = some r := by rw [if_pos rfl] at H; exact H
        clear H; have H := H1; clear H1; have H' := am H; clear H; (try go_wp2); have n0_ := am (below_drew1 HB.out); clear HB; revert n0_; intro HB; have p105 : 0 ≤ (x5_1 : Int) := da; have q105 : x5_1 < (l0.length : Int) := da; obtain ⟨ad105, e105, hx105_0, hx105_1, hx105_2, hx105_3⟩ := at_T44 HR0.out x5_1 p105 q105; have hw105_3 := hx105_3; have hw105_2 := hx105_2; have hw105_1 := hx105_1; have hw105_0 := hx105_0; cases e105; replace hx105_0 := lx (bw HB.out) hx105_0; replace hx105_1 := lx (bw HB.out) hx105_1; replace hx105_2 := lx (bw HB.out) hx105_2; replace hx105_3 := lx (bw HB.out) hx105_3; replace p105 := eq_true p105; replace q105 := eq_true q105; have p106 : 0 ≤ (x5_1 : Int) := da; have q106 : x5_1 < (l1.length : Int) := da; obtain ⟨ad106, e106, hx106_0, hx106_1, hx106_2, hx106_3⟩ := at_T44 HR1.out x5_1 p106 q106; have hw106_3 := hx106_3; have hw106_2 := hx106_2; have hw106_1 := hx106_1; have hw106_0 := hx106_0; cases e106; replace hx106_0 := lx (bw HB.out) hx106_0; replace hx106_1 := lx (bw HB.out) hx106_1; replace hx106_2 := lx (bw HB.out) hx106_2; replace hx106_3 := lx (bw HB.out) hx106_3; replace p106 := eq_true p106; replace q106 := eq_true q106; refine start_ (n := 10) (S := fun w' => w'.cell? (ad105.add ((x5_1).toNat * 4)) = some (.int .i64 ((rd_T44 l0 x5_1).f0)) ∧ w'.cell? ⟨(ad105.add ((x5_1).toNat * 4)).block, (ad105.add ((x5_1).toNat * 4)).off + 1, none⟩ = some (.string ((rd_T44 l0 x5_1).f1)) ∧ w'.cell? ⟨(ad105.add ((x5_1).toNat * 4)).block, (ad105.add ((x5_1).toNat * 4)).off + 2, none⟩ = some (.int .i64 ((rd_T44 l0 x5_1).f2)) ∧ w'.cell? ⟨(ad105.add ((x5_1).toNat * 4)).block, (ad105.add ((x5_1).toNat * 4)).off + 3, none⟩ = some (.int .i64 ((rd_T44 l0 x5_1).f3)) ∧ w'.cell? (ad106.add ((x5_1).toNat * 4)) = some (.int .i64 ((rd_T44 l1 x5_1).f0)) ∧ w'.cell? ⟨(ad106.add ((x5_1).toNat * 4)).block, (ad106.add ((x5_1).toNat * 4)).off + 1, none⟩ = some (.string ((rd_T44 l1 x5_1).f1)) ∧ w'.cell? ⟨(ad106.add ((x5_1).toNat * 4)).block, (ad106.add ((x5_1).toNat * 4)).off + 2, none⟩ = some (.int .i64 ((rd_T44 l1 x5_1).f2)) ∧ w'.cell? ⟨(ad106.add ((x5_1).toNat * 4)).block, (ad106.add ((x5_1).toNat * 4)).off + 3, none⟩ = some (.int .i64 ((rd_T44 l1 x5_1).f3))) (ds := []) (mkp 10 0) (by kernel_rfl) rfl rfl ⟨(lx (bw HB.out) hw105_0), (lx (bw HB.out) hw105_1), (lx (bw HB.out) hw105_2), (lx (bw HB.out) hw105_3), (lx (bw HB.out) hw106_0), (lx (bw HB.out) hw106_1), (lx (bw HB.out) hw106_2), (lx (bw HB.out) hw106_3)⟩ (fun hHeld => ?_); refine with_tabW laws_eqStepS.tab6 laws_eqStepS.bits6 (fun HT_ HW_ => ?_); generalize wr.drew = w9 at HB hx105_0 hx105_1 hx105_2 hx105_3 hx106_0 hx106_1 hx106_2 hx106_3 hHeld ⊢; (iterate 3 refine qv HT_ ?_); refine pv 4 21 10 23 HT_ ?_; refine pv 5 22 10 55 HT_ ?_; refine pv 6 23 10 119 HT_ ?_; refine tkm 3 20 (mkp 10 7) HT_ HW_ hHeld ?_; refine tk HT_ HW_ hHeld ?_; refine on 8 (mkp 10 9) HT_ (fun K hK => ?_); refine gr Tryd.func49 #[.agg #[.int .i64 ((rd_T44 l0 x5_1).f0), .string ((rd_T44 l0 x5_1).f1), .int .i64 ((rd_T44 l0 x5_1).f2), .int .i64 ((rd_T44 l0 x5_1).f3)], .agg #[.int .i64 ((rd_T44 l1 x5_1).f0), .string ((rd_T44 l1 x5_1).f1), .int .i64 ((rd_T44 l1 x5_1).f2), .int .i64 ((rd_T44 l1 x5_1).f3)]] ?_
        with_reducible refine (laws_eqStep.calls ((rd_T44 l0 x5_1).f0) ((rd_T44 l0 x5_1).f1) ((rd_T44 l0 x5_1).f2) ((rd_T44 l0 x5_1).f3) ((rd_T44 l1 x5_1).f0) ((rd_T44 l1 x5_1).f1) ((rd_T44 l1 x5_1).f2) ((rd_T44 l1 x5_1).f3) true _ A7.out).mono ?_
        rintro e w10 ⟨rfl, hb⟩; refine ⟨_, rfl, ?_⟩; have n0_ := hs HB hb; clear HB; revert n0_; intro HB; (try clear hb); (try clear hb2); (try clear hk); (try clear hi); refine hK.out _ _ ⟨(lx (bw HB.out) hw105_0), (lx (bw HB.out) hw105_1), (lx (bw HB.out) hw105_2), (lx (bw HB.out) hw105_3), (lx (bw HB.out) hw106_0), (lx (bw HB.out) hw106_1), (lx (bw HB.out) hw106_2), (lx (bw HB.out) hw106_3)⟩ (fun hHeld => ?_); clear hK K; refine norm_ (a' := ?_) ?_ ?_; rotate_left
        ·show Act.put _ (some 25) _ = _; simp only [Act.put, List.setIfInBounds_toArray, List.set_cons_zero, List.set_cons_succ, i64_w, i32_w]; rfl
        refine qv HT_ ?_; refine done_ (done_of HT_.out (by kernel_rfl)) ?_; (try go_wp2); go_roundg k1
        case measure => have := HK1.out; omega
        case rel => exact ⟨(wrap64 (x5_1 + 1)), (by first | rfl | (simp; done) | (simp [*]; done)), H', ⟨by have := HK1.out; omega⟩, ⟨by exact bz HB.out⟩⟩
       ·replace c8 := Bool.eq_false_iff.mpr c8; subst c8
        have H1 : (some false) = some r := by rw [if_neg (show ¬ (false = true) by decide)] at H; exact H
        clear H; have H := H1; clear H1; obtain rfl := Option.some.inj H; (try go_wp2); have n0_ := am (below_drew1 HB.out); clear HB; revert n0_; intro HB; have p105 : 0 ≤ (x5_1 : Int) := da; have q105 : x5_1 < (l0.length : Int) := da; obtain ⟨ad105, e105, hx105_0, hx105_1, hx105_2, hx105_3⟩ := at_T44 HR0.out x5_1 p105 q105; have hw105_3 := hx105_3; have hw105_2 := hx105_2; have hw105_1 := hx105_1; have hw105_0 := hx105_0; cases e105; replace hx105_0 := lx (bw HB.out) hx105_0; replace hx105_1 := lx (bw HB.out) hx105_1; replace hx105_2 := lx (bw HB.out) hx105_2; replace hx105_3 := lx (bw HB.out) hx105_3; replace p105 := eq_true p105; replace q105 := eq_true q105; have p106 : 0 ≤ (x5_1 : Int) := da; have q106 : x5_1 < (l1.length : Int) := da; obtain ⟨ad106, e106, hx106_0, hx106_1, hx106_2, hx106_3⟩ := at_T44 HR1.out x5_1 p106 q106; have hw106_3 := hx106_3; have hw106_2 := hx106_2; have hw106_1 := hx106_1; have hw106_0 := hx106_0; cases e106; replace hx106_0 := lx (bw HB.out) hx106_0; replace hx106_1 := lx (bw HB.out) hx106_1; replace hx106_2 := lx (bw HB.out) hx106_2; replace hx106_3 := lx (bw HB.out) hx106_3; replace p106 := eq_true p106; replace q106 := eq_true q106; refine start_ (n := 10) (S := fun w' => w'.cell? (ad105.add ((x5_1).toNat * 4)) = some (.int .i64 ((rd_T44 l0 x5_1).f0)) ∧ w'.cell? ⟨(ad105.add ((x5_1).toNat * 4)).block, (ad105.add ((x5_1).toNat * 4)).off + 1, none⟩ = some (.string ((rd_T44 l0 x5_1).f1)) ∧ w'.cell? ⟨(ad105.add ((x5_1).toNat * 4)).block, (ad105.add ((x5_1).toNat * 4)).off + 2, none⟩ = some (.int .i64 ((rd_T44 l0 x5_1).f2)) ∧ w'.cell? ⟨(ad105.add ((x5_1).toNat * 4)).block, (ad105.add ((x5_1).toNat * 4)).off + 3, none⟩ = some (.int .i64 ((rd_T44 l0 x5_1).f3)) ∧ w'.cell? (ad106.add ((x5_1).toNat * 4)) = some (.int .i64 ((rd_T44 l1 x5_1).f0)) ∧ w'.cell? ⟨(ad106.add ((x5_1).toNat * 4)).block, (ad106.add ((x5_1).toNat * 4)).off + 1, none⟩ = some (.string ((rd_T44 l1 x5_1).f1)) ∧ w'.cell? ⟨(ad106.add ((x5_1).toNat * 4)).block, (ad106.add ((x5_1).toNat * 4)).off + 2, none⟩ = some (.int .i64 ((rd_T44 l1 x5_1).f2)) ∧ w'.cell? ⟨(ad106.add ((x5_1).toNat * 4)).block, (ad106.add ((x5_1).toNat * 4)).off + 3, none⟩ = some (.int .i64 ((rd_T44 l1 x5_1).f3))) (ds := []) (mkp 10 0) (by kernel_rfl) rfl rfl ⟨(lx (bw HB.out) hw105_0), (lx (bw HB.out) hw105_1), (lx (bw HB.out) hw105_2), (lx (bw HB.out) hw105_3), (lx (bw HB.out) hw106_0), (lx (bw HB.out) hw106_1), (lx (bw HB.out) hw106_2), (lx (bw HB.out) hw106_3)⟩ (fun hHeld => ?_); refine with_tabW laws_eqStepS.tab6 laws_eqStepS.bits6 (fun HT_ HW_ => ?_); generalize wr.drew = w11 at HB hx105_0 hx105_1 hx105_2 hx105_3 hx106_0 hx106_1 hx106_2 hx106_3 hHeld ⊢; (iterate 3 refine qv HT_ ?_); refine pv 4 21 10 23 HT_ ?_; refine pv 5 22 10 55 HT_ ?_; refine pv 6 23 10 119 HT_ ?_; refine tkm 3 20 (mkp 10 7) HT_ HW_ hHeld ?_; refine tk HT_ HW_ hHeld ?_; refine on 8 (mkp 10 9) HT_ (fun K hK => ?_); refine gr Tryd.func49 #[.agg #[.int .i64 ((rd_T44 l0 x5_1).f0), .string ((rd_T44 l0 x5_1).f1), .int .i64 ((rd_T44 l0 x5_1).f2), .int .i64 ((rd_T44 l0 x5_1).f3)], .agg #[.int .i64 ((rd_T44 l1 x5_1).f0), .string ((rd_T44 l1 x5_1).f1), .int .i64 ((rd_T44 l1 x5_1).f2), .int .i64 ((rd_T44 l1 x5_1).f3)]] ?_
        with_reducible refine (laws_eqStep.calls ((rd_T44 l0 x5_1).f0) ((rd_T44 l0 x5_1).f1) ((rd_T44 l0 x5_1).f2) ((rd_T44 l0 x5_1).f3) ((rd_T44 l1 x5_1).f0) ((rd_T44 l1 x5_1).f1) ((rd_T44 l1 x5_1).f2) ((rd_T44 l1 x5_1).f3) false _ A7.out).mono ?_
        rintro e w12 ⟨rfl, hb⟩; refine ⟨_, rfl, ?_⟩; have n0_ := hs HB hb; clear HB; revert n0_; intro HB; (try clear hb); (try clear hb2); (try clear hk); (try clear hi); refine hK.out _ _ ⟨(lx (bw HB.out) hw105_0), (lx (bw HB.out) hw105_1), (lx (bw HB.out) hw105_2), (lx (bw HB.out) hw105_3), (lx (bw HB.out) hw106_0), (lx (bw HB.out) hw106_1), (lx (bw HB.out) hw106_2), (lx (bw HB.out) hw106_3)⟩ (fun hHeld => ?_); clear hK K; refine norm_ (a' := ?_) ?_ ?_; rotate_left
        ·show Act.put _ (some 25) _ = _; simp only [Act.put, List.setIfInBounds_toArray, List.set_cons_zero, List.set_cons_succ, i64_w, i32_w]; rfl
        refine qv HT_ ?_; refine done_ (done_of HT_.out (by kernel_rfl)) ?_; (try go_wp2); go_ret; exact ⟨by first | rfl | (simp [errW_none, errW_some] <;> rfl) | (simp [*, errW_none, errW_some] <;> rfl), by exact bz HB.out⟩
      ·rw [if_neg c6] at H; exact absurd H (by simp)
     ·rw [if_neg c5] at H; exact absurd H (by simp)
    ·rw [if_neg c4] at H; have c4b0 : decide (x5_1 < (l0.length : Int)) = false := decide_eq_false c4; clear c4; obtain rfl := Option.some.inj H; go_wp2; go_ret; exact ⟨by first | rfl | (simp [errW_none, errW_some] <;> rfl) | (simp [*, errW_none, errW_some] <;> rfl), by exact bz HB.out⟩
 ·rw [if_neg c3] at H; have c3b0 : ((l0.length : Int) == (l1.length : Int)) = false := beq_eq_false_iff_ne.mpr c3; have c3b1 : ((l0.length : Int) != (l1.length : Int)) = true := bne_iff_ne.mpr c3
  have c3b2 : (l0.length == l1.length) = false := by first | simpa using c3 | (simp at c3 ⊢; omega)
  obtain rfl := Option.some.inj H; go_enter Tryd.func26, Tryd.ntmps26; go_wp2; go_ret; exact ⟨by first | rfl | (simp [errW_none, errW_some] <;> rfl) | (simp [*, errW_none, errW_some] <;> rfl), by exact bz HB.out⟩

/-! ### laws_eqAutomaton: function 9 -/
def laws_eqAutomaton.f (k : Nat) (a0_0 : Int) (l0_1 : List Int) (l0_2 : List Int) (l0_3 : List (S44)) (a1_0 : Int) (l1_1 : List Int) (l1_2 : List Int) (l1_3 : List (S44)) : Option (Bool) := if a0_0 = a1_0 then ((laws_eqIntS.f k l0_1 l1_1).bind fun t110 => (if t110 = true then ((laws_eqIntS.f k l0_2 l1_2).bind fun t111 => (if t111 = true then ((laws_eqStepS.f k l0_3 l1_3).bind fun t112 => (if t112 = true then (some true) else (some false))) else (some false))) else (some false))) else (some false)
theorem laws_eqAutomaton.mono : ∀ a0 a1 a2 a3 a4 a5 a6 a7 k, LeO (laws_eqAutomaton.f k a0 a1 a2 a3 a4 a5 a6 a7) (laws_eqAutomaton.f (k + 1) a0 a1 a2 a3 a4 a5 a6 a7) := by
 intro a0 a1 a2 a3 a4 a5 a6 a7 k; unfold laws_eqAutomaton.f; repeat' first
   | (with_reducible exact laws_eqIntS.mono _ _ _)
   | (with_reducible exact laws_eqStepS.mono _ _ _)
   | (with_reducible exact LeO.refl _)
   | (with_reducible exact LeO.none _)
   | (with_reducible refine LeO.ite ?_ ?_)
   | (with_reducible refine LeO.bind ?_ (fun _ => ?_))
   | exact laws_eqIntS.mono _ _ _
   | exact laws_eqStepS.mono _ _ _
   | exact LeO.none _
   | refine LeO.ite ?_ ?_
   | refine LeO.bind ?_ (fun _ => ?_)
set_option maxHeartbeats 8000000 in
set_option maxRecDepth 100000 in
theorem laws_eqAutomaton.calls (k : Nat) (a0_0 : Int) (A0_1 : Option Addr) (c0_1 : Nat) (l0_1 : List Int) (A0_2 : Option Addr) (c0_2 : Nat) (l0_2 : List Int) (A0_3 : Option Addr) (c0_3 : Nat) (l0_3 : List (S44)) (a1_0 : Int) (A1_1 : Option Addr) (c1_1 : Nat) (l1_1 : List Int) (A1_2 : Option Addr) (c1_2 : Nat) (l1_2 : List Int) (A1_3 : Option Addr) (c1_3 : Nat) (l1_3 : List (S44)) (r : Bool) (w : World) (hr0_1 : Kd.C (Kd.int .i64) w A0_1 l0_1.length l0_1) (hc0_1 : l0_1.length ≤ c0_1) (hr0_2 : Kd.C (Kd.int .i64) w A0_2 l0_2.length l0_2) (hc0_2 : l0_2.length ≤ c0_2) (hr0_3 : Kd.C k44 w A0_3 l0_3.length l0_3) (hc0_3 : l0_3.length ≤ c0_3) (hr1_1 : Kd.C (Kd.int .i64) w A1_1 l1_1.length l1_1) (hc1_1 : l1_1.length ≤ c1_1) (hr1_2 : Kd.C (Kd.int .i64) w A1_2 l1_2.length l1_2) (hc1_2 : l1_2.length ≤ c1_2) (hr1_3 : Kd.C k44 w A1_3 l1_3.length l1_3) (hc1_3 : l1_3.length ≤ c1_3) (h : laws_eqAutomaton.f k a0_0 l0_1 l0_2 l0_3 a1_0 l1_1 l1_2 l1_3 = some r) :
  Calls Tryd.prog 9 #[.agg #[.int .i64 a0_0, .slice A0_1 l0_1.length c0_1, .slice A0_2 l0_2.length c0_2, .slice A0_3 l0_3.length c0_3], .agg #[.int .i64 a1_0, .slice A1_1 l1_1.length c1_1, .slice A1_2 l1_2.length c1_2, .slice A1_3 l1_3.length c1_3]] w fun e w' => e = .returned (.bool r) ∧ Below w.heap.size w w' := by
 have hu30 := Tryd.underlying30; have HR0_1 := am hr0_1; have HC0_1 := am hc0_1; clear hr0_1 hc0_1; have HR0_2 := am hr0_2; have HC0_2 := am hc0_2; clear hr0_2 hc0_2; have HR0_3 := am hr0_3; have HC0_3 := am hc0_3; clear hr0_3 hc0_3; have HR1_1 := am hr1_1; have HC1_1 := am hc1_1; clear hr1_1 hc1_1; have HR1_2 := am hr1_2; have HC1_2 := am hc1_2; clear hr1_2 hc1_2; have HR1_3 := am hr1_3; have HC1_3 := am hc1_3; clear hr1_3 hc1_3; have HB := am (Below.refl w.heap.size w); have H : (if a0_0 = a1_0 then ((laws_eqIntS.f k l0_1 l1_1).bind fun t110 => (if t110 = true then ((laws_eqIntS.f k l0_2 l1_2).bind fun t111 => (if t111 = true then ((laws_eqStepS.f k l0_3 l1_3).bind fun t112 => (if t112 = true then (some true) else (some false))) else (some false))) else (some false))) else (some false)) = some r := h; clear h; by_cases c3 : a0_0 = a1_0
 ·rw [if_pos c3] at H; have c3b0 : (a0_0 == a1_0) = true := beq_iff_eq.mpr c3; have c3b1 : (a0_0 != a1_0) = false := bne_eq_false_iff_eq.mpr c3; clear c3; replace H := Option.bind_eq_some_iff.mp H; obtain ⟨t110, A40, H⟩ := H; (try dsimp only at H); have A4 := am A40; clear A40; by_cases c5 : t110 = true
  ·subst c5
   have H1 : ((laws_eqIntS.f k l0_2 l1_2).bind fun t111 => (if t111 = true then ((laws_eqStepS.f k l0_3 l1_3).bind fun t112 => (if t112 = true then (some true) else (some false))) else (some false))) = some r := by rw [if_pos rfl] at H; exact H
   clear H; have H := H1; clear H1; replace H := Option.bind_eq_some_iff.mp H; obtain ⟨t111, A60, H⟩ := H; (try dsimp only at H); have A6 := am A60; clear A60; by_cases c7 : t111 = true
   ·subst c7
    have H1 : ((laws_eqStepS.f k l0_3 l1_3).bind fun t112 => (if t112 = true then (some true) else (some false))) = some r := by rw [if_pos rfl] at H; exact H
    clear H; have H := H1; clear H1; replace H := Option.bind_eq_some_iff.mp H; obtain ⟨t112, A80, H⟩ := H; (try dsimp only at H); have A8 := am A80; clear A80; by_cases c9 : t112 = true
    ·subst c9
     have H1 : (some true) = some r := by rw [if_pos rfl] at H; exact H
     clear H; have H := H1; clear H1; obtain rfl := Option.some.inj H; go_enter Tryd.func9, Tryd.ntmps9; go_wp2_with (first | ((with_reducible refine gx 2 rfl ?_); refine be (cs := #[.int .i64 a0_0, .slice A0_1 l0_1.length c0_1, .slice A0_2 l0_2.length c0_2, .slice A0_3 l0_3.length c0_3]) (t := 30) ?_; intro gb108 hg w10 hbox hb; have n0_ := hs HB hb; have n1_ := am (hbox); have n2_ := gs hg (bz HB.out); have n3_ := gs hg (bz HB.out); clear HB; revert n0_ n1_ n2_ n3_; intro HB BK108 GW108 GE108; clear hb hbox hg) | ((with_reducible refine gx 3 rfl ?_); refine be (cs := #[.int .i64 a1_0, .slice A1_1 l1_1.length c1_1, .slice A1_2 l1_2.length c1_2, .slice A1_3 l1_3.length c1_3]) (t := 30) ?_; intro gb109 hg w11 hbox hb; have n0_ := bk BK108 hb; have n1_ := hs HB hb; have n2_ := am (hbox); have n3_ := gs hg (bw HB.out); have n4_ := gs hg (bw HB.out); have n5_ := nl hg (kz BK108.out); have n6_ := nr hg (kz BK108.out); clear BK108 HB; revert n0_ n1_ n2_ n3_ n4_ n5_ n6_; intro BK108 HB BK109 GW109 GE109 NB108_109 NB109_108; clear hb hbox hg; have hnb12 := NB108_109.out; have hnc12 := NB109_108.out; have hz13 := zf4 BK108.out; have hz14 := zf4 BK109.out) | ((with_reducible refine gy 25 rfl ?_); refine gl Tryd.func25 #[.slice A0_2 l0_2.length c0_2, .slice A1_2 l1_2.length c1_2] ?_; (with_reducible refine (laws_eqIntS.calls k _ _ l0_2 _ _ l1_2 true _ ?side1 ?side2 ?side3 ?side4 A6.out).mono ?_); (case side1 => exact cc (Kd.C_below HR0_2.out (bw HB.out))); (case side2 => exact HC0_2.out); (case side3 => exact cc (Kd.C_below HR1_2.out (bw HB.out))); (case side4 => exact HC1_2.out); rintro e w' ⟨rfl, ⟨nd, rfl⟩⟩; refine ⟨_, rfl, ?_⟩) | ((with_reducible refine gy 25 rfl ?_); refine gl Tryd.func25 #[.slice A0_1 l0_1.length c0_1, .slice A1_1 l1_1.length c1_1] ?_; (with_reducible refine (laws_eqIntS.calls k _ _ l0_1 _ _ l1_1 true _ ?side1 ?side2 ?side3 ?side4 A4.out).mono ?_); (case side1 => exact cc (Kd.C_below HR0_1.out HB.out)); (case side2 => exact HC0_1.out); (case side3 => exact cc (Kd.C_below HR1_1.out HB.out)); (case side4 => exact HC1_1.out); rintro e w' ⟨rfl, ⟨nd, rfl⟩⟩; refine ⟨_, rfl, ?_⟩) | ((with_reducible refine gy 26 rfl ?_); refine gl Tryd.func26 #[.slice A0_3 l0_3.length c0_3, .slice A1_3 l1_3.length c1_3] ?_; (with_reducible refine (laws_eqStepS.calls k _ _ l0_3 _ _ l1_3 true _ ?side1 ?side2 ?side3 ?side4 A8.out).mono ?_); (case side1 => exact cc (Kd.C_below HR0_3.out (bw HB.out))); (case side2 => exact HC0_3.out); (case side3 => exact cc (Kd.C_below HR1_3.out (bw HB.out))); (case side4 => exact HC1_3.out); rintro e w15 ⟨rfl, hb⟩; refine ⟨_, rfl, ?_⟩; have n0_ := bk BK108 hb; have n1_ := bk BK109 hb; have n2_ := hs HB hb; clear BK108 BK109 HB; revert n0_ n1_ n2_; intro BK108 BK109 HB; (try clear hb); (try clear hb2); (try clear hk); (try clear hi))); go_ret; exact ⟨by first | rfl | (simp [errW_none, errW_some] <;> rfl) | (simp [*, errW_none, errW_some] <;> rfl), by exact bw HB.out⟩
    ·replace c9 := Bool.eq_false_iff.mpr c9; subst c9
     have H1 : (some false) = some r := by rw [if_neg (show ¬ (false = true) by decide)] at H; exact H
     clear H; have H := H1; clear H1; obtain rfl := Option.some.inj H; go_enter Tryd.func9, Tryd.ntmps9; go_wp2_with (first | ((with_reducible refine gx 2 rfl ?_); refine be (cs := #[.int .i64 a0_0, .slice A0_1 l0_1.length c0_1, .slice A0_2 l0_2.length c0_2, .slice A0_3 l0_3.length c0_3]) (t := 30) ?_; intro gb108 hg w16 hbox hb; have n0_ := hs HB hb; have n1_ := am (hbox); have n2_ := gs hg (bz HB.out); have n3_ := gs hg (bz HB.out); clear HB; revert n0_ n1_ n2_ n3_; intro HB BK108 GW108 GE108; clear hb hbox hg) | ((with_reducible refine gx 3 rfl ?_); refine be (cs := #[.int .i64 a1_0, .slice A1_1 l1_1.length c1_1, .slice A1_2 l1_2.length c1_2, .slice A1_3 l1_3.length c1_3]) (t := 30) ?_; intro gb109 hg w17 hbox hb; have n0_ := bk BK108 hb; have n1_ := hs HB hb; have n2_ := am (hbox); have n3_ := gs hg (bw HB.out); have n4_ := gs hg (bw HB.out); have n5_ := nl hg (kz BK108.out); have n6_ := nr hg (kz BK108.out); clear BK108 HB; revert n0_ n1_ n2_ n3_ n4_ n5_ n6_; intro BK108 HB BK109 GW109 GE109 NB108_109 NB109_108; clear hb hbox hg; have hnb18 := NB108_109.out; have hnc18 := NB109_108.out; have hz19 := zf4 BK108.out; have hz20 := zf4 BK109.out) | ((with_reducible refine gy 25 rfl ?_); refine gl Tryd.func25 #[.slice A0_2 l0_2.length c0_2, .slice A1_2 l1_2.length c1_2] ?_; (with_reducible refine (laws_eqIntS.calls k _ _ l0_2 _ _ l1_2 true _ ?side1 ?side2 ?side3 ?side4 A6.out).mono ?_); (case side1 => exact cc (Kd.C_below HR0_2.out (bw HB.out))); (case side2 => exact HC0_2.out); (case side3 => exact cc (Kd.C_below HR1_2.out (bw HB.out))); (case side4 => exact HC1_2.out); rintro e w' ⟨rfl, ⟨nd, rfl⟩⟩; refine ⟨_, rfl, ?_⟩) | ((with_reducible refine gy 25 rfl ?_); refine gl Tryd.func25 #[.slice A0_1 l0_1.length c0_1, .slice A1_1 l1_1.length c1_1] ?_; (with_reducible refine (laws_eqIntS.calls k _ _ l0_1 _ _ l1_1 true _ ?side1 ?side2 ?side3 ?side4 A4.out).mono ?_); (case side1 => exact cc (Kd.C_below HR0_1.out HB.out)); (case side2 => exact HC0_1.out); (case side3 => exact cc (Kd.C_below HR1_1.out HB.out)); (case side4 => exact HC1_1.out); rintro e w' ⟨rfl, ⟨nd, rfl⟩⟩; refine ⟨_, rfl, ?_⟩) | ((with_reducible refine gy 26 rfl ?_); refine gl Tryd.func26 #[.slice A0_3 l0_3.length c0_3, .slice A1_3 l1_3.length c1_3] ?_; (with_reducible refine (laws_eqStepS.calls k _ _ l0_3 _ _ l1_3 false _ ?side1 ?side2 ?side3 ?side4 A8.out).mono ?_); (case side1 => exact cc (Kd.C_below HR0_3.out (bw HB.out))); (case side2 => exact HC0_3.out); (case side3 => exact cc (Kd.C_below HR1_3.out (bw HB.out))); (case side4 => exact HC1_3.out); rintro e w21 ⟨rfl, hb⟩; refine ⟨_, rfl, ?_⟩; have n0_ := bk BK108 hb; have n1_ := bk BK109 hb; have n2_ := hs HB hb; clear BK108 BK109 HB; revert n0_ n1_ n2_; intro BK108 BK109 HB; (try clear hb); (try clear hb2); (try clear hk); (try clear hi))); go_ret; exact ⟨by first | rfl | (simp [errW_none, errW_some] <;> rfl) | (simp [*, errW_none, errW_some] <;> rfl), by exact bw HB.out⟩
   ·replace c7 := Bool.eq_false_iff.mpr c7; subst c7
    have H1 : (some false) = some r := by rw [if_neg (show ¬ (false = true) by decide)] at H; exact H
    clear H; have H := H1; clear H1; obtain rfl := Option.some.inj H; go_enter Tryd.func9, Tryd.ntmps9; go_wp2_with (first | ((with_reducible refine gx 2 rfl ?_); refine be (cs := #[.int .i64 a0_0, .slice A0_1 l0_1.length c0_1, .slice A0_2 l0_2.length c0_2, .slice A0_3 l0_3.length c0_3]) (t := 30) ?_; intro gb108 hg w22 hbox hb; have n0_ := hs HB hb; have n1_ := am (hbox); have n2_ := gs hg (bz HB.out); have n3_ := gs hg (bz HB.out); clear HB; revert n0_ n1_ n2_ n3_; intro HB BK108 GW108 GE108; clear hb hbox hg) | ((with_reducible refine gx 3 rfl ?_); refine be (cs := #[.int .i64 a1_0, .slice A1_1 l1_1.length c1_1, .slice A1_2 l1_2.length c1_2, .slice A1_3 l1_3.length c1_3]) (t := 30) ?_; intro gb109 hg w23 hbox hb; have n0_ := bk BK108 hb; have n1_ := hs HB hb; have n2_ := am (hbox); have n3_ := gs hg (bw HB.out); have n4_ := gs hg (bw HB.out); have n5_ := nl hg (kz BK108.out); have n6_ := nr hg (kz BK108.out); clear BK108 HB; revert n0_ n1_ n2_ n3_ n4_ n5_ n6_; intro BK108 HB BK109 GW109 GE109 NB108_109 NB109_108; clear hb hbox hg; have hnb24 := NB108_109.out; have hnc24 := NB109_108.out; have hz25 := zf4 BK108.out; have hz26 := zf4 BK109.out) | ((with_reducible refine gy 25 rfl ?_); refine gl Tryd.func25 #[.slice A0_2 l0_2.length c0_2, .slice A1_2 l1_2.length c1_2] ?_; (with_reducible refine (laws_eqIntS.calls k _ _ l0_2 _ _ l1_2 false _ ?side1 ?side2 ?side3 ?side4 A6.out).mono ?_); (case side1 => exact cc (Kd.C_below HR0_2.out (bw HB.out))); (case side2 => exact HC0_2.out); (case side3 => exact cc (Kd.C_below HR1_2.out (bw HB.out))); (case side4 => exact HC1_2.out); rintro e w' ⟨rfl, ⟨nd, rfl⟩⟩; refine ⟨_, rfl, ?_⟩) | ((with_reducible refine gy 25 rfl ?_); refine gl Tryd.func25 #[.slice A0_1 l0_1.length c0_1, .slice A1_1 l1_1.length c1_1] ?_; (with_reducible refine (laws_eqIntS.calls k _ _ l0_1 _ _ l1_1 true _ ?side1 ?side2 ?side3 ?side4 A4.out).mono ?_); (case side1 => exact cc (Kd.C_below HR0_1.out HB.out)); (case side2 => exact HC0_1.out); (case side3 => exact cc (Kd.C_below HR1_1.out HB.out)); (case side4 => exact HC1_1.out); rintro e w' ⟨rfl, ⟨nd, rfl⟩⟩; refine ⟨_, rfl, ?_⟩)); go_ret; exact ⟨by first | rfl | (simp [errW_none, errW_some] <;> rfl) | (simp [*, errW_none, errW_some] <;> rfl), by exact bw HB.out⟩
  ·replace c5 := Bool.eq_false_iff.mpr c5; subst c5
   have H1 : (some false) = some r := by rw [if_neg (show ¬ (false = true) by decide)] at H; exact H
   clear H; have H := H1; clear H1; obtain rfl := Option.some.inj H; go_enter Tryd.func9, Tryd.ntmps9; go_wp2_with (first | ((with_reducible refine gx 2 rfl ?_); refine be (cs := #[.int .i64 a0_0, .slice A0_1 l0_1.length c0_1, .slice A0_2 l0_2.length c0_2, .slice A0_3 l0_3.length c0_3]) (t := 30) ?_; intro gb108 hg w27 hbox hb; have n0_ := hs HB hb; have n1_ := am (hbox); have n2_ := gs hg (bz HB.out); have n3_ := gs hg (bz HB.out); clear HB; revert n0_ n1_ n2_ n3_; intro HB BK108 GW108 GE108; clear hb hbox hg) | ((with_reducible refine gx 3 rfl ?_); refine be (cs := #[.int .i64 a1_0, .slice A1_1 l1_1.length c1_1, .slice A1_2 l1_2.length c1_2, .slice A1_3 l1_3.length c1_3]) (t := 30) ?_; intro gb109 hg w28 hbox hb; have n0_ := bk BK108 hb; have n1_ := hs HB hb; have n2_ := am (hbox); have n3_ := gs hg (bw HB.out); have n4_ := gs hg (bw HB.out); have n5_ := nl hg (kz BK108.out); have n6_ := nr hg (kz BK108.out); clear BK108 HB; revert n0_ n1_ n2_ n3_ n4_ n5_ n6_; intro BK108 HB BK109 GW109 GE109 NB108_109 NB109_108; clear hb hbox hg; have hnb29 := NB108_109.out; have hnc29 := NB109_108.out; have hz30 := zf4 BK108.out; have hz31 := zf4 BK109.out) | ((with_reducible refine gy 25 rfl ?_); refine gl Tryd.func25 #[.slice A0_1 l0_1.length c0_1, .slice A1_1 l1_1.length c1_1] ?_; (with_reducible refine (laws_eqIntS.calls k _ _ l0_1 _ _ l1_1 false _ ?side1 ?side2 ?side3 ?side4 A4.out).mono ?_); (case side1 => exact cc (Kd.C_below HR0_1.out HB.out)); (case side2 => exact HC0_1.out); (case side3 => exact cc (Kd.C_below HR1_1.out HB.out)); (case side4 => exact HC1_1.out); rintro e w' ⟨rfl, ⟨nd, rfl⟩⟩; refine ⟨_, rfl, ?_⟩)); go_ret; exact ⟨by first | rfl | (simp [errW_none, errW_some] <;> rfl) | (simp [*, errW_none, errW_some] <;> rfl), by exact bw HB.out⟩
 ·rw [if_neg c3] at H; have c3b0 : (a0_0 == a1_0) = false := beq_eq_false_iff_ne.mpr c3; have c3b1 : (a0_0 != a1_0) = true := bne_iff_ne.mpr c3; obtain rfl := Option.some.inj H; go_enter Tryd.func9, Tryd.ntmps9; go_wp2_with (first | ((with_reducible refine gx 2 rfl ?_); refine be (cs := #[.int .i64 a0_0, .slice A0_1 l0_1.length c0_1, .slice A0_2 l0_2.length c0_2, .slice A0_3 l0_3.length c0_3]) (t := 30) ?_; intro gb108 hg w32 hbox hb; have n0_ := hs HB hb; have n1_ := am (hbox); have n2_ := gs hg (bz HB.out); have n3_ := gs hg (bz HB.out); clear HB; revert n0_ n1_ n2_ n3_; intro HB BK108 GW108 GE108; clear hb hbox hg) | ((with_reducible refine gx 3 rfl ?_); refine be (cs := #[.int .i64 a1_0, .slice A1_1 l1_1.length c1_1, .slice A1_2 l1_2.length c1_2, .slice A1_3 l1_3.length c1_3]) (t := 30) ?_; intro gb109 hg w33 hbox hb; have n0_ := bk BK108 hb; have n1_ := hs HB hb; have n2_ := am (hbox); have n3_ := gs hg (bw HB.out); have n4_ := gs hg (bw HB.out); have n5_ := nl hg (kz BK108.out); have n6_ := nr hg (kz BK108.out); clear BK108 HB; revert n0_ n1_ n2_ n3_ n4_ n5_ n6_; intro BK108 HB BK109 GW109 GE109 NB108_109 NB109_108; clear hb hbox hg; have hnb34 := NB108_109.out; have hnc34 := NB109_108.out; have hz35 := zf4 BK108.out; have hz36 := zf4 BK109.out)); go_ret; exact ⟨by first | rfl | (simp [errW_none, errW_some] <;> rfl) | (simp [*, errW_none, errW_some] <;> rfl), by exact bw HB.out⟩

/-! ### spec_l1In: function 38 -/
def spec_l1In.f (a0 : Int) (a1 : Int) (a2 : Int) : Option (Bool) := if a0 ≥ a1 then (some (decide (a0 ≤ a2))) else (some false)
set_option maxHeartbeats 8000000 in
set_option maxRecDepth 100000 in
theorem spec_l1In.calls (a0 : Int) (a1 : Int) (a2 : Int) (r : Bool) (w : World) (h : spec_l1In.f a0 a1 a2 = some r) :
  Calls Tryd.prog 38 #[.int .i64 a0, .int .i64 a1, .int .i64 a2] w fun e w' => e = .returned (.bool r) ∧ Drawn0 w w' := by
 have H : (if a0 ≥ a1 then (some (decide (a0 ≤ a2))) else (some false)) = some r := h; clear h; by_cases c4 : a0 ≥ a1
 ·rw [if_pos c4] at H; have c4b0 : decide (a1 ≤ a0) = true := decide_eq_true c4; clear c4; obtain rfl := Option.some.inj H; go_enter Tryd.func38, Tryd.ntmps38; go_wp2; go_ret; exact ⟨by first | rfl | (simp; done) | (simp [*]; done), by repeat (first | exact Drawn0.refl _ | apply Drawn0.step)⟩
 ·rw [if_neg c4] at H; have c4b0 : decide (a1 ≤ a0) = false := decide_eq_false c4; clear c4; obtain rfl := Option.some.inj H; go_enter Tryd.func38, Tryd.ntmps38; go_wp2; go_ret; exact ⟨by first | rfl | (simp; done) | (simp [*]; done), by repeat (first | exact Drawn0.refl _ | apply Drawn0.step)⟩

/-! ### spec_l3Marks: function 39 -/
def spec_l3Marks.l0 : Nat → Int → List Int → List Int → Int → Int → Option (Bool)
 | 0, _, _, _, _, _ => none
 | k + 1, x0, x1, x7, x8, x9 => if x9 < x8 then (if 0 ≤ x9 then (if x9 < (x7.length : Int) then ((spec_l1In.f (rd x7 x9) 0 (wrap64 (x0 - 1))).bind fun t114 => (if t114 = true then (if x9 > 0 then (if 0 ≤ (wrap64 (x9 - 1)) then (if (wrap64 (x9 - 1)) < (x1.length : Int) then (if (rd x1 (wrap64 (x9 - 1))) ≥ (rd x7 x9) then (some false) else (spec_l3Marks.l0 k x0 x1 x7 x8 (wrap64 (x9 + 1)))) else (none)) else (none)) else (spec_l3Marks.l0 k x0 x1 x7 x8 (wrap64 (x9 + 1)))) else (some false))) else (none)) else (none)) else (some true)
def spec_l3Marks.f (k : Nat) (a0 : Int) (l1 : List Int) : Option (Bool) := spec_l3Marks.l0 k a0 l1 l1 (l1.length : Int) 0
theorem spec_l3Marks.mono_l : ∀ k, (∀ y0 y1 y2 y3 y4, LeO (spec_l3Marks.l0 k y0 y1 y2 y3 y4) (spec_l3Marks.l0 (k + 1) y0 y1 y2 y3 y4))
 | 0 => fun _ _ _ _ _ r h => by simp [spec_l3Marks.l0] at h
 | k + 1 => by
  have ih0 := spec_l3Marks.mono_l k
  ·intro y0 y1 y2 y3 y4; unfold spec_l3Marks.l0; repeat' first
   | (with_reducible exact ih0 _ _ _ _ _)
   | (with_reducible exact LeO.refl _)
   | (with_reducible exact LeO.none _)
   | (with_reducible refine LeO.ite ?_ ?_)
   | (with_reducible refine LeO.bind ?_ (fun _ => ?_))
   | exact ih0 _ _ _ _ _
   | exact LeO.none _
   | refine LeO.ite ?_ ?_
   | refine LeO.bind ?_ (fun _ => ?_)
theorem spec_l3Marks.mono : ∀ a0 a1 k, LeO (spec_l3Marks.f k a0 a1) (spec_l3Marks.f (k + 1) a0 a1) := by
 intro a0 a1 k; have ih0 := spec_l3Marks.mono_l k; unfold spec_l3Marks.f; repeat' first
   | (with_reducible exact ih0 _ _ _ _ _)
   | (with_reducible exact LeO.refl _)
   | (with_reducible exact LeO.none _)
   | (with_reducible refine LeO.ite ?_ ?_)
   | (with_reducible refine LeO.bind ?_ (fun _ => ?_))
   | exact ih0 _ _ _ _ _
   | exact LeO.none _
   | refine LeO.ite ?_ ?_
   | refine LeO.bind ?_ (fun _ => ?_)
set_option maxHeartbeats 8000000 in
set_option maxRecDepth 100000 in
theorem spec_l3Marks.calls (k : Nat) (a0 : Int) (A1 : Option Addr) (c1 : Nat) (l1 : List Int) (r : Bool) (w : World) (hr1 : Kd.C (Kd.int .i64) w A1 l1.length l1) (hc1 : l1.length ≤ c1) (h : spec_l3Marks.f k a0 l1 = some r) :
  Calls Tryd.prog 39 #[.int .i64 a0, .slice A1 l1.length c1] w fun e w' => e = .returned (.bool r) ∧ Drawn0 w w' := by
 have HR1 := am hr1; have HC1 := am hc1; clear hr1 hc1; have H : (spec_l3Marks.l0 k a0 l1 l1 (l1.length : Int) 0) = some r := h; clear h; have H' := am H; clear H; go_enter Tryd.func39, Tryd.ntmps39; go_wp2; go_loopg [9] k (fun kq v9 w' => ∃ (x9_1 : Int), v9 = .int .i64 x9_1 ∧ Aside0 (spec_l3Marks.l0 kq a0 l1 l1 (l1.length : Int) x9_1 = some r) ∧ Aside0 (kq ≤ k) ∧ Drawn0 w w')
 case atStart => exact ⟨(0), (by first | rfl | (simp; done) | (simp [*]; done)), H', ⟨Nat.le_refl _⟩, by repeat (first | exact Drawn0.refl _ | apply Drawn0.step)⟩
 case round =>
  clear H'; (try clear c1); (try clear p2); obtain ⟨x9_1, rfl, HA, HK1, ⟨m1, rfl⟩⟩ := hrel
  cases gk with
  | zero => exact absurd HA.out (by simp [spec_l3Marks.l0])
  | succ k1 =>
   have H := HA.out; clear HA; simp only [spec_l3Marks.l0] at H; by_cases c3 : x9_1 < (l1.length : Int)
   ·rw [if_pos c3] at H; have c3b0 : decide (x9_1 < (l1.length : Int)) = true := decide_eq_true c3; clear c3; by_cases c4 : 0 ≤ x9_1
    ·rw [if_pos c4] at H; have c4b0 : decide (0 ≤ x9_1) = true := decide_eq_true c4; clear c4; by_cases c5 : x9_1 < (l1.length : Int)
     ·rw [if_pos c5] at H; have c5b0 : decide (x9_1 < (l1.length : Int)) = true := decide_eq_true c5; clear c5; replace H := Option.bind_eq_some_iff.mp H; obtain ⟨t114, A60, H⟩ := H; (try dsimp only at H); have A6 := am A60; clear A60; by_cases c7 : t114 = true
      ·subst c7
       have H1 : (if x9_1 > 0 then (if 0 ≤ (wrap64 (x9_1 - 1)) then (if (wrap64 (x9_1 - 1)) < (l1.length : Int) then (if (rd l1 (wrap64 (x9_1 - 1))) ≥ (rd l1 x9_1) then (some false) else (spec_l3Marks.l0 k1 a0 l1 l1 (l1.length : Int) (wrap64 (x9_1 + 1)))) else (none)) else (none)) else (spec_l3Marks.l0 k1 a0 l1 l1 (l1.length : Int) (wrap64 (x9_1 + 1)))) = some r := by rw [if_pos rfl] at H; exact H
       clear H; have H := H1; clear H1; by_cases c8 : x9_1 > 0
       ·rw [if_pos c8] at H; have c8b0 : decide (0 < x9_1) = true := decide_eq_true c8; clear c8; obtain ⟨ji9, hji9⟩ : ∃ j_ : Int, (wrap64 (x9_1 - 1)) = j_ := ⟨_, rfl⟩
        replace H : (if 0 ≤ (ji9) then (if (ji9) < (l1.length : Int) then (if (rd l1 (ji9)) ≥ (rd l1 x9_1) then (some false) else (spec_l3Marks.l0 k1 a0 l1 l1 (l1.length : Int) (wrap64 (x9_1 + 1)))) else (none)) else (none)) = some r := by first | (rw [hji9] at H; exact H) | (simp only [hji9] at H ⊢; exact H)
        (try rw [hji9] at A6); have hji9w : (IntKind.i64.wrap (x9_1 - 1)) = ji9 := (i64_w _).trans hji9; by_cases c10 : 0 ≤ (ji9)
        ·rw [if_pos c10] at H; have c10b0 : decide (0 ≤ (ji9)) = true := decide_eq_true c10; clear c10; by_cases c11 : (ji9) < (l1.length : Int)
         ·rw [if_pos c11] at H; have c11b0 : decide ((ji9) < (l1.length : Int)) = true := decide_eq_true c11; clear c11; by_cases c12 : (rd l1 (ji9)) ≥ (rd l1 x9_1)
          ·rw [if_pos c12] at H; have c12b0 : decide ((rd l1 x9_1) ≤ (rd l1 (ji9))) = true := decide_eq_true c12; clear c12; obtain rfl := Option.some.inj H; have p113 : 0 ≤ (x9_1 : Int) := da; have q113 : x9_1 < (l1.length : Int) := da; obtain ⟨ad113, e113, hx113_0⟩ := Kd.at_int HR1.out x9_1 p113 q113; cases e113; replace p113 := eq_true p113; replace q113 := eq_true q113; go_wp2_with (first | ((with_reducible refine gy 38 rfl ?_); refine gl Tryd.func38 #[.int .i64 (rd l1 x9_1), .int .i64 0, .int .i64 (wrap64 (a0 - 1))] ?_; (with_reducible refine (spec_l1In.calls (rd l1 x9_1) 0 (wrap64 (a0 - 1)) true _ A6.out).mono ?_); rintro e w' ⟨rfl, ⟨nd, rfl⟩⟩; refine ⟨_, rfl, ?_⟩; have p115 : 0 ≤ ((ji9) : Int) := da; have q115 : (ji9) < (l1.length : Int) := da; obtain ⟨ad115, e115, hx115_0⟩ := Kd.at_int HR1.out (ji9) p115 q115; obtain rfl : ad113 = ad115 := (by injection e115); replace p115 := eq_true p115; replace q115 := eq_true q115)); go_ret; exact ⟨by first | rfl | (simp; done) | (simp only [← hji9] <;> (first | rfl | simp)) | (simp [*]; done), by repeat (first | exact Drawn0.refl _ | apply Drawn0.step)⟩
          ·rw [if_neg c12] at H; have c12b0 : decide ((rd l1 x9_1) ≤ (rd l1 (ji9))) = false := decide_eq_false c12; clear c12; have H' := am H; clear H; have p113 : 0 ≤ (x9_1 : Int) := da; have q113 : x9_1 < (l1.length : Int) := da; obtain ⟨ad113, e113, hx113_0⟩ := Kd.at_int HR1.out x9_1 p113 q113; cases e113; replace p113 := eq_true p113; replace q113 := eq_true q113; go_wp2_with (first | ((with_reducible refine gy 38 rfl ?_); refine gl Tryd.func38 #[.int .i64 (rd l1 x9_1), .int .i64 0, .int .i64 (wrap64 (a0 - 1))] ?_; (with_reducible refine (spec_l1In.calls (rd l1 x9_1) 0 (wrap64 (a0 - 1)) true _ A6.out).mono ?_); rintro e w' ⟨rfl, ⟨nd, rfl⟩⟩; refine ⟨_, rfl, ?_⟩; have p115 : 0 ≤ ((ji9) : Int) := da; have q115 : (ji9) < (l1.length : Int) := da; obtain ⟨ad115, e115, hx115_0⟩ := Kd.at_int HR1.out (ji9) p115 q115; obtain rfl : ad113 = ad115 := (by injection e115); replace p115 := eq_true p115; replace q115 := eq_true q115)); go_roundg k1
           case measure => have := HK1.out; omega
           case rel => exact ⟨(wrap64 (x9_1 + 1)), (by first | rfl | (simp; done) | (simp [*]; done)), H', ⟨by have := HK1.out; omega⟩, by repeat (first | exact Drawn0.refl _ | apply Drawn0.step)⟩
         ·rw [if_neg c11] at H; exact absurd H (by simp)
        ·rw [if_neg c10] at H; exact absurd H (by simp)
       ·rw [if_neg c8] at H; have c8b0 : decide (0 < x9_1) = false := decide_eq_false c8; clear c8; have H' := am H; clear H; have p113 : 0 ≤ (x9_1 : Int) := da; have q113 : x9_1 < (l1.length : Int) := da; obtain ⟨ad113, e113, hx113_0⟩ := Kd.at_int HR1.out x9_1 p113 q113; cases e113; replace p113 := eq_true p113; replace q113 := eq_true q113; go_wp2_with (first | ((with_reducible refine gy 38 rfl ?_); refine gl Tryd.func38 #[.int .i64 (rd l1 x9_1), .int .i64 0, .int .i64 (wrap64 (a0 - 1))] ?_; (with_reducible refine (spec_l1In.calls (rd l1 x9_1) 0 (wrap64 (a0 - 1)) true _ A6.out).mono ?_); rintro e w' ⟨rfl, ⟨nd, rfl⟩⟩; refine ⟨_, rfl, ?_⟩)); go_roundg k1
        case measure => have := HK1.out; omega
        case rel => exact ⟨(wrap64 (x9_1 + 1)), (by first | rfl | (simp; done) | (simp [*]; done)), H', ⟨by have := HK1.out; omega⟩, by repeat (first | exact Drawn0.refl _ | apply Drawn0.step)⟩
      ·replace c7 := Bool.eq_false_iff.mpr c7; subst c7
       have H1 : (some false) = some r := by rw [if_neg (show ¬ (false = true) by decide)] at H; exact H
       clear H; have H := H1; clear H1; obtain rfl := Option.some.inj H; have p113 : 0 ≤ (x9_1 : Int) := da; have q113 : x9_1 < (l1.length : Int) := da; obtain ⟨ad113, e113, hx113_0⟩ := Kd.at_int HR1.out x9_1 p113 q113; cases e113; replace p113 := eq_true p113; replace q113 := eq_true q113; go_wp2_with (first | ((with_reducible refine gy 38 rfl ?_); refine gl Tryd.func38 #[.int .i64 (rd l1 x9_1), .int .i64 0, .int .i64 (wrap64 (a0 - 1))] ?_; (with_reducible refine (spec_l1In.calls (rd l1 x9_1) 0 (wrap64 (a0 - 1)) false _ A6.out).mono ?_); rintro e w' ⟨rfl, ⟨nd, rfl⟩⟩; refine ⟨_, rfl, ?_⟩)); go_ret; exact ⟨by first | rfl | (simp; done) | (simp [*]; done), by repeat (first | exact Drawn0.refl _ | apply Drawn0.step)⟩
     ·rw [if_neg c5] at H; exact absurd H (by simp)
    ·rw [if_neg c4] at H; exact absurd H (by simp)
   ·rw [if_neg c3] at H; have c3b0 : decide (x9_1 < (l1.length : Int)) = false := decide_eq_false c3; clear c3; obtain rfl := Option.some.inj H; go_wp2; go_ret; exact ⟨by first | rfl | (simp; done) | (simp [*]; done), by repeat (first | exact Drawn0.refl _ | apply Drawn0.step)⟩

/-! ### spec_l3Step: function 40 -/
def spec_l3Step.f (a0 : Int) (a1_0 : Int) (a1_1 : ByteArray) (a1_2 : Int) (a1_3 : Int) : Option (Bool) := (spec_l1In.f a1_0 0 (wrap64 (a0 - 1))).bind fun t117 => (if t117 = true then ((spec_l1In.f a1_2 0 (wrap64 (a0 - 1))).bind fun t118 => (if t118 = true then ((spec_l1In.f a1_3 0 3).bind fun t119 => (if t119 = true then (if a1_1.toList = ([97] : List UInt8) then (some true) else (some (a1_1.toList == ([98] : List UInt8)))) else (some false))) else (some false))) else (some false))
set_option maxHeartbeats 8000000 in
set_option maxRecDepth 100000 in
theorem spec_l3Step.calls (a0 : Int) (a1_0 : Int) (a1_1 : ByteArray) (a1_2 : Int) (a1_3 : Int) (r : Bool) (w : World) (h : spec_l3Step.f a0 a1_0 a1_1 a1_2 a1_3 = some r) :
  Calls Tryd.prog 40 #[.int .i64 a0, .agg #[.int .i64 a1_0, .string a1_1, .int .i64 a1_2, .int .i64 a1_3]] w fun e w' => e = .returned (.bool r) ∧ Below w.heap.size w w' := by
 have hu44 := Tryd.underlying44; have HB := am (Below.refl w.heap.size w); have H : ((spec_l1In.f a1_0 0 (wrap64 (a0 - 1))).bind fun t117 => (if t117 = true then ((spec_l1In.f a1_2 0 (wrap64 (a0 - 1))).bind fun t118 => (if t118 = true then ((spec_l1In.f a1_3 0 3).bind fun t119 => (if t119 = true then (if a1_1.toList = ([97] : List UInt8) then (some true) else (some (a1_1.toList == ([98] : List UInt8)))) else (some false))) else (some false))) else (some false))) = some r := h; clear h; replace H := Option.bind_eq_some_iff.mp H; obtain ⟨t117, A30, H⟩ := H; (try dsimp only at H); have A3 := am A30; clear A30; by_cases c4 : t117 = true
 ·subst c4
  have H1 : ((spec_l1In.f a1_2 0 (wrap64 (a0 - 1))).bind fun t118 => (if t118 = true then ((spec_l1In.f a1_3 0 3).bind fun t119 => (if t119 = true then (if a1_1.toList = ([97] : List UInt8) then (some true) else (some (a1_1.toList == ([98] : List UInt8)))) else (some false))) else (some false))) = some r := by rw [if_pos rfl] at H; exact H
  clear H; have H := H1; clear H1; replace H := Option.bind_eq_some_iff.mp H; obtain ⟨t118, A50, H⟩ := H; (try dsimp only at H); have A5 := am A50; clear A50; by_cases c6 : t118 = true
  ·subst c6
   have H1 : ((spec_l1In.f a1_3 0 3).bind fun t119 => (if t119 = true then (if a1_1.toList = ([97] : List UInt8) then (some true) else (some (a1_1.toList == ([98] : List UInt8)))) else (some false))) = some r := by rw [if_pos rfl] at H; exact H
   clear H; have H := H1; clear H1; replace H := Option.bind_eq_some_iff.mp H; obtain ⟨t119, A70, H⟩ := H; (try dsimp only at H); have A7 := am A70; clear A70; by_cases c8 : t119 = true
   ·subst c8
    have H1 : (if a1_1.toList = ([97] : List UInt8) then (some true) else (some (a1_1.toList == ([98] : List UInt8)))) = some r := by rw [if_pos rfl] at H; exact H
    clear H; have H := H1; clear H1; by_cases c9 : a1_1.toList = ([97] : List UInt8)
    ·rw [if_pos c9] at H; have c9b0 : (a1_1.toList == ([97] : List UInt8)) = true := beq_iff_eq.mpr c9; have c9b1 : (a1_1.toList != ([97] : List UInt8)) = false := bne_eq_false_iff_eq.mpr c9; clear c9; obtain rfl := Option.some.inj H; go_enter Tryd.func40, Tryd.ntmps40; go_wp2_with (first | ((with_reducible refine gx 3 rfl ?_); refine be (cs := #[.int .i64 a1_0, .string a1_1, .int .i64 a1_2, .int .i64 a1_3]) (t := 44) ?_; intro gb116 hg w10 hbox hb; have n0_ := hs HB hb; have n1_ := am (hbox); have n2_ := gs hg (bz HB.out); have n3_ := gs hg (bz HB.out); clear HB; revert n0_ n1_ n2_ n3_; intro HB BK116 GW116 GE116; clear hb hbox hg; have hz11 := zf4 BK116.out) | ((with_reducible refine gy 38 rfl ?_); refine gl Tryd.func38 #[.int .i64 a1_0, .int .i64 0, .int .i64 (wrap64 (a0 - 1))] ?_; (with_reducible refine (spec_l1In.calls a1_0 0 (wrap64 (a0 - 1)) true _ A3.out).mono ?_); rintro e w' ⟨rfl, ⟨nd, rfl⟩⟩; refine ⟨_, rfl, ?_⟩) | (go_at_call 38; (with_reducible refine (spec_l1In.calls a1_2 0 (wrap64 (a0 - 1)) true _ A5.out).mono ?_); rintro e w' ⟨rfl, ⟨nd, rfl⟩⟩) | (go_at_call 38; (with_reducible refine (spec_l1In.calls a1_3 0 3 true _ A7.out).mono ?_); rintro e w' ⟨rfl, ⟨nd, rfl⟩⟩)); go_ret; exact ⟨by first | rfl | (simp [errW_none, errW_some] <;> rfl) | (simp [*, errW_none, errW_some] <;> rfl), by exact bw HB.out⟩
    ·rw [if_neg c9] at H; have c9b0 : (a1_1.toList == ([97] : List UInt8)) = false := beq_eq_false_iff_ne.mpr c9; have c9b1 : (a1_1.toList != ([97] : List UInt8)) = true := bne_iff_ne.mpr c9; obtain rfl := Option.some.inj H; go_enter Tryd.func40, Tryd.ntmps40; go_wp2_with (first | ((with_reducible refine gx 3 rfl ?_); refine be (cs := #[.int .i64 a1_0, .string a1_1, .int .i64 a1_2, .int .i64 a1_3]) (t := 44) ?_; intro gb116 hg w12 hbox hb; have n0_ := hs HB hb; have n1_ := am (hbox); have n2_ := gs hg (bz HB.out); have n3_ := gs hg (bz HB.out); clear HB; revert n0_ n1_ n2_ n3_; intro HB BK116 GW116 GE116; clear hb hbox hg; have hz13 := zf4 BK116.out) | ((with_reducible refine gy 38 rfl ?_); refine gl Tryd.func38 #[.int .i64 a1_0, .int .i64 0, .int .i64 (wrap64 (a0 - 1))] ?_; (with_reducible refine (spec_l1In.calls a1_0 0 (wrap64 (a0 - 1)) true _ A3.out).mono ?_); rintro e w' ⟨rfl, ⟨nd, rfl⟩⟩; refine ⟨_, rfl, ?_⟩) | (go_at_call 38; (with_reducible refine (spec_l1In.calls a1_2 0 (wrap64 (a0 - 1)) true _ A5.out).mono ?_); rintro e w' ⟨rfl, ⟨nd, rfl⟩⟩) | (go_at_call 38; (with_reducible refine (spec_l1In.calls a1_3 0 3 true _ A7.out).mono ?_); rintro e w' ⟨rfl, ⟨nd, rfl⟩⟩)); go_ret; exact ⟨by first | rfl | (simp [errW_none, errW_some] <;> rfl) | (simp [*, errW_none, errW_some] <;> rfl), by exact bw HB.out⟩
   ·replace c8 := Bool.eq_false_iff.mpr c8; subst c8
    have H1 : (some false) = some r := by rw [if_neg (show ¬ (false = true) by decide)] at H; exact H
    clear H; have H := H1; clear H1; obtain rfl := Option.some.inj H; go_enter Tryd.func40, Tryd.ntmps40; go_wp2_with (first | ((with_reducible refine gx 3 rfl ?_); refine be (cs := #[.int .i64 a1_0, .string a1_1, .int .i64 a1_2, .int .i64 a1_3]) (t := 44) ?_; intro gb116 hg w14 hbox hb; have n0_ := hs HB hb; have n1_ := am (hbox); have n2_ := gs hg (bz HB.out); have n3_ := gs hg (bz HB.out); clear HB; revert n0_ n1_ n2_ n3_; intro HB BK116 GW116 GE116; clear hb hbox hg; have hz15 := zf4 BK116.out) | ((with_reducible refine gy 38 rfl ?_); refine gl Tryd.func38 #[.int .i64 a1_0, .int .i64 0, .int .i64 (wrap64 (a0 - 1))] ?_; (with_reducible refine (spec_l1In.calls a1_0 0 (wrap64 (a0 - 1)) true _ A3.out).mono ?_); rintro e w' ⟨rfl, ⟨nd, rfl⟩⟩; refine ⟨_, rfl, ?_⟩) | (go_at_call 38; (with_reducible refine (spec_l1In.calls a1_2 0 (wrap64 (a0 - 1)) true _ A5.out).mono ?_); rintro e w' ⟨rfl, ⟨nd, rfl⟩⟩) | (go_at_call 38; (with_reducible refine (spec_l1In.calls a1_3 0 3 false _ A7.out).mono ?_); rintro e w' ⟨rfl, ⟨nd, rfl⟩⟩)); go_ret; exact ⟨by first | rfl | (simp [errW_none, errW_some] <;> rfl) | (simp [*, errW_none, errW_some] <;> rfl), by exact bw HB.out⟩
  ·replace c6 := Bool.eq_false_iff.mpr c6; subst c6
   have H1 : (some false) = some r := by rw [if_neg (show ¬ (false = true) by decide)] at H; exact H
   clear H; have H := H1; clear H1; obtain rfl := Option.some.inj H; go_enter Tryd.func40, Tryd.ntmps40; go_wp2_with (first | ((with_reducible refine gx 3 rfl ?_); refine be (cs := #[.int .i64 a1_0, .string a1_1, .int .i64 a1_2, .int .i64 a1_3]) (t := 44) ?_; intro gb116 hg w16 hbox hb; have n0_ := hs HB hb; have n1_ := am (hbox); have n2_ := gs hg (bz HB.out); have n3_ := gs hg (bz HB.out); clear HB; revert n0_ n1_ n2_ n3_; intro HB BK116 GW116 GE116; clear hb hbox hg; have hz17 := zf4 BK116.out) | ((with_reducible refine gy 38 rfl ?_); refine gl Tryd.func38 #[.int .i64 a1_0, .int .i64 0, .int .i64 (wrap64 (a0 - 1))] ?_; (with_reducible refine (spec_l1In.calls a1_0 0 (wrap64 (a0 - 1)) true _ A3.out).mono ?_); rintro e w' ⟨rfl, ⟨nd, rfl⟩⟩; refine ⟨_, rfl, ?_⟩) | (go_at_call 38; (with_reducible refine (spec_l1In.calls a1_2 0 (wrap64 (a0 - 1)) false _ A5.out).mono ?_); rintro e w' ⟨rfl, ⟨nd, rfl⟩⟩)); go_ret; exact ⟨by first | rfl | (simp [errW_none, errW_some] <;> rfl) | (simp [*, errW_none, errW_some] <;> rfl), by exact bw HB.out⟩
 ·replace c4 := Bool.eq_false_iff.mpr c4; subst c4
  have H1 : (some false) = some r := by rw [if_neg (show ¬ (false = true) by decide)] at H; exact H
  clear H; have H := H1; clear H1; obtain rfl := Option.some.inj H; go_enter Tryd.func40, Tryd.ntmps40; go_wp2_with (first | ((with_reducible refine gx 3 rfl ?_); refine be (cs := #[.int .i64 a1_0, .string a1_1, .int .i64 a1_2, .int .i64 a1_3]) (t := 44) ?_; intro gb116 hg w18 hbox hb; have n0_ := hs HB hb; have n1_ := am (hbox); have n2_ := gs hg (bz HB.out); have n3_ := gs hg (bz HB.out); clear HB; revert n0_ n1_ n2_ n3_; intro HB BK116 GW116 GE116; clear hb hbox hg; have hz19 := zf4 BK116.out) | ((with_reducible refine gy 38 rfl ?_); refine gl Tryd.func38 #[.int .i64 a1_0, .int .i64 0, .int .i64 (wrap64 (a0 - 1))] ?_; (with_reducible refine (spec_l1In.calls a1_0 0 (wrap64 (a0 - 1)) false _ A3.out).mono ?_); rintro e w' ⟨rfl, ⟨nd, rfl⟩⟩; refine ⟨_, rfl, ?_⟩)); go_ret; exact ⟨by first | rfl | (simp [errW_none, errW_some] <;> rfl) | (simp [*, errW_none, errW_some] <;> rfl), by exact bw HB.out⟩

/-! ### spec_l3Before: function 41 -/
def spec_l3Before.f (a0_0 : Int) (a0_1 : ByteArray) (a0_2 : Int) (a0_3 : Int) (a1_0 : Int) (a1_1 : ByteArray) (a1_2 : Int) (a1_3 : Int) : Option (Bool) := if a0_0 = a1_0 then (if a0_1.toList = a1_1.toList then (some (decide (a0_2 < a1_2))) else (some (Op.bytesLess a0_1.toList a1_1.toList))) else (some (decide (a0_0 < a1_0)))
set_option maxHeartbeats 8000000 in
set_option maxRecDepth 100000 in
theorem spec_l3Before.calls (a0_0 : Int) (a0_1 : ByteArray) (a0_2 : Int) (a0_3 : Int) (a1_0 : Int) (a1_1 : ByteArray) (a1_2 : Int) (a1_3 : Int) (r : Bool) (w : World) (h : spec_l3Before.f a0_0 a0_1 a0_2 a0_3 a1_0 a1_1 a1_2 a1_3 = some r) :
  Calls Tryd.prog 41 #[.agg #[.int .i64 a0_0, .string a0_1, .int .i64 a0_2, .int .i64 a0_3], .agg #[.int .i64 a1_0, .string a1_1, .int .i64 a1_2, .int .i64 a1_3]] w fun e w' => e = .returned (.bool r) ∧ Below w.heap.size w w' := by
 have hu44 := Tryd.underlying44; have HB := am (Below.refl w.heap.size w); have H : (if a0_0 = a1_0 then (if a0_1.toList = a1_1.toList then (some (decide (a0_2 < a1_2))) else (some (Op.bytesLess a0_1.toList a1_1.toList))) else (some (decide (a0_0 < a1_0)))) = some r := h; clear h; by_cases c3 : a0_0 = a1_0
 ·rw [if_pos c3] at H; have c3b0 : (a0_0 == a1_0) = true := beq_iff_eq.mpr c3; have c3b1 : (a0_0 != a1_0) = false := bne_eq_false_iff_eq.mpr c3; clear c3; by_cases c4 : a0_1.toList = a1_1.toList
  ·rw [if_pos c4] at H; have c4b0 : (a0_1.toList == a1_1.toList) = true := beq_iff_eq.mpr c4; have c4b1 : (a0_1.toList != a1_1.toList) = false := bne_eq_false_iff_eq.mpr c4; clear c4; obtain rfl := Option.some.inj H; go_enter Tryd.func41, Tryd.ntmps41; go_wp2_with (first | ((with_reducible refine gx 2 rfl ?_); refine be (cs := #[.int .i64 a0_0, .string a0_1, .int .i64 a0_2, .int .i64 a0_3]) (t := 44) ?_; intro gb120 hg w5 hbox hb; have n0_ := hs HB hb; have n1_ := am (hbox); have n2_ := gs hg (bz HB.out); have n3_ := gs hg (bz HB.out); clear HB; revert n0_ n1_ n2_ n3_; intro HB BK120 GW120 GE120; clear hb hbox hg) | ((with_reducible refine gx 3 rfl ?_); refine be (cs := #[.int .i64 a1_0, .string a1_1, .int .i64 a1_2, .int .i64 a1_3]) (t := 44) ?_; intro gb121 hg w6 hbox hb; have n0_ := bk BK120 hb; have n1_ := hs HB hb; have n2_ := am (hbox); have n3_ := gs hg (bw HB.out); have n4_ := gs hg (bw HB.out); have n5_ := nl hg (kz BK120.out); have n6_ := nr hg (kz BK120.out); clear BK120 HB; revert n0_ n1_ n2_ n3_ n4_ n5_ n6_; intro BK120 HB BK121 GW121 GE121 NB120_121 NB121_120; clear hb hbox hg; have hnb7 := NB120_121.out; have hnc7 := NB121_120.out; have hz8 := zf4 BK120.out; have hz9 := zf4 BK121.out)); go_ret; exact ⟨by first | rfl | (simp [errW_none, errW_some] <;> rfl) | (simp [*, errW_none, errW_some] <;> rfl), by exact bw HB.out⟩
  ·rw [if_neg c4] at H; have c4b0 : (a0_1.toList == a1_1.toList) = false := beq_eq_false_iff_ne.mpr c4; have c4b1 : (a0_1.toList != a1_1.toList) = true := bne_iff_ne.mpr c4; obtain rfl := Option.some.inj H; go_enter Tryd.func41, Tryd.ntmps41; go_wp2_with (first | ((with_reducible refine gx 2 rfl ?_); refine be (cs := #[.int .i64 a0_0, .string a0_1, .int .i64 a0_2, .int .i64 a0_3]) (t := 44) ?_; intro gb120 hg w10 hbox hb; have n0_ := hs HB hb; have n1_ := am (hbox); have n2_ := gs hg (bz HB.out); have n3_ := gs hg (bz HB.out); clear HB; revert n0_ n1_ n2_ n3_; intro HB BK120 GW120 GE120; clear hb hbox hg) | ((with_reducible refine gx 3 rfl ?_); refine be (cs := #[.int .i64 a1_0, .string a1_1, .int .i64 a1_2, .int .i64 a1_3]) (t := 44) ?_; intro gb121 hg w11 hbox hb; have n0_ := bk BK120 hb; have n1_ := hs HB hb; have n2_ := am (hbox); have n3_ := gs hg (bw HB.out); have n4_ := gs hg (bw HB.out); have n5_ := nl hg (kz BK120.out); have n6_ := nr hg (kz BK120.out); clear BK120 HB; revert n0_ n1_ n2_ n3_ n4_ n5_ n6_; intro BK120 HB BK121 GW121 GE121 NB120_121 NB121_120; clear hb hbox hg; have hnb12 := NB120_121.out; have hnc12 := NB121_120.out; have hz13 := zf4 BK120.out; have hz14 := zf4 BK121.out)); go_ret; exact ⟨by first | rfl | (simp [errW_none, errW_some] <;> rfl) | (simp [*, errW_none, errW_some] <;> rfl), by exact bw HB.out⟩
 ·rw [if_neg c3] at H; have c3b0 : (a0_0 == a1_0) = false := beq_eq_false_iff_ne.mpr c3; have c3b1 : (a0_0 != a1_0) = true := bne_iff_ne.mpr c3; obtain rfl := Option.some.inj H; go_enter Tryd.func41, Tryd.ntmps41; go_wp2_with (first | ((with_reducible refine gx 2 rfl ?_); refine be (cs := #[.int .i64 a0_0, .string a0_1, .int .i64 a0_2, .int .i64 a0_3]) (t := 44) ?_; intro gb120 hg w15 hbox hb; have n0_ := hs HB hb; have n1_ := am (hbox); have n2_ := gs hg (bz HB.out); have n3_ := gs hg (bz HB.out); clear HB; revert n0_ n1_ n2_ n3_; intro HB BK120 GW120 GE120; clear hb hbox hg) | ((with_reducible refine gx 3 rfl ?_); refine be (cs := #[.int .i64 a1_0, .string a1_1, .int .i64 a1_2, .int .i64 a1_3]) (t := 44) ?_; intro gb121 hg w16 hbox hb; have n0_ := bk BK120 hb; have n1_ := hs HB hb; have n2_ := am (hbox); have n3_ := gs hg (bw HB.out); have n4_ := gs hg (bw HB.out); have n5_ := nl hg (kz BK120.out); have n6_ := nr hg (kz BK120.out); clear BK120 HB; revert n0_ n1_ n2_ n3_ n4_ n5_ n6_; intro BK120 HB BK121 GW121 GE121 NB120_121 NB121_120; clear hb hbox hg; have hnb17 := NB120_121.out; have hnc17 := NB121_120.out; have hz18 := zf4 BK120.out; have hz19 := zf4 BK121.out)); go_ret; exact ⟨by first | rfl | (simp [errW_none, errW_some] <;> rfl) | (simp [*, errW_none, errW_some] <;> rfl), by exact bw HB.out⟩

/-! ### spec_AutomatonValid: function 16 -/
mutual
def spec_AutomatonValid.j0 : Nat → Bool → Int → List Int → List Int → List (S44) → Option (Bool)
 | 0, _, _, _, _, _ => none
 | k + 1, x30, x123000, x123001, x123002, x123003 => if x30 = true then (some false) else (spec_AutomatonValid.l0 k x123003 (x123003.length : Int) 0 x123000 x123001 x123002 x123003)
def spec_AutomatonValid.l0 : Nat → List (S44) → Int → Int → Int → List Int → List Int → List (S44) → Option (Bool)
 | 0, _, _, _, _, _, _, _ => none
 | k + 1, x32, x33, x34, x123000, x123001, x123002, x123003 => if x34 < x33 then (if 0 ≤ x34 then (if x34 < (x32.length : Int) then ((spec_l3Step.f x123000 ((rd_T44 x32 x34).f0) ((rd_T44 x32 x34).f1) ((rd_T44 x32 x34).f2) ((rd_T44 x32 x34).f3)).bind fun t128 => (if t128 = true then (if x34 > 0 then (if 0 ≤ (wrap64 (x34 - 1)) then (if (wrap64 (x34 - 1)) < (x123003.length : Int) then ((spec_l3Before.f ((rd_T44 x123003 (wrap64 (x34 - 1))).f0) ((rd_T44 x123003 (wrap64 (x34 - 1))).f1) ((rd_T44 x123003 (wrap64 (x34 - 1))).f2) ((rd_T44 x123003 (wrap64 (x34 - 1))).f3) ((rd_T44 x32 x34).f0) ((rd_T44 x32 x34).f1) ((rd_T44 x32 x34).f2) ((rd_T44 x32 x34).f3)).bind fun t130 => (if t130 = true then (spec_AutomatonValid.l0 k x32 x33 (wrap64 (x34 + 1)) x123000 x123001 x123002 x123003) else (some false))) else (none)) else (none)) else (spec_AutomatonValid.l0 k x32 x33 (wrap64 (x34 + 1)) x123000 x123001 x123002 x123003)) else (some false))) else (none)) else (none)) else (some true)
end
def spec_AutomatonValid.f (k : Nat) (a0_0 : Int) (l0_1 : List Int) (l0_2 : List Int) (l0_3 : List (S44)) : Option (Bool) := (spec_l1In.f a0_0 1 4).bind fun t123 => (if t123 = true then ((spec_l3Marks.f k a0_0 l0_1).bind fun t124 => (if t124 = true then ((spec_l3Marks.f k a0_0 l0_2).bind fun t125 => (if t125 = true then (spec_AutomatonValid.j0 k (decide ((l0_3.length : Int) > 24)) a0_0 l0_1 l0_2 l0_3) else (spec_AutomatonValid.j0 k true a0_0 l0_1 l0_2 l0_3))) else (spec_AutomatonValid.j0 k true a0_0 l0_1 l0_2 l0_3))) else (spec_AutomatonValid.j0 k true a0_0 l0_1 l0_2 l0_3))
theorem spec_AutomatonValid.mono_l : ∀ k, (∀ y0 y1 y2 y3 y4, LeO (spec_AutomatonValid.j0 k y0 y1 y2 y3 y4) (spec_AutomatonValid.j0 (k + 1) y0 y1 y2 y3 y4)) ∧ (∀ y0 y1 y2 y3 y4 y5 y6, LeO (spec_AutomatonValid.l0 k y0 y1 y2 y3 y4 y5 y6) (spec_AutomatonValid.l0 (k + 1) y0 y1 y2 y3 y4 y5 y6))
 | 0 => ⟨fun _ _ _ _ _ r h => by simp [spec_AutomatonValid.j0] at h, fun _ _ _ _ _ _ _ r h => by simp [spec_AutomatonValid.l0] at h⟩
 | k + 1 => by
  obtain ⟨ih0, ih1⟩ := spec_AutomatonValid.mono_l k; refine ⟨?_, ?_⟩
  ·intro y0 y1 y2 y3 y4; unfold spec_AutomatonValid.j0; repeat' first
   | (with_reducible exact ih0 _ _ _ _ _)
   | (with_reducible exact ih1 _ _ _ _ _ _ _)
   | (with_reducible exact spec_l3Marks.mono _ _ _)
   | (with_reducible exact LeO.refl _)
   | (with_reducible exact LeO.none _)
   | (with_reducible refine LeO.ite ?_ ?_)
   | (with_reducible refine LeO.bind ?_ (fun _ => ?_))
   | exact ih0 _ _ _ _ _
   | exact ih1 _ _ _ _ _ _ _
   | exact spec_l3Marks.mono _ _ _
   | exact LeO.none _
   | refine LeO.ite ?_ ?_
   | refine LeO.bind ?_ (fun _ => ?_)
  ·intro y0 y1 y2 y3 y4 y5 y6; unfold spec_AutomatonValid.l0; repeat' first
   | (with_reducible exact ih0 _ _ _ _ _)
   | (with_reducible exact ih1 _ _ _ _ _ _ _)
   | (with_reducible exact spec_l3Marks.mono _ _ _)
   | (with_reducible exact LeO.refl _)
   | (with_reducible exact LeO.none _)
   | (with_reducible refine LeO.ite ?_ ?_)
   | (with_reducible refine LeO.bind ?_ (fun _ => ?_))
   | exact ih0 _ _ _ _ _
   | exact ih1 _ _ _ _ _ _ _
   | exact spec_l3Marks.mono _ _ _
   | exact LeO.none _
   | refine LeO.ite ?_ ?_
   | refine LeO.bind ?_ (fun _ => ?_)
theorem spec_AutomatonValid.mono : ∀ a0 a1 a2 a3 k, LeO (spec_AutomatonValid.f k a0 a1 a2 a3) (spec_AutomatonValid.f (k + 1) a0 a1 a2 a3) := by
 intro a0 a1 a2 a3 k; obtain ⟨ih0, ih1⟩ := spec_AutomatonValid.mono_l k; unfold spec_AutomatonValid.f; repeat' first
   | (with_reducible exact ih0 _ _ _ _ _)
   | (with_reducible exact ih1 _ _ _ _ _ _ _)
   | (with_reducible exact spec_l3Marks.mono _ _ _)
   | (with_reducible exact LeO.refl _)
   | (with_reducible exact LeO.none _)
   | (with_reducible refine LeO.ite ?_ ?_)
   | (with_reducible refine LeO.bind ?_ (fun _ => ?_))
   | exact ih0 _ _ _ _ _
   | exact ih1 _ _ _ _ _ _ _
   | exact spec_l3Marks.mono _ _ _
   | exact LeO.none _
   | refine LeO.ite ?_ ?_
   | refine LeO.bind ?_ (fun _ => ?_)
def spec_AutomatonValid.T6 : Bool × List (List Nat × List Nat) := (true, [([], []), ([0], [0]), ([], []), ([1, 2], [1, 2]), ([3], [3]), ([4, 3], [4]), ([5], [5]), ([6, 5], [5, 6]), ([7, 5, 5], [5, 7]), ([8], [8]), ([9, 8], [8, 9]), ([8], [8]), ([11, 8], [8, 11]), ([10, 12, 8], [8, 10, 12]), ([13, 8], [8, 13]), ([8], [8]), ([14, 15, 8, 8], [8, 14, 15]), ([16, 8], [8, 16]), ([8, 17, 5], [5, 8, 17]), ([5, 18], [5, 18])])
def spec_AutomatonValid.B6 : List Nat := [0, 1, 0, 7, 15, 31, 63, 127, 255, 511, 1023, 511, 2559, 8191, 16383, 511, 65535, 131071, 262143, 524287]
theorem spec_AutomatonValid.tab6 : rtab .any (opsOf Tryd.f16 6) = spec_AutomatonValid.T6 := by kernel_rfl
theorem spec_AutomatonValid.bits6 : waitsOk spec_AutomatonValid.T6.2 spec_AutomatonValid.B6 = true := by kernel_rfl
set_option maxHeartbeats 8000000 in
set_option maxRecDepth 100000 in
theorem spec_AutomatonValid.calls (k : Nat) (a0_0 : Int) (A0_1 : Option Addr) (c0_1 : Nat) (l0_1 : List Int) (A0_2 : Option Addr) (c0_2 : Nat) (l0_2 : List Int) (A0_3 : Option Addr) (c0_3 : Nat) (l0_3 : List (S44)) (r : Bool) (w : World) (hr0_1 : Kd.C (Kd.int .i64) w A0_1 l0_1.length l0_1) (hc0_1 : l0_1.length ≤ c0_1) (hr0_2 : Kd.C (Kd.int .i64) w A0_2 l0_2.length l0_2) (hc0_2 : l0_2.length ≤ c0_2) (hr0_3 : Kd.C k44 w A0_3 l0_3.length l0_3) (hc0_3 : l0_3.length ≤ c0_3) (h : spec_AutomatonValid.f k a0_0 l0_1 l0_2 l0_3 = some r) :
  Calls Tryd.prog 16 #[.agg #[.int .i64 a0_0, .slice A0_1 l0_1.length c0_1, .slice A0_2 l0_2.length c0_2, .slice A0_3 l0_3.length c0_3]] w fun e w' => e = .returned (.bool r) ∧ Below w.heap.size w w' := by
 have hu30 := Tryd.underlying30; have hu44 := Tryd.underlying44; have HR0_1 := am hr0_1; have HC0_1 := am hc0_1; clear hr0_1 hc0_1; have HR0_2 := am hr0_2; have HC0_2 := am hc0_2; clear hr0_2 hc0_2; have HR0_3 := am hr0_3; have HC0_3 := am hc0_3; clear hr0_3 hc0_3; have HB := am (Below.refl w.heap.size w); have H : ((spec_l1In.f a0_0 1 4).bind fun t123 => (if t123 = true then ((spec_l3Marks.f k a0_0 l0_1).bind fun t124 => (if t124 = true then ((spec_l3Marks.f k a0_0 l0_2).bind fun t125 => (if t125 = true then (spec_AutomatonValid.j0 k (decide ((l0_3.length : Int) > 24)) a0_0 l0_1 l0_2 l0_3) else (spec_AutomatonValid.j0 k true a0_0 l0_1 l0_2 l0_3))) else (spec_AutomatonValid.j0 k true a0_0 l0_1 l0_2 l0_3))) else (spec_AutomatonValid.j0 k true a0_0 l0_1 l0_2 l0_3))) = some r := h; clear h; have HC2 := am H; clear H; go_enter Tryd.func16, Tryd.ntmps16; go_upto_region 1 with (first | ((with_reducible refine gx 1 rfl ?_); (try (refine gate_guard (by rfl) ?_; dsimp only)); refine be (cs := #[.int .i64 a0_0, .slice A0_1 l0_1.length c0_1, .slice A0_2 l0_2.length c0_2, .slice A0_3 l0_3.length c0_3]) (t := 30) ?_; intro gb122 hg w3 hbox hb; have n0_ := hs HB hb; have n1_ := am (hbox); have n2_ := gs hg (bz HB.out); have n3_ := gs hg (bz HB.out); clear HB; revert n0_ n1_ n2_ n3_; intro HB BK122 GW122 GE122; clear hb hbox hg)); (try simp only [Act.put, List.setIfInBounds_toArray, List.set_cons_zero, List.set_cons_succ]); go_cut [30] (fun v30 wc => ∃ (kq : Nat) (x30_1 : Bool), v30 = .bool x30_1 ∧ Aside0 (spec_AutomatonValid.j0 kq x30_1 a0_0 l0_1 l0_2 l0_3 = some r) ∧ Aside0 (kq ≤ k) ∧ Aside0 (wc.heap[gb122]? = some (.cells #[.int .i64 a0_0, (.slice A0_1 l0_1.length c0_1), (.slice A0_2 l0_2.length c0_2), (.slice A0_3 l0_3.length c0_3)] 30 (0, 0))) ∧ Aside0 (Below w.heap.size w wc))
 case first =>
  have H := HC2.out; clear HC2; replace H := Option.bind_eq_some_iff.mp H; obtain ⟨t123, A40, H⟩ := H; (try dsimp only at H); have A4 := am A40; clear A40; by_cases c5 : t123 = true
  ·subst c5
   have H1 : ((spec_l3Marks.f k a0_0 l0_1).bind fun t124 => (if t124 = true then ((spec_l3Marks.f k a0_0 l0_2).bind fun t125 => (if t125 = true then (spec_AutomatonValid.j0 k (decide ((l0_3.length : Int) > 24)) a0_0 l0_1 l0_2 l0_3) else (spec_AutomatonValid.j0 k true a0_0 l0_1 l0_2 l0_3))) else (spec_AutomatonValid.j0 k true a0_0 l0_1 l0_2 l0_3))) = some r := by rw [if_pos rfl] at H; exact H
   clear H; have H := H1; clear H1; replace H := Option.bind_eq_some_iff.mp H; obtain ⟨t124, A60, H⟩ := H; (try dsimp only at H); have A6 := am A60; clear A60; by_cases c7 : t124 = true
   ·subst c7
    have H1 : ((spec_l3Marks.f k a0_0 l0_2).bind fun t125 => (if t125 = true then (spec_AutomatonValid.j0 k (decide ((l0_3.length : Int) > 24)) a0_0 l0_1 l0_2 l0_3) else (spec_AutomatonValid.j0 k true a0_0 l0_1 l0_2 l0_3))) = some r := by rw [if_pos rfl] at H; exact H
    clear H; have H := H1; clear H1; replace H := Option.bind_eq_some_iff.mp H; obtain ⟨t125, A80, H⟩ := H; (try dsimp only at H); have A8 := am A80; clear A80; by_cases c9 : t125 = true
    ·subst c9
     have H1 : (spec_AutomatonValid.j0 k (decide ((l0_3.length : Int) > 24)) a0_0 l0_1 l0_2 l0_3) = some r := by rw [if_pos rfl] at H; exact H
     clear H; have H := H1; clear H1; have H' := am H; clear H; have hz10 := zf4 BK122.out; go_wp2_with (first | ((with_reducible refine gy 38 rfl ?_); refine gl Tryd.func38 #[.int .i64 a0_0, .int .i64 1, .int .i64 4] ?_; (with_reducible refine (spec_l1In.calls a0_0 1 4 true _ A4.out).mono ?_); rintro e w' ⟨rfl, ⟨nd, rfl⟩⟩; refine ⟨_, rfl, ?_⟩) | (go_at_call 39; (with_reducible refine (spec_l3Marks.calls k a0_0 _ _ l0_1 true _ ?side1 ?side2 A6.out).mono ?_); (case side1 => exact cc (Kd.C_below HR0_1.out (bw HB.out))); (case side2 => exact HC0_1.out); rintro e w' ⟨rfl, ⟨nd, rfl⟩⟩) | (go_at_call 39; (with_reducible refine (spec_l3Marks.calls k a0_0 _ _ l0_2 true _ ?side1 ?side2 A8.out).mono ?_); (case side1 => exact cc (Kd.C_below HR0_2.out (bw HB.out))); (case side2 => exact HC0_2.out); rintro e w' ⟨rfl, ⟨nd, rfl⟩⟩)); go_meet
     case rel => exact ⟨_, (decide ((l0_3.length : Int) > 24)), (by first | rfl | (simp; done) | (simp [*]; done)), H', ⟨by first | omega | exact Nat.le_refl _⟩, ⟨kz BK122.out⟩, ⟨by exact bw HB.out⟩⟩
    ·replace c9 := Bool.eq_false_iff.mpr c9; subst c9
     have H1 : (spec_AutomatonValid.j0 k true a0_0 l0_1 l0_2 l0_3) = some r := by rw [if_neg (show ¬ (false = true) by decide)] at H; exact H
     clear H; have H := H1; clear H1; have H' := am H; clear H; have hz11 := zf4 BK122.out; go_wp2_with (first | ((with_reducible refine gy 38 rfl ?_); refine gl Tryd.func38 #[.int .i64 a0_0, .int .i64 1, .int .i64 4] ?_; (with_reducible refine (spec_l1In.calls a0_0 1 4 true _ A4.out).mono ?_); rintro e w' ⟨rfl, ⟨nd, rfl⟩⟩; refine ⟨_, rfl, ?_⟩) | (go_at_call 39; (with_reducible refine (spec_l3Marks.calls k a0_0 _ _ l0_1 true _ ?side1 ?side2 A6.out).mono ?_); (case side1 => exact cc (Kd.C_below HR0_1.out (bw HB.out))); (case side2 => exact HC0_1.out); rintro e w' ⟨rfl, ⟨nd, rfl⟩⟩) | (go_at_call 39; (with_reducible refine (spec_l3Marks.calls k a0_0 _ _ l0_2 false _ ?side1 ?side2 A8.out).mono ?_); (case side1 => exact cc (Kd.C_below HR0_2.out (bw HB.out))); (case side2 => exact HC0_2.out); rintro e w' ⟨rfl, ⟨nd, rfl⟩⟩)); go_meet
     case rel => exact ⟨_, (true), (by first | rfl | (simp; done) | (simp [*]; done)), H', ⟨by first | omega | exact Nat.le_refl _⟩, ⟨kz BK122.out⟩, ⟨by exact bw HB.out⟩⟩
   ·replace c7 := Bool.eq_false_iff.mpr c7; subst c7
    have H1 : (spec_AutomatonValid.j0 k true a0_0 l0_1 l0_2 l0_3) = some r := by rw [if_neg (show ¬ (false = true) by decide)] at H; exact H
    clear H; have H := H1; clear H1; have H' := am H; clear H; have hz12 := zf4 BK122.out; go_wp2_with (first | ((with_reducible refine gy 38 rfl ?_); refine gl Tryd.func38 #[.int .i64 a0_0, .int .i64 1, .int .i64 4] ?_; (with_reducible refine (spec_l1In.calls a0_0 1 4 true _ A4.out).mono ?_); rintro e w' ⟨rfl, ⟨nd, rfl⟩⟩; refine ⟨_, rfl, ?_⟩) | (go_at_call 39; (with_reducible refine (spec_l3Marks.calls k a0_0 _ _ l0_1 false _ ?side1 ?side2 A6.out).mono ?_); (case side1 => exact cc (Kd.C_below HR0_1.out (bw HB.out))); (case side2 => exact HC0_1.out); rintro e w' ⟨rfl, ⟨nd, rfl⟩⟩)); go_meet
    case rel => exact ⟨_, (true), (by first | rfl | (simp; done) | (simp [*]; done)), H', ⟨by first | omega | exact Nat.le_refl _⟩, ⟨kz BK122.out⟩, ⟨by exact bw HB.out⟩⟩
  ·replace c5 := Bool.eq_false_iff.mpr c5; subst c5
   have H1 : (spec_AutomatonValid.j0 k true a0_0 l0_1 l0_2 l0_3) = some r := by rw [if_neg (show ¬ (false = true) by decide)] at H; exact H
   clear H; have H := H1; clear H1; have H' := am H; clear H; have hz13 := zf4 BK122.out; go_wp2_with (first | ((with_reducible refine gy 38 rfl ?_); refine gl Tryd.func38 #[.int .i64 a0_0, .int .i64 1, .int .i64 4] ?_; (with_reducible refine (spec_l1In.calls a0_0 1 4 false _ A4.out).mono ?_); rintro e w' ⟨rfl, ⟨nd, rfl⟩⟩; refine ⟨_, rfl, ?_⟩)); go_meet
   case rel => exact ⟨_, (true), (by first | rfl | (simp; done) | (simp [*]; done)), H', ⟨by first | omega | exact Nat.le_refl _⟩, ⟨kz BK122.out⟩, ⟨by exact bw HB.out⟩⟩
 case rest =>
  clear HC2; (try clear c1); (try clear p2); (try clear c3); (try clear c5); (try clear c7); (try clear c9); obtain ⟨kq, x30_1, rfl, HA, HJ1, BK122, HB⟩ := hcut
  cases kq with
  | zero => exact absurd HA.out (by simp [spec_AutomatonValid.j0])
  | succ kj1 =>
   have H := HA.out; clear HA; simp only [spec_AutomatonValid.j0] at H; by_cases c14 : x30_1 = true
   ·subst c14
    have H1 : (some false) = some r := by rw [if_pos rfl] at H; exact H
    clear H; have H := H1; clear H1; obtain rfl := Option.some.inj H; go_wp2; go_ret; exact ⟨by first | rfl | (simp [errW_none, errW_some] <;> rfl) | (simp [*, errW_none, errW_some] <;> rfl), by exact bw HB.out⟩
   ·replace c14 := Bool.eq_false_iff.mpr c14; subst c14
    have H1 : (spec_AutomatonValid.l0 kj1 l0_3 (l0_3.length : Int) 0 a0_0 l0_1 l0_2 l0_3) = some r := by rw [if_neg (show ¬ (false = true) by decide)] at H; exact H
    clear H; have H := H1; clear H1; have H' := am H; clear H; have hz15 := zf4 BK122.out; go_wp2; go_loopg [34] kj1 (fun kq v34 w' => ∃ (x34_2 : Int), v34 = .int .i64 x34_2 ∧ Aside0 (spec_AutomatonValid.l0 kq l0_3 (l0_3.length : Int) x34_2 a0_0 l0_1 l0_2 l0_3 = some r) ∧ Aside0 (kq ≤ kj1) ∧ Aside0 (w'.heap[gb122]? = some (.cells #[.int .i64 a0_0, (.slice A0_1 l0_1.length c0_1), (.slice A0_2 l0_2.length c0_2), (.slice A0_3 l0_3.length c0_3)] 30 (0, 0))) ∧ Aside0 (Below w.heap.size w w'))
    case atStart => exact ⟨(0), (by first | rfl | (simp; done) | (simp [*]; done)), H', ⟨Nat.le_refl _⟩, ⟨kz BK122.out⟩, ⟨by exact bw HB.out⟩⟩
    case round =>
     clear H'; (try clear c1); (try clear p2); (try clear c3); (try clear c5); (try clear c7); (try clear c9); (try clear c14); (try clear p2); obtain ⟨x34_2, rfl, HA, HK2, BK122, HB⟩ := hrel
     cases gk with
     | zero => exact absurd HA.out (by simp [spec_AutomatonValid.l0])
     | succ k2 =>
      have H := HA.out; clear HA; simp only [spec_AutomatonValid.l0] at H; by_cases c16 : x34_2 < (l0_3.length : Int)
      ·rw [if_pos c16] at H; have c16b0 : decide (x34_2 < (l0_3.length : Int)) = true := decide_eq_true c16; clear c16; by_cases c17 : 0 ≤ x34_2
       ·rw [if_pos c17] at H; have c17b0 : decide (0 ≤ x34_2) = true := decide_eq_true c17; clear c17; by_cases c18 : x34_2 < (l0_3.length : Int)
        ·rw [if_pos c18] at H; have c18b0 : decide (x34_2 < (l0_3.length : Int)) = true := decide_eq_true c18; clear c18; replace H := Option.bind_eq_some_iff.mp H; obtain ⟨t128, A190, H⟩ := H; (try dsimp only at H); have A19 := am A190; clear A190; by_cases c20 : t128 = true
         ·subst c20
          have H1 : (if x34_2 > 0 then (if 0 ≤ (wrap64 (x34_2 - 1)) then (if (wrap64 (x34_2 - 1)) < (l0_3.length : Int) then ((spec_l3Before.f ((rd_T44 l0_3 (wrap64 (x34_2 - 1))).f0) ((rd_T44 l0_3 (wrap64 (x34_2 - 1))).f1) ((rd_T44 l0_3 (wrap64 (x34_2 - 1))).f2) ((rd_T44 l0_3 (wrap64 (x34_2 - 1))).f3) ((rd_T44 l0_3 x34_2).f0) ((rd_T44 l0_3 x34_2).f1) ((rd_T44 l0_3 x34_2).f2) ((rd_T44 l0_3 x34_2).f3)).bind fun t130 => (if t130 = true then (spec_AutomatonValid.l0 k2 l0_3 (l0_3.length : Int) (wrap64 (x34_2 + 1)) a0_0 l0_1 l0_2 l0_3) else (some false))) else (none)) else (none)) else (spec_AutomatonValid.l0 k2 l0_3 (l0_3.length : Int) (wrap64 (x34_2 + 1)) a0_0 l0_1 l0_2 l0_3)) = some r := by rw [if_pos rfl] at H; exact H
          clear H; have H := H1; clear H1; by_cases c21 : x34_2 > 0
          ·rw [if_pos c21] at H; have c21b0 : decide (0 < x34_2) = true := decide_eq_true c21; clear c21; obtain ⟨ji22, hji22⟩ : ∃ j_ : Int, (wrap64 (x34_2 - 1)) = j_ := ⟨_, rfl⟩
           replace H : (if 0 ≤ (ji22) then (if (ji22) < (l0_3.length : Int) then ((spec_l3Before.f ((rd_T44 l0_3 (ji22)).f0) ((rd_T44 l0_3 (ji22)).f1) ((rd_T44 l0_3 (ji22)).f2) ((rd_T44 l0_3 (ji22)).f3) ((rd_T44 l0_3 x34_2).f0) ((rd_T44 l0_3 x34_2).f1) ((rd_T44 l0_3 x34_2).f2) ((rd_T44 l0_3 x34_2).f3)).bind fun t130 => (if t130 = true then (spec_AutomatonValid.l0 k2 l0_3 (l0_3.length : Int) (wrap64 (x34_2 + 1)) a0_0 l0_1 l0_2 l0_3) else (some false))) else (none)) else (none)) = some r := by first | (rw [hji22] at H; exact H) | (simp only [hji22] at H ⊢; exact H)
           (try rw [hji22] at A19); have hji22w : (IntKind.i64.wrap (x34_2 - 1)) = ji22 := (i64_w _).trans hji22; by_cases c23 : 0 ≤ (ji22)
           ·rw [if_pos c23] at H; have c23b0 : decide (0 ≤ (ji22)) = true := decide_eq_true c23; clear c23; by_cases c24 : (ji22) < (l0_3.length : Int)
            ·rw [if_pos c24] at H; have c24b0 : decide ((ji22) < (l0_3.length : Int)) = true := decide_eq_true c24; clear c24; replace H := Option.bind_eq_some_iff.mp H; obtain ⟨t130, A250, H⟩ := H; (try dsimp only at H); have A25 := am A250; clear A250; by_cases c26 : t130 = true
             ·subst c26
              have H1 : (spec_AutomatonValid.l0 k2 l0_3 (l0_3.length : Int) (wrap64 (x34_2 + 1)) a0_0 l0_1 l0_2 l0_3) = some r := by rw [if_pos rfl] at H; exact H
              clear H; have H := H1; clear H1; have H' := am H; clear H; have p126 : 0 ≤ (x34_2 : Int) := da; have q126 : x34_2 < (l0_3.length : Int) := da; obtain ⟨ad126, e126, hx126_0, hx126_1, hx126_2, hx126_3⟩ := at_T44 HR0_3.out x34_2 p126 q126; cases e126; replace hx126_0 := lx (bw HB.out) hx126_0; replace hx126_1 := lx (bw HB.out) hx126_1; replace hx126_2 := lx (bw HB.out) hx126_2; replace hx126_3 := lx (bw HB.out) hx126_3; replace p126 := eq_true p126; replace q126 := eq_true q126; (try go_wp2_with (first | ((with_reducible refine gx 4 rfl ?_); (try (refine gate_guard (by rfl) ?_; dsimp only)); refine be (cs := #[.int .i64 0, .string (⟨#[]⟩ : ByteArray), .int .i64 0, .int .i64 0]) (t := 44) ?_; intro gb127 hg w27 hbox hb; have n0_ := bk BK122 hb; have n1_ := hs HB hb; have n2_ := am (hbox); have n3_ := gs hg (bw HB.out); have n4_ := gs hg (bw HB.out); have n5_ := nl hg (kz BK122.out); have n6_ := nr hg (kz BK122.out); clear BK122 HB; revert n0_ n1_ n2_ n3_ n4_ n5_ n6_; intro BK122 HB BK127 GW127 GE127 NB122_127 NB127_122; clear hb hbox hg; have hnb28 := NB127_122.out; have hnc28 := NB122_127.out; have hz29 := zf4 BK127.out))); generalize hW_ : ((((w27.setCell ⟨gb127, 0, none⟩ (.int .i64 ((rd_T44 l0_3 x34_2).f0))).setCell ⟨gb127, 1, none⟩ (.string ((rd_T44 l0_3 x34_2).f1))).setCell ⟨gb127, 2, none⟩ (.int .i64 ((rd_T44 l0_3 x34_2).f2))).setCell ⟨gb127, 3, none⟩ (.int .i64 ((rd_T44 l0_3 x34_2).f3))) = w30; have n0_ : Aside0 (w30.heap[gb122]? = some (.cells #[.int .i64 a0_0, .slice A0_1 l0_1.length c0_1, .slice A0_2 l0_2.length c0_2, .slice (some ad126) l0_3.length c0_3] 30 (0, 0))) := ⟨by rw [← hW_]; exact kp BK122.out⟩; have n1_ : Aside0 (w30.heap[gb127]? = some (.cells #[.int .i64 ((rd_T44 l0_3 x34_2).f0), .string ((rd_T44 l0_3 x34_2).f1), .int .i64 ((rd_T44 l0_3 x34_2).f2), .int .i64 ((rd_T44 l0_3 x34_2).f3)] 44 (0, 0))) := ⟨by rw [← hW_]; exact kp BK127.out⟩; have n2_ : Aside0 (Below w.heap.size w w30) := ⟨by rw [← hW_]; exact bw HB.out⟩; (try clear BK122); (try clear BK127); (try clear HB); clear hW_; revert n0_ n1_ n2_; intro BK122 BK127 HB; have n0_ := am (blk_drew BK122.out); have n1_ := am (blk_drew BK127.out); have n2_ := am (below_drew1 HB.out); clear BK122 BK127 HB; revert n0_ n1_ n2_; intro BK122 BK127 HB; have p129 : 0 ≤ ((ji22) : Int) := da; have q129 : (ji22) < (l0_3.length : Int) := da; obtain ⟨ad129, e129, hx129_0, hx129_1, hx129_2, hx129_3⟩ := at_T44 HR0_3.out (ji22) p129 q129; have hw129_3 := hx129_3; have hw129_2 := hx129_2; have hw129_1 := hx129_1; have hw129_0 := hx129_0; obtain rfl : ad126 = ad129 := (by injection e129); replace hx129_0 := lx (bw HB.out) hx129_0; replace hx129_1 := lx (bw HB.out) hx129_1; replace hx129_2 := lx (bw HB.out) hx129_2; replace hx129_3 := lx (bw HB.out) hx129_3; replace p129 := eq_true p129; replace q129 := eq_true q129; refine start_ (n := 20) (S := fun w' => w'.cell? ⟨gb122, 0, none⟩ = some (.int .i64 a0_0) ∧ w'.cell? ⟨gb122, 1, none⟩ = some (.slice A0_1 l0_1.length c0_1) ∧ w'.cell? ⟨gb122, 2, none⟩ = some (.slice A0_2 l0_2.length c0_2) ∧ w'.cell? ⟨gb122, 3, none⟩ = some (.slice (some ad126) l0_3.length c0_3) ∧ w'.cell? ⟨gb127, 0, none⟩ = some (.int .i64 ((rd_T44 l0_3 x34_2).f0)) ∧ w'.cell? ⟨gb127, 1, none⟩ = some (.string ((rd_T44 l0_3 x34_2).f1)) ∧ w'.cell? ⟨gb127, 2, none⟩ = some (.int .i64 ((rd_T44 l0_3 x34_2).f2)) ∧ w'.cell? ⟨gb127, 3, none⟩ = some (.int .i64 ((rd_T44 l0_3 x34_2).f3)) ∧ w'.cell? (ad126.add (((ji22)).toNat * 4)) = some (.int .i64 ((rd_T44 l0_3 (ji22)).f0)) ∧ w'.cell? ⟨(ad126.add (((ji22)).toNat * 4)).block, (ad126.add (((ji22)).toNat * 4)).off + 1, none⟩ = some (.string ((rd_T44 l0_3 (ji22)).f1)) ∧ w'.cell? ⟨(ad126.add (((ji22)).toNat * 4)).block, (ad126.add (((ji22)).toNat * 4)).off + 2, none⟩ = some (.int .i64 ((rd_T44 l0_3 (ji22)).f2)) ∧ w'.cell? ⟨(ad126.add (((ji22)).toNat * 4)).block, (ad126.add (((ji22)).toNat * 4)).off + 3, none⟩ = some (.int .i64 ((rd_T44 l0_3 (ji22)).f3))) (ds := []) (mkp 20 0) (by kernel_rfl) rfl rfl ⟨bl BK122.out 0, bl BK122.out 1, bl BK122.out 2, bl BK122.out 3, bl BK127.out 0, bl BK127.out 1, bl BK127.out 2, bl BK127.out 3, (lx (bw HB.out) hw129_0), (lx (bw HB.out) hw129_1), (lx (bw HB.out) hw129_2), (lx (bw HB.out) hw129_3)⟩ (fun hHeld => ?_); refine with_tabW spec_AutomatonValid.tab6 spec_AutomatonValid.bits6 (fun HT_ HW_ => ?_); generalize w30.drew = w31 at BK122 BK127 HB hx129_0 hx129_1 hx129_2 hx129_3 hHeld ⊢; (iterate 3 (first | refine qv HT_ ?_ | refine tk HT_ HW_ hHeld ?_)); refine on 3 (mkp 20 4) HT_ (fun K hK => ?_); refine gr Tryd.func40 #[.int .i64 a0_0, .agg #[.int .i64 ((rd_T44 l0_3 x34_2).f0), .string ((rd_T44 l0_3 x34_2).f1), .int .i64 ((rd_T44 l0_3 x34_2).f2), .int .i64 ((rd_T44 l0_3 x34_2).f3)]] ?_
              with_reducible refine (spec_l3Step.calls a0_0 ((rd_T44 l0_3 x34_2).f0) ((rd_T44 l0_3 x34_2).f1) ((rd_T44 l0_3 x34_2).f2) ((rd_T44 l0_3 x34_2).f3) true _ A19.out).mono ?_
              rintro e w32 ⟨rfl, hb⟩; refine ⟨_, rfl, ?_⟩; have n0_ := bk BK122 hb; have n1_ := bk BK127 hb; have n2_ := hs HB hb; clear BK122 BK127 HB; revert n0_ n1_ n2_; intro BK122 BK127 HB; (try clear hb); (try clear hb2); (try clear hk); (try clear hi); refine hK.out _ _ ⟨bl BK122.out 0, bl BK122.out 1, bl BK122.out 2, bl BK122.out 3, bl BK127.out 0, bl BK127.out 1, bl BK127.out 2, bl BK127.out 3, (lx (bw HB.out) hw129_0), (lx (bw HB.out) hw129_1), (lx (bw HB.out) hw129_2), (lx (bw HB.out) hw129_3)⟩ (fun hHeld => ?_); clear hK K; refine norm_ (a' := ?_) ?_ ?_; rotate_left
              ·show Act.put _ (some 42) _ = _; simp only [Act.put, List.setIfInBounds_toArray, List.set_cons_zero, List.set_cons_succ, i64_w, i32_w]; rfl
              (iterate 6 refine qv HT_ ?_); refine pv 11 50 20 3071 HT_ ?_; refine pv 12 51 20 7167 HT_ ?_; refine tkm 10 49 (mkp 20 13) HT_ HW_ hHeld ?_; (iterate 3 (first | refine qv HT_ ?_ | refine tk HT_ HW_ hHeld ?_)); refine on 16 (mkp 20 17) HT_ (fun K hK => ?_); refine goes_ Tryd.func41 (by kernel_rfl) rfl #[.agg #[.int .i64 ((rd_T44 l0_3 (ji22)).f0), .string ((rd_T44 l0_3 (ji22)).f1), .int .i64 ((rd_T44 l0_3 (ji22)).f2), .int .i64 ((rd_T44 l0_3 (ji22)).f3)], .agg #[.int .i64 ((rd_T44 l0_3 x34_2).f0), .string ((rd_T44 l0_3 x34_2).f1), .int .i64 ((rd_T44 l0_3 x34_2).f2), .int .i64 ((rd_T44 l0_3 x34_2).f3)]] (by rfl) rfl rfl (by (try simp only [List.map_toArray, List.map_cons, List.map_nil]); first | done | (simp only [hji22]; rfl) | rfl | (simp only [List.length_drop, List.length_take]; rfl)) ?_
              with_reducible refine (spec_l3Before.calls ((rd_T44 l0_3 (ji22)).f0) ((rd_T44 l0_3 (ji22)).f1) ((rd_T44 l0_3 (ji22)).f2) ((rd_T44 l0_3 (ji22)).f3) ((rd_T44 l0_3 x34_2).f0) ((rd_T44 l0_3 x34_2).f1) ((rd_T44 l0_3 x34_2).f2) ((rd_T44 l0_3 x34_2).f3) true _ A25.out).mono ?_
              rintro e w33 ⟨rfl, hb⟩; refine ⟨_, rfl, ?_⟩; have n0_ := bk BK122 hb; have n1_ := bk BK127 hb; have n2_ := hs HB hb; clear BK122 BK127 HB; revert n0_ n1_ n2_; intro BK122 BK127 HB; (try clear hb); (try clear hb2); (try clear hk); (try clear hi); refine hK.out _ _ ⟨bl BK122.out 0, bl BK122.out 1, bl BK122.out 2, bl BK122.out 3, bl BK127.out 0, bl BK127.out 1, bl BK127.out 2, bl BK127.out 3, (lx (bw HB.out) hw129_0), (lx (bw HB.out) hw129_1), (lx (bw HB.out) hw129_2), (lx (bw HB.out) hw129_3)⟩ (fun hHeld => ?_); clear hK K; refine norm_ (a' := ?_) ?_ ?_; rotate_left
              ·show Act.put _ (some 55) _ = _; simp only [Act.put, List.setIfInBounds_toArray, List.set_cons_zero, List.set_cons_succ, i64_w, i32_w]; rfl
              (iterate 3 refine qv HT_ ?_); refine done_ (done_of HT_.out (by kernel_rfl)) ?_; (try go_wp2); go_roundg k2
              case measure => have := HJ1.out; have := HK2.out; omega
              case rel => exact ⟨(wrap64 (x34_2 + 1)), (by first | rfl | (simp; done) | (simp [*]; done)), H', ⟨by have := HJ1.out; have := HK2.out; omega⟩, ⟨kz BK122.out⟩, ⟨by exact bw HB.out⟩⟩
             ·replace c26 := Bool.eq_false_iff.mpr c26; subst c26
              have H1 : (some false) = some r := by rw [if_neg (show ¬ (false = true) by decide)] at H; exact H
              clear H; have H := H1; clear H1; obtain rfl := Option.some.inj H; have p126 : 0 ≤ (x34_2 : Int) := da; have q126 : x34_2 < (l0_3.length : Int) := da; obtain ⟨ad126, e126, hx126_0, hx126_1, hx126_2, hx126_3⟩ := at_T44 HR0_3.out x34_2 p126 q126; cases e126; replace hx126_0 := lx (bw HB.out) hx126_0; replace hx126_1 := lx (bw HB.out) hx126_1; replace hx126_2 := lx (bw HB.out) hx126_2; replace hx126_3 := lx (bw HB.out) hx126_3; replace p126 := eq_true p126; replace q126 := eq_true q126; (try go_wp2_with (first | ((with_reducible refine gx 4 rfl ?_); (try (refine gate_guard (by rfl) ?_; dsimp only)); refine be (cs := #[.int .i64 0, .string (⟨#[]⟩ : ByteArray), .int .i64 0, .int .i64 0]) (t := 44) ?_; intro gb127 hg w34 hbox hb; have n0_ := bk BK122 hb; have n1_ := hs HB hb; have n2_ := am (hbox); have n3_ := gs hg (bw HB.out); have n4_ := gs hg (bw HB.out); have n5_ := nl hg (kz BK122.out); have n6_ := nr hg (kz BK122.out); clear BK122 HB; revert n0_ n1_ n2_ n3_ n4_ n5_ n6_; intro BK122 HB BK127 GW127 GE127 NB122_127 NB127_122; clear hb hbox hg; have hnb35 := NB127_122.out; have hnc35 := NB122_127.out; have hz36 := zf4 BK127.out))); generalize hW_ : ((((w34.setCell ⟨gb127, 0, none⟩ (.int .i64 ((rd_T44 l0_3 x34_2).f0))).setCell ⟨gb127, 1, none⟩ (.string ((rd_T44 l0_3 x34_2).f1))).setCell ⟨gb127, 2, none⟩ (.int .i64 ((rd_T44 l0_3 x34_2).f2))).setCell ⟨gb127, 3, none⟩ (.int .i64 ((rd_T44 l0_3 x34_2).f3))) = w37; have n0_ : Aside0 (w37.heap[gb122]? = some (.cells #[.int .i64 a0_0, .slice A0_1 l0_1.length c0_1, .slice A0_2 l0_2.length c0_2, .slice (some ad126) l0_3.length c0_3] 30 (0, 0))) := ⟨by rw [← hW_]; exact kp BK122.out⟩; have n1_ : Aside0 (w37.heap[gb127]? = some (.cells #[.int .i64 ((rd_T44 l0_3 x34_2).f0), .string ((rd_T44 l0_3 x34_2).f1), .int .i64 ((rd_T44 l0_3 x34_2).f2), .int .i64 ((rd_T44 l0_3 x34_2).f3)] 44 (0, 0))) := ⟨by rw [← hW_]; exact kp BK127.out⟩; have n2_ : Aside0 (Below w.heap.size w w37) := ⟨by rw [← hW_]; exact bw HB.out⟩; (try clear BK122); (try clear BK127); (try clear HB); clear hW_; revert n0_ n1_ n2_; intro BK122 BK127 HB; have n0_ := am (blk_drew BK122.out); have n1_ := am (blk_drew BK127.out); have n2_ := am (below_drew1 HB.out); clear BK122 BK127 HB; revert n0_ n1_ n2_; intro BK122 BK127 HB; have p129 : 0 ≤ ((ji22) : Int) := da; have q129 : (ji22) < (l0_3.length : Int) := da; obtain ⟨ad129, e129, hx129_0, hx129_1, hx129_2, hx129_3⟩ := at_T44 HR0_3.out (ji22) p129 q129; have hw129_3 := hx129_3; have hw129_2 := hx129_2; have hw129_1 := hx129_1; have hw129_0 := hx129_0; obtain rfl : ad126 = ad129 := (by injection e129); replace hx129_0 := lx (bw HB.out) hx129_0; replace hx129_1 := lx (bw HB.out) hx129_1; replace hx129_2 := lx (bw HB.out) hx129_2; replace hx129_3 := lx (bw HB.out) hx129_3; replace p129 := eq_true p129; replace q129 := eq_true q129; refine start_ (n := 20) (S := fun w' => w'.cell? ⟨gb122, 0, none⟩ = some (.int .i64 a0_0) ∧ w'.cell? ⟨gb122, 1, none⟩ = some (.slice A0_1 l0_1.length c0_1) ∧ w'.cell? ⟨gb122, 2, none⟩ = some (.slice A0_2 l0_2.length c0_2) ∧ w'.cell? ⟨gb122, 3, none⟩ = some (.slice (some ad126) l0_3.length c0_3) ∧ w'.cell? ⟨gb127, 0, none⟩ = some (.int .i64 ((rd_T44 l0_3 x34_2).f0)) ∧ w'.cell? ⟨gb127, 1, none⟩ = some (.string ((rd_T44 l0_3 x34_2).f1)) ∧ w'.cell? ⟨gb127, 2, none⟩ = some (.int .i64 ((rd_T44 l0_3 x34_2).f2)) ∧ w'.cell? ⟨gb127, 3, none⟩ = some (.int .i64 ((rd_T44 l0_3 x34_2).f3)) ∧ w'.cell? (ad126.add (((ji22)).toNat * 4)) = some (.int .i64 ((rd_T44 l0_3 (ji22)).f0)) ∧ w'.cell? ⟨(ad126.add (((ji22)).toNat * 4)).block, (ad126.add (((ji22)).toNat * 4)).off + 1, none⟩ = some (.string ((rd_T44 l0_3 (ji22)).f1)) ∧ w'.cell? ⟨(ad126.add (((ji22)).toNat * 4)).block, (ad126.add (((ji22)).toNat * 4)).off + 2, none⟩ = some (.int .i64 ((rd_T44 l0_3 (ji22)).f2)) ∧ w'.cell? ⟨(ad126.add (((ji22)).toNat * 4)).block, (ad126.add (((ji22)).toNat * 4)).off + 3, none⟩ = some (.int .i64 ((rd_T44 l0_3 (ji22)).f3))) (ds := []) (mkp 20 0) (by kernel_rfl) rfl rfl ⟨bl BK122.out 0, bl BK122.out 1, bl BK122.out 2, bl BK122.out 3, bl BK127.out 0, bl BK127.out 1, bl BK127.out 2, bl BK127.out 3, (lx (bw HB.out) hw129_0), (lx (bw HB.out) hw129_1), (lx (bw HB.out) hw129_2), (lx (bw HB.out) hw129_3)⟩ (fun hHeld => ?_); refine with_tabW spec_AutomatonValid.tab6 spec_AutomatonValid.bits6 (fun HT_ HW_ => ?_); generalize w37.drew = w38 at BK122 BK127 HB hx129_0 hx129_1 hx129_2 hx129_3 hHeld ⊢; (iterate 3 (first | refine qv HT_ ?_ | refine tk HT_ HW_ hHeld ?_)); refine on 3 (mkp 20 4) HT_ (fun K hK => ?_); refine gr Tryd.func40 #[.int .i64 a0_0, .agg #[.int .i64 ((rd_T44 l0_3 x34_2).f0), .string ((rd_T44 l0_3 x34_2).f1), .int .i64 ((rd_T44 l0_3 x34_2).f2), .int .i64 ((rd_T44 l0_3 x34_2).f3)]] ?_
              with_reducible refine (spec_l3Step.calls a0_0 ((rd_T44 l0_3 x34_2).f0) ((rd_T44 l0_3 x34_2).f1) ((rd_T44 l0_3 x34_2).f2) ((rd_T44 l0_3 x34_2).f3) true _ A19.out).mono ?_
              rintro e w39 ⟨rfl, hb⟩; refine ⟨_, rfl, ?_⟩; have n0_ := bk BK122 hb; have n1_ := bk BK127 hb; have n2_ := hs HB hb; clear BK122 BK127 HB; revert n0_ n1_ n2_; intro BK122 BK127 HB; (try clear hb); (try clear hb2); (try clear hk); (try clear hi); refine hK.out _ _ ⟨bl BK122.out 0, bl BK122.out 1, bl BK122.out 2, bl BK122.out 3, bl BK127.out 0, bl BK127.out 1, bl BK127.out 2, bl BK127.out 3, (lx (bw HB.out) hw129_0), (lx (bw HB.out) hw129_1), (lx (bw HB.out) hw129_2), (lx (bw HB.out) hw129_3)⟩ (fun hHeld => ?_); clear hK K; refine norm_ (a' := ?_) ?_ ?_; rotate_left
              ·show Act.put _ (some 42) _ = _; simp only [Act.put, List.setIfInBounds_toArray, List.set_cons_zero, List.set_cons_succ, i64_w, i32_w]; rfl
              (iterate 6 refine qv HT_ ?_); refine pv 11 50 20 3071 HT_ ?_; refine pv 12 51 20 7167 HT_ ?_; refine tkm 10 49 (mkp 20 13) HT_ HW_ hHeld ?_; (iterate 3 (first | refine qv HT_ ?_ | refine tk HT_ HW_ hHeld ?_)); refine on 16 (mkp 20 17) HT_ (fun K hK => ?_); refine goes_ Tryd.func41 (by kernel_rfl) rfl #[.agg #[.int .i64 ((rd_T44 l0_3 (ji22)).f0), .string ((rd_T44 l0_3 (ji22)).f1), .int .i64 ((rd_T44 l0_3 (ji22)).f2), .int .i64 ((rd_T44 l0_3 (ji22)).f3)], .agg #[.int .i64 ((rd_T44 l0_3 x34_2).f0), .string ((rd_T44 l0_3 x34_2).f1), .int .i64 ((rd_T44 l0_3 x34_2).f2), .int .i64 ((rd_T44 l0_3 x34_2).f3)]] (by rfl) rfl rfl (by (try simp only [List.map_toArray, List.map_cons, List.map_nil]); first | done | (simp only [hji22]; rfl) | rfl | (simp only [List.length_drop, List.length_take]; rfl)) ?_
              with_reducible refine (spec_l3Before.calls ((rd_T44 l0_3 (ji22)).f0) ((rd_T44 l0_3 (ji22)).f1) ((rd_T44 l0_3 (ji22)).f2) ((rd_T44 l0_3 (ji22)).f3) ((rd_T44 l0_3 x34_2).f0) ((rd_T44 l0_3 x34_2).f1) ((rd_T44 l0_3 x34_2).f2) ((rd_T44 l0_3 x34_2).f3) false _ A25.out).mono ?_
              rintro e w40 ⟨rfl, hb⟩; refine ⟨_, rfl, ?_⟩; have n0_ := bk BK122 hb; have n1_ := bk BK127 hb; have n2_ := hs HB hb; clear BK122 BK127 HB; revert n0_ n1_ n2_; intro BK122 BK127 HB; (try clear hb); (try clear hb2); (try clear hk); (try clear hi); refine hK.out _ _ ⟨bl BK122.out 0, bl BK122.out 1, bl BK122.out 2, bl BK122.out 3, bl BK127.out 0, bl BK127.out 1, bl BK127.out 2, bl BK127.out 3, (lx (bw HB.out) hw129_0), (lx (bw HB.out) hw129_1), (lx (bw HB.out) hw129_2), (lx (bw HB.out) hw129_3)⟩ (fun hHeld => ?_); clear hK K; refine norm_ (a' := ?_) ?_ ?_; rotate_left
              ·show Act.put _ (some 55) _ = _; simp only [Act.put, List.setIfInBounds_toArray, List.set_cons_zero, List.set_cons_succ, i64_w, i32_w]; rfl
              (iterate 3 refine qv HT_ ?_); refine done_ (done_of HT_.out (by kernel_rfl)) ?_; (try go_wp2); go_ret; exact ⟨by first | rfl | (simp [errW_none, errW_some] <;> rfl) | (simp only [← hji22]; first | rfl | (simp [errW_none, errW_some] <;> rfl)) | (simp [*, errW_none, errW_some] <;> rfl), by exact bw HB.out⟩
            ·rw [if_neg c24] at H; exact absurd H (by simp)
           ·rw [if_neg c23] at H; exact absurd H (by simp)
          ·rw [if_neg c21] at H; have c21b0 : decide (0 < x34_2) = false := decide_eq_false c21; clear c21; have H' := am H; clear H; have p126 : 0 ≤ (x34_2 : Int) := da; have q126 : x34_2 < (l0_3.length : Int) := da; obtain ⟨ad126, e126, hx126_0, hx126_1, hx126_2, hx126_3⟩ := at_T44 HR0_3.out x34_2 p126 q126; cases e126; replace hx126_0 := lx (bw HB.out) hx126_0; replace hx126_1 := lx (bw HB.out) hx126_1; replace hx126_2 := lx (bw HB.out) hx126_2; replace hx126_3 := lx (bw HB.out) hx126_3; replace p126 := eq_true p126; replace q126 := eq_true q126; (try go_wp2_with (first | ((with_reducible refine gx 4 rfl ?_); (try (refine gate_guard (by rfl) ?_; dsimp only)); refine be (cs := #[.int .i64 0, .string (⟨#[]⟩ : ByteArray), .int .i64 0, .int .i64 0]) (t := 44) ?_; intro gb127 hg w41 hbox hb; have n0_ := bk BK122 hb; have n1_ := hs HB hb; have n2_ := am (hbox); have n3_ := gs hg (bw HB.out); have n4_ := gs hg (bw HB.out); have n5_ := nl hg (kz BK122.out); have n6_ := nr hg (kz BK122.out); clear BK122 HB; revert n0_ n1_ n2_ n3_ n4_ n5_ n6_; intro BK122 HB BK127 GW127 GE127 NB122_127 NB127_122; clear hb hbox hg; have hnb42 := NB127_122.out; have hnc42 := NB122_127.out; have hz43 := zf4 BK127.out))); generalize hW_ : ((((w41.setCell ⟨gb127, 0, none⟩ (.int .i64 ((rd_T44 l0_3 x34_2).f0))).setCell ⟨gb127, 1, none⟩ (.string ((rd_T44 l0_3 x34_2).f1))).setCell ⟨gb127, 2, none⟩ (.int .i64 ((rd_T44 l0_3 x34_2).f2))).setCell ⟨gb127, 3, none⟩ (.int .i64 ((rd_T44 l0_3 x34_2).f3))) = w44; have n0_ : Aside0 (w44.heap[gb122]? = some (.cells #[.int .i64 a0_0, .slice A0_1 l0_1.length c0_1, .slice A0_2 l0_2.length c0_2, .slice (some ad126) l0_3.length c0_3] 30 (0, 0))) := ⟨by rw [← hW_]; exact kp BK122.out⟩; have n1_ : Aside0 (w44.heap[gb127]? = some (.cells #[.int .i64 ((rd_T44 l0_3 x34_2).f0), .string ((rd_T44 l0_3 x34_2).f1), .int .i64 ((rd_T44 l0_3 x34_2).f2), .int .i64 ((rd_T44 l0_3 x34_2).f3)] 44 (0, 0))) := ⟨by rw [← hW_]; exact kp BK127.out⟩; have n2_ : Aside0 (Below w.heap.size w w44) := ⟨by rw [← hW_]; exact bw HB.out⟩; (try clear BK122); (try clear BK127); (try clear HB); clear hW_; revert n0_ n1_ n2_; intro BK122 BK127 HB; have n0_ := am (blk_drew BK122.out); have n1_ := am (blk_drew BK127.out); have n2_ := am (below_drew1 HB.out); clear BK122 BK127 HB; revert n0_ n1_ n2_; intro BK122 BK127 HB; refine start_ (n := 20) (S := fun w' => w'.cell? ⟨gb122, 0, none⟩ = some (.int .i64 a0_0) ∧ w'.cell? ⟨gb122, 1, none⟩ = some (.slice A0_1 l0_1.length c0_1) ∧ w'.cell? ⟨gb122, 2, none⟩ = some (.slice A0_2 l0_2.length c0_2) ∧ w'.cell? ⟨gb122, 3, none⟩ = some (.slice (some ad126) l0_3.length c0_3) ∧ w'.cell? ⟨gb127, 0, none⟩ = some (.int .i64 ((rd_T44 l0_3 x34_2).f0)) ∧ w'.cell? ⟨gb127, 1, none⟩ = some (.string ((rd_T44 l0_3 x34_2).f1)) ∧ w'.cell? ⟨gb127, 2, none⟩ = some (.int .i64 ((rd_T44 l0_3 x34_2).f2)) ∧ w'.cell? ⟨gb127, 3, none⟩ = some (.int .i64 ((rd_T44 l0_3 x34_2).f3))) (ds := []) (mkp 20 0) (by kernel_rfl) rfl rfl ⟨bl BK122.out 0, bl BK122.out 1, bl BK122.out 2, bl BK122.out 3, bl BK127.out 0, bl BK127.out 1, bl BK127.out 2, bl BK127.out 3⟩ (fun hHeld => ?_); refine with_tabW spec_AutomatonValid.tab6 spec_AutomatonValid.bits6 (fun HT_ HW_ => ?_); generalize w44.drew = w45 at BK122 BK127 HB hHeld ⊢; (iterate 3 (first | refine qv HT_ ?_ | refine tk HT_ HW_ hHeld ?_)); refine on 3 (mkp 20 4) HT_ (fun K hK => ?_); refine gr Tryd.func40 #[.int .i64 a0_0, .agg #[.int .i64 ((rd_T44 l0_3 x34_2).f0), .string ((rd_T44 l0_3 x34_2).f1), .int .i64 ((rd_T44 l0_3 x34_2).f2), .int .i64 ((rd_T44 l0_3 x34_2).f3)]] ?_
           with_reducible refine (spec_l3Step.calls a0_0 ((rd_T44 l0_3 x34_2).f0) ((rd_T44 l0_3 x34_2).f1) ((rd_T44 l0_3 x34_2).f2) ((rd_T44 l0_3 x34_2).f3) true _ A19.out).mono ?_
           rintro e w46 ⟨rfl, hb⟩; refine ⟨_, rfl, ?_⟩; have n0_ := bk BK122 hb; have n1_ := bk BK127 hb; have n2_ := hs HB hb; clear BK122 BK127 HB; revert n0_ n1_ n2_; intro BK122 BK127 HB; (try clear hb); (try clear hb2); (try clear hk); (try clear hi); refine hK.out _ _ ⟨bl BK122.out 0, bl BK122.out 1, bl BK122.out 2, bl BK122.out 3, bl BK127.out 0, bl BK127.out 1, bl BK127.out 2, bl BK127.out 3⟩ (fun hHeld => ?_); clear hK K; refine norm_ (a' := ?_) ?_ ?_; rotate_left
           ·show Act.put _ (some 42) _ = _; simp only [Act.put, List.setIfInBounds_toArray, List.set_cons_zero, List.set_cons_succ, i64_w, i32_w]; rfl
           (iterate 16 (first | refine qu HT_ ?_ | refine qv HT_ ?_)); refine done_ (done_of HT_.out (by kernel_rfl)) ?_; (try go_wp2); go_roundg k2
           case measure => have := HJ1.out; have := HK2.out; omega
           case rel => exact ⟨(wrap64 (x34_2 + 1)), (by first | rfl | (simp; done) | (simp [*]; done)), H', ⟨by have := HJ1.out; have := HK2.out; omega⟩, ⟨kz BK122.out⟩, ⟨by exact bw HB.out⟩⟩
         ·replace c20 := Bool.eq_false_iff.mpr c20; subst c20
          have H1 : (some false) = some r := by rw [if_neg (show ¬ (false = true) by decide)] at H; exact H
          clear H; have H := H1; clear H1; obtain rfl := Option.some.inj H; have p126 : 0 ≤ (x34_2 : Int) := da; have q126 : x34_2 < (l0_3.length : Int) := da; obtain ⟨ad126, e126, hx126_0, hx126_1, hx126_2, hx126_3⟩ := at_T44 HR0_3.out x34_2 p126 q126; cases e126; replace hx126_0 := lx (bw HB.out) hx126_0; replace hx126_1 := lx (bw HB.out) hx126_1; replace hx126_2 := lx (bw HB.out) hx126_2; replace hx126_3 := lx (bw HB.out) hx126_3; replace p126 := eq_true p126; replace q126 := eq_true q126; (try go_wp2_with (first | ((with_reducible refine gx 4 rfl ?_); (try (refine gate_guard (by rfl) ?_; dsimp only)); refine be (cs := #[.int .i64 0, .string (⟨#[]⟩ : ByteArray), .int .i64 0, .int .i64 0]) (t := 44) ?_; intro gb127 hg w47 hbox hb; have n0_ := bk BK122 hb; have n1_ := hs HB hb; have n2_ := am (hbox); have n3_ := gs hg (bw HB.out); have n4_ := gs hg (bw HB.out); have n5_ := nl hg (kz BK122.out); have n6_ := nr hg (kz BK122.out); clear BK122 HB; revert n0_ n1_ n2_ n3_ n4_ n5_ n6_; intro BK122 HB BK127 GW127 GE127 NB122_127 NB127_122; clear hb hbox hg; have hnb48 := NB127_122.out; have hnc48 := NB122_127.out; have hz49 := zf4 BK127.out))); generalize hW_ : ((((w47.setCell ⟨gb127, 0, none⟩ (.int .i64 ((rd_T44 l0_3 x34_2).f0))).setCell ⟨gb127, 1, none⟩ (.string ((rd_T44 l0_3 x34_2).f1))).setCell ⟨gb127, 2, none⟩ (.int .i64 ((rd_T44 l0_3 x34_2).f2))).setCell ⟨gb127, 3, none⟩ (.int .i64 ((rd_T44 l0_3 x34_2).f3))) = w50; have n0_ : Aside0 (w50.heap[gb122]? = some (.cells #[.int .i64 a0_0, .slice A0_1 l0_1.length c0_1, .slice A0_2 l0_2.length c0_2, .slice (some ad126) l0_3.length c0_3] 30 (0, 0))) := ⟨by rw [← hW_]; exact kp BK122.out⟩; have n1_ : Aside0 (w50.heap[gb127]? = some (.cells #[.int .i64 ((rd_T44 l0_3 x34_2).f0), .string ((rd_T44 l0_3 x34_2).f1), .int .i64 ((rd_T44 l0_3 x34_2).f2), .int .i64 ((rd_T44 l0_3 x34_2).f3)] 44 (0, 0))) := ⟨by rw [← hW_]; exact kp BK127.out⟩; have n2_ : Aside0 (Below w.heap.size w w50) := ⟨by rw [← hW_]; exact bw HB.out⟩; (try clear BK122); (try clear BK127); (try clear HB); clear hW_; revert n0_ n1_ n2_; intro BK122 BK127 HB; have n0_ := am (blk_drew BK122.out); have n1_ := am (blk_drew BK127.out); have n2_ := am (below_drew1 HB.out); clear BK122 BK127 HB; revert n0_ n1_ n2_; intro BK122 BK127 HB; refine start_ (n := 20) (S := fun w' => w'.cell? ⟨gb122, 0, none⟩ = some (.int .i64 a0_0) ∧ w'.cell? ⟨gb122, 1, none⟩ = some (.slice A0_1 l0_1.length c0_1) ∧ w'.cell? ⟨gb122, 2, none⟩ = some (.slice A0_2 l0_2.length c0_2) ∧ w'.cell? ⟨gb122, 3, none⟩ = some (.slice (some ad126) l0_3.length c0_3) ∧ w'.cell? ⟨gb127, 0, none⟩ = some (.int .i64 ((rd_T44 l0_3 x34_2).f0)) ∧ w'.cell? ⟨gb127, 1, none⟩ = some (.string ((rd_T44 l0_3 x34_2).f1)) ∧ w'.cell? ⟨gb127, 2, none⟩ = some (.int .i64 ((rd_T44 l0_3 x34_2).f2)) ∧ w'.cell? ⟨gb127, 3, none⟩ = some (.int .i64 ((rd_T44 l0_3 x34_2).f3))) (ds := []) (mkp 20 0) (by kernel_rfl) rfl rfl ⟨bl BK122.out 0, bl BK122.out 1, bl BK122.out 2, bl BK122.out 3, bl BK127.out 0, bl BK127.out 1, bl BK127.out 2, bl BK127.out 3⟩ (fun hHeld => ?_); refine with_tabW spec_AutomatonValid.tab6 spec_AutomatonValid.bits6 (fun HT_ HW_ => ?_); generalize w50.drew = w51 at BK122 BK127 HB hHeld ⊢; (iterate 3 (first | refine qv HT_ ?_ | refine tk HT_ HW_ hHeld ?_)); refine on 3 (mkp 20 4) HT_ (fun K hK => ?_); refine gr Tryd.func40 #[.int .i64 a0_0, .agg #[.int .i64 ((rd_T44 l0_3 x34_2).f0), .string ((rd_T44 l0_3 x34_2).f1), .int .i64 ((rd_T44 l0_3 x34_2).f2), .int .i64 ((rd_T44 l0_3 x34_2).f3)]] ?_
          with_reducible refine (spec_l3Step.calls a0_0 ((rd_T44 l0_3 x34_2).f0) ((rd_T44 l0_3 x34_2).f1) ((rd_T44 l0_3 x34_2).f2) ((rd_T44 l0_3 x34_2).f3) false _ A19.out).mono ?_
          rintro e w52 ⟨rfl, hb⟩; refine ⟨_, rfl, ?_⟩; have n0_ := bk BK122 hb; have n1_ := bk BK127 hb; have n2_ := hs HB hb; clear BK122 BK127 HB; revert n0_ n1_ n2_; intro BK122 BK127 HB; (try clear hb); (try clear hb2); (try clear hk); (try clear hi); refine hK.out _ _ ⟨bl BK122.out 0, bl BK122.out 1, bl BK122.out 2, bl BK122.out 3, bl BK127.out 0, bl BK127.out 1, bl BK127.out 2, bl BK127.out 3⟩ (fun hHeld => ?_); clear hK K; refine norm_ (a' := ?_) ?_ ?_; rotate_left
          ·show Act.put _ (some 42) _ = _; simp only [Act.put, List.setIfInBounds_toArray, List.set_cons_zero, List.set_cons_succ, i64_w, i32_w]; rfl
          (iterate 16 (first | refine qu HT_ ?_ | refine qv HT_ ?_)); refine done_ (done_of HT_.out (by kernel_rfl)) ?_; (try go_wp2); go_ret; exact ⟨by first | rfl | (simp [errW_none, errW_some] <;> rfl) | (simp [*, errW_none, errW_some] <;> rfl), by exact bw HB.out⟩
        ·rw [if_neg c18] at H; exact absurd H (by simp)
       ·rw [if_neg c17] at H; exact absurd H (by simp)
      ·rw [if_neg c16] at H; have c16b0 : decide (x34_2 < (l0_3.length : Int)) = false := decide_eq_false c16; clear c16; obtain rfl := Option.some.inj H; go_wp2; go_ret; exact ⟨by first | rfl | (simp [errW_none, errW_some] <;> rfl) | (simp [*, errW_none, errW_some] <;> rfl), by exact bw HB.out⟩

/-! ### spec_l13Cut: function 27 -/
def spec_l13Cut.l0 : Nat → ByteArray → Int → List ByteArray → Int → Int → Option (List ByteArray)
 | 0, _, _, _, _, _ => none
 | k + 1, x0, x1, x5, x6, x7 => if x7 ≤ (x0.size : Int) then (if x7 = (x0.size : Int) then (if 0 ≤ x6 then (if x6 ≤ x7 then (if x5.length < 8796093022208 then (spec_l13Cut.l0 k x0 x1 (x5 ++ [x0.extract (x6 : Int).toNat (x7 : Int).toNat]) (wrap64 (x7 + 1)) (wrap64 (x7 + 1))) else (none)) else (none)) else (none)) else (if 0 ≤ x7 then (if x7 < (x0.size : Int) then (if (bt x0 x7) = x1 then (if 0 ≤ x6 then (if x6 ≤ x7 then (if x5.length < 8796093022208 then (spec_l13Cut.l0 k x0 x1 (x5 ++ [x0.extract (x6 : Int).toNat (x7 : Int).toNat]) (wrap64 (x7 + 1)) (wrap64 (x7 + 1))) else (none)) else (none)) else (none)) else (spec_l13Cut.l0 k x0 x1 x5 x6 (wrap64 (x7 + 1)))) else (none)) else (none))) else (some x5)
def spec_l13Cut.f (k : Nat) (a0 : ByteArray) (a1 : Int) : Option (List ByteArray) := spec_l13Cut.l0 k a0 a1 (([] : List ByteArray)) 0 0
theorem spec_l13Cut.mono_l : ∀ k, (∀ y0 y1 y2 y3 y4, LeO (spec_l13Cut.l0 k y0 y1 y2 y3 y4) (spec_l13Cut.l0 (k + 1) y0 y1 y2 y3 y4))
 | 0 => fun _ _ _ _ _ r h => by simp [spec_l13Cut.l0] at h
 | k + 1 => by
  have ih0 := spec_l13Cut.mono_l k
  ·intro y0 y1 y2 y3 y4; unfold spec_l13Cut.l0; repeat' first
   | (with_reducible exact ih0 _ _ _ _ _)
   | (with_reducible exact LeO.refl _)
   | (with_reducible exact LeO.none _)
   | (with_reducible refine LeO.ite ?_ ?_)
   | (with_reducible refine LeO.bind ?_ (fun _ => ?_))
   | exact ih0 _ _ _ _ _
   | exact LeO.none _
   | refine LeO.ite ?_ ?_
   | refine LeO.bind ?_ (fun _ => ?_)
theorem spec_l13Cut.mono : ∀ a0 a1 k, LeO (spec_l13Cut.f k a0 a1) (spec_l13Cut.f (k + 1) a0 a1) := by
 intro a0 a1 k; have ih0 := spec_l13Cut.mono_l k; unfold spec_l13Cut.f; repeat' first
   | (with_reducible exact ih0 _ _ _ _ _)
   | (with_reducible exact LeO.refl _)
   | (with_reducible exact LeO.none _)
   | (with_reducible refine LeO.ite ?_ ?_)
   | (with_reducible refine LeO.bind ?_ (fun _ => ?_))
   | exact ih0 _ _ _ _ _
   | exact LeO.none _
   | refine LeO.ite ?_ ?_
   | refine LeO.bind ?_ (fun _ => ?_)
set_option maxHeartbeats 8000000 in
set_option maxRecDepth 100000 in
theorem spec_l13Cut.calls (k : Nat) (a0 : ByteArray) (a1 : Int) (r : List ByteArray) (w : World) (h : spec_l13Cut.f k a0 a1 = some r) :
  Calls Tryd.prog 27 #[.string a0, .int .u8 a1] w fun e w' => ∃ v0_ : Value, e = .returned (v0_) ∧ Kd.R Kd.string 9 w' w.heap.size (fun _ => True) v0_ r ∧ Below w.heap.size w w' := by
 have HB := am (Below.refl w.heap.size w); have H : (spec_l13Cut.l0 k a0 a1 (([] : List ByteArray)) 0 0) = some r := h; clear h; obtain ⟨y131, hy131⟩ : ∃ y_ : List ByteArray, y_ = (([] : List ByteArray)) := ⟨_, rfl⟩
 replace H : (spec_l13Cut.l0 k a0 a1 y131 0 0) = some r := by first | (rw [hy131]; with_reducible exact H) | (have H2_ := (Option.bind_some _ _).symm.trans H; rw [hy131]; with_reducible exact H2_) | (have H2_ := (Option.bind_some _ _).symm.trans H; with_reducible exact H2_) | with_reducible exact H | (rw [hy131]; exact H) | exact H
 have Ny131 := am hy131; clear hy131; have H' := am H; clear H; go_enter Tryd.func27, Tryd.ntmps27; go_wp2_with (first | ((with_reducible refine gx 8 rfl ?_); refine Kd.R_lit Kd.string _ 9 ?hg (N := 8) ?hd (xs := ([] : List ByteArray)) (inner := []) (ok := fun _ => True) (okp := fun _ => True) ?hr ?hp (fun _ hk => hk) trivial (Below.refl _ _) (Nat.le_refl _) (by simp) ?_; (case hd => rfl); (case hg => rfl); (case hr => first | (go_simp; done) | (go_simp; rfl)); (case hp => exact (Reps.none _ _)); intro v132 w3 ho4 hb hg_ hnew_; clear hg_ hnew_; (first | rw [← Ny131.out] at ho4 | (simp only [Int.reduceToNat] at ho4; rw [← Ny131.out] at ho4)); have n0_ := am (Kd.R_lower ho4 (below_size (bz HB.out))); have n1_ := hs HB hb; clear HB; revert n0_ n1_; intro HO133 HB; clear hb ho4)); go_loopg [5, 6, 7] k (fun kq v5 v6 v7 w' => ∃ (x5_1 : List ByteArray) (x6_1 : Int) (x7_1 : Int), v6 = .int .i64 x6_1 ∧ v7 = .int .i64 x7_1 ∧ Aside0 (spec_l13Cut.l0 kq a0 a1 x5_1 x6_1 x7_1 = some r) ∧ Aside0 (kq ≤ k) ∧ Aside0 (Kd.R Kd.string 9 w' w.heap.size (fun _ => True) v5 x5_1) ∧ Aside0 (Below w.heap.size w w'))
 case atStart => exact ⟨(y131), (0), (0), (by first | rfl | (simp; done) | (simp [*]; done)), (by first | rfl | (simp; done) | (simp [*]; done)), H', ⟨Nat.le_refl _⟩, ⟨rz HO133.out⟩, ⟨by exact bz HB.out⟩⟩
 case round =>
  clear H'; (try clear c2); (try clear p2); obtain ⟨x5_1, x6_1, x7_1, rfl, rfl, HA, HK1, HO_5, HB⟩ := hrel
  cases gk with
  | zero => exact absurd HA.out (by simp [spec_l13Cut.l0])
  | succ k1 =>
   have H := HA.out; clear HA; simp only [spec_l13Cut.l0] at H; by_cases c5 : x7_1 ≤ (a0.size : Int)
   ·rw [if_pos c5] at H; have c5b0 : decide (x7_1 ≤ (a0.size : Int)) = true := decide_eq_true c5; clear c5; by_cases c6 : x7_1 = (a0.size : Int)
    ·rw [if_pos c6] at H; have c6b0 : (x7_1 == (a0.size : Int)) = true := beq_iff_eq.mpr c6; have c6b1 : (x7_1 != (a0.size : Int)) = false := bne_eq_false_iff_eq.mpr c6; clear c6; by_cases c7 : 0 ≤ x6_1
     ·rw [if_pos c7] at H; have c7b0 := eq_true c7; have c7b1 : decide (0 ≤ x6_1) = true := decide_eq_true c7; clear c7; by_cases c8 : x6_1 ≤ x7_1
      ·rw [if_pos c8] at H; have c8b0 := eq_true c8; have c8b1 : decide (x6_1 ≤ x7_1) = true := decide_eq_true c8; clear c8; have c9b0 := eq_true (da : x7_1 ≤ (a0.size : Int)); by_cases c10 : x5_1.length < 8796093022208
       ·rw [if_pos c10] at H; have LMc10 := am c10; clear c10; obtain ⟨y134, hy134⟩ : ∃ y_ : List ByteArray, y_ = (x5_1 ++ [a0.extract (x6_1 : Int).toNat (x7_1 : Int).toNat]) := ⟨_, rfl⟩
        replace H : (spec_l13Cut.l0 k1 a0 a1 y134 (wrap64 (x7_1 + 1)) (wrap64 (x7_1 + 1))) = some r := by first | (rw [hy134]; with_reducible exact H) | (have H2_ := (Option.bind_some _ _).symm.trans H; rw [hy134]; with_reducible exact H2_) | (have H2_ := (Option.bind_some _ _).symm.trans H; with_reducible exact H2_) | with_reducible exact H | (rw [hy134]; exact H) | exact H
        have Ny134 := am hy134; clear hy134; have H' := am H; clear H; go_wp2_with (first | ((with_reducible refine gate_builtin (b := .append) (xs := #[.tmp 26, .tmp 31]) rfl ?_); at_builtin; refine Kd.R_append Kd.string (w0 := w) w.heap.size rfl (.tmp 26) (.tmp 31) 47 9 (.string ⟨#[]⟩) 16 rfl Tryd.underlying47 info9 rfl (by decide) (by omega) u5 x5_1 (a0.extract (x6_1 : Int).toNat (x7_1 : Int).toNat) [.string (a0.extract (x6_1 : Int).toNat (x7_1 : Int).toNat)] (fun _ => True) (fun _ => False) rfl rfl ?aP (fun _ hk => hk.elim) ?aF ?aO ?aB ?aS ?aL ?_; (case aP => exact rfl); (case aB => exact (bz HB.out)); (case aF => exact (fun _ _ => trivial)); (case aO => exact (rz HO_5.out)); (case aS => exact (below_size (bz HB.out))); (case aL => have := LMc10.out; omega); intro v135 w11 ho hb hg hat; rw [← Ny134.out] at ho; have n0_ := am (hb); have n1_ := am (ho); clear HB HO_5; revert n0_ n1_; intro HB HO136; clear ho hb hg hat)); go_roundg k1
        case measure => have := HK1.out; omega
        case rel => exact ⟨(y134), (wrap64 (x7_1 + 1)), (wrap64 (x7_1 + 1)), (by first | rfl | (simp; done) | (simp [*]; done)), (by first | rfl | (simp; done) | (simp [*]; done)), H', ⟨by have := HK1.out; omega⟩, ⟨rz HO136.out⟩, ⟨by exact bz HB.out⟩⟩
       ·rw [if_neg c10] at H; exact absurd H (by simp)
      ·rw [if_neg c8] at H; exact absurd H (by simp)
     ·rw [if_neg c7] at H; exact absurd H (by simp)
    ·rw [if_neg c6] at H; have c6b0 : (x7_1 == (a0.size : Int)) = false := beq_eq_false_iff_ne.mpr c6; have c6b1 : (x7_1 != (a0.size : Int)) = true := bne_iff_ne.mpr c6; by_cases c12 : 0 ≤ x7_1
     ·rw [if_pos c12] at H; have c12b0 : decide (0 ≤ x7_1) = true := decide_eq_true c12; clear c12; by_cases c13 : x7_1 < (a0.size : Int)
      ·rw [if_pos c13] at H; have c13b0 : decide (x7_1 < (a0.size : Int)) = true := decide_eq_true c13; clear c13; by_cases c15 : (bt a0 x7_1) = a1
       ·rw [if_pos c15] at H; have c15b0 : ((bt a0 x7_1) == a1) = true := beq_iff_eq.mpr c15; have c15b1 : ((bt a0 x7_1) != a1) = false := bne_eq_false_iff_eq.mpr c15; clear c15; by_cases c16 : 0 ≤ x6_1
        ·rw [if_pos c16] at H; have c16b0 := eq_true c16; have c16b1 : decide (0 ≤ x6_1) = true := decide_eq_true c16; clear c16; by_cases c17 : x6_1 ≤ x7_1
         ·rw [if_pos c17] at H; have c17b0 := eq_true c17; have c17b1 : decide (x6_1 ≤ x7_1) = true := decide_eq_true c17; clear c17; have c18b0 := eq_true (da : x7_1 ≤ (a0.size : Int)); by_cases c19 : x5_1.length < 8796093022208
          ·rw [if_pos c19] at H; have LMc19 := am c19; clear c19; obtain ⟨y137, hy137⟩ : ∃ y_ : List ByteArray, y_ = (x5_1 ++ [a0.extract (x6_1 : Int).toNat (x7_1 : Int).toNat]) := ⟨_, rfl⟩
           replace H : (spec_l13Cut.l0 k1 a0 a1 y137 (wrap64 (x7_1 + 1)) (wrap64 (x7_1 + 1))) = some r := by first | (rw [hy137]; with_reducible exact H) | (have H2_ := (Option.bind_some _ _).symm.trans H; rw [hy137]; with_reducible exact H2_) | (have H2_ := (Option.bind_some _ _).symm.trans H; with_reducible exact H2_) | with_reducible exact H | (rw [hy137]; exact H) | exact H
           have Ny137 := am hy137; clear hy137; have H' := am H; clear H; have p14 : 0 ≤ (x7_1 : Int) := da; have q14 : x7_1 < (a0.size : Int) := da; have hx14 := bt_at a0 x7_1; replace p14 := eq_true p14; replace q14 := eq_true q14; go_wp2_with (first | ((with_reducible refine gate_builtin (b := .append) (xs := #[.tmp 26, .tmp 31]) rfl ?_); at_builtin; refine Kd.R_append Kd.string (w0 := w) w.heap.size rfl (.tmp 26) (.tmp 31) 47 9 (.string ⟨#[]⟩) 16 rfl Tryd.underlying47 info9 rfl (by decide) (by omega) u5 x5_1 (a0.extract (x6_1 : Int).toNat (x7_1 : Int).toNat) [.string (a0.extract (x6_1 : Int).toNat (x7_1 : Int).toNat)] (fun _ => True) (fun _ => False) rfl rfl ?aP (fun _ hk => hk.elim) ?aF ?aO ?aB ?aS ?aL ?_; (case aP => exact rfl); (case aB => exact (bz HB.out)); (case aF => exact (fun _ _ => trivial)); (case aO => exact (rz HO_5.out)); (case aS => exact (below_size (bz HB.out))); (case aL => have := LMc19.out; omega); intro v138 w20 ho hb hg hat; rw [← Ny137.out] at ho; have n0_ := am (hb); have n1_ := am (ho); clear HB HO_5; revert n0_ n1_; intro HB HO139; clear ho hb hg hat)); go_roundg k1
           case measure => have := HK1.out; omega
           case rel => exact ⟨(y137), (wrap64 (x7_1 + 1)), (wrap64 (x7_1 + 1)), (by first | rfl | (simp; done) | (simp [*]; done)), (by first | rfl | (simp; done) | (simp [*]; done)), H', ⟨by have := HK1.out; omega⟩, ⟨rz HO139.out⟩, ⟨by exact bz HB.out⟩⟩
          ·rw [if_neg c19] at H; exact absurd H (by simp)
         ·rw [if_neg c17] at H; exact absurd H (by simp)
        ·rw [if_neg c16] at H; exact absurd H (by simp)
       ·rw [if_neg c15] at H; have c15b0 : ((bt a0 x7_1) == a1) = false := beq_eq_false_iff_ne.mpr c15; have c15b1 : ((bt a0 x7_1) != a1) = true := bne_iff_ne.mpr c15; have H' := am H; clear H; have p14 : 0 ≤ (x7_1 : Int) := da; have q14 : x7_1 < (a0.size : Int) := da; have hx14 := bt_at a0 x7_1; replace p14 := eq_true p14; replace q14 := eq_true q14; go_wp2; go_roundg k1
        case measure => have := HK1.out; omega
        case rel => exact ⟨(x5_1), (x6_1), (wrap64 (x7_1 + 1)), (by first | rfl | (simp; done) | (simp [*]; done)), (by first | rfl | (simp; done) | (simp [*]; done)), H', ⟨by have := HK1.out; omega⟩, ⟨rz HO_5.out⟩, ⟨by exact bz HB.out⟩⟩
      ·rw [if_neg c13] at H; exact absurd H (by simp)
     ·rw [if_neg c12] at H; exact absurd H (by simp)
   ·rw [if_neg c5] at H; have c5b0 : decide (x7_1 ≤ (a0.size : Int)) = false := decide_eq_false c5; clear c5; obtain rfl := Option.some.inj H; go_wp2; go_ret; exact ⟨_, by first | rfl | (simp [errW_none, errW_some] <;> rfl) | (simp [*, errW_none, errW_some] <;> rfl), rz HO_5.out, by exact bz HB.out⟩

/-! ### spec_l13Num: function 28 -/
mutual
def spec_l13Num.j0 : Nat → ByteArray → Bool → Option (Int × Bool)
 | 0, _, _ => none
 | k + 1, x0, x4 => if x4 = true then (if 1 ≤ (x0.size : Int) then (spec_l13Num.j1 k (x0.extract 1 x0.size) x4) else (none)) else (spec_l13Num.j1 k x0 x4)
def spec_l13Num.j1 : Nat → ByteArray → Bool → Option (Int × Bool)
 | 0, _, _ => none
 | k + 1, x0, x4 => if (x0.size : Int) = 0 then (spec_l13Num.j2 k x0 x4 true) else (if (x0.size : Int) > 17 then (spec_l13Num.j2 k x0 x4 true) else (if 0 < (x0.size : Int) then (if (bt x0 0) = 48 then (if (x0.size : Int) > 1 then (spec_l13Num.j2 k x0 x4 true) else (spec_l13Num.j2 k x0 x4 x4)) else (spec_l13Num.j2 k x0 x4 false)) else (none)))
def spec_l13Num.j2 : Nat → ByteArray → Bool → Bool → Option (Int × Bool)
 | 0, _, _, _ => none
 | k + 1, x0, x4, x38 => if x38 = true then (some (0, false)) else (spec_l13Num.l0 k x0 x4 0 0)
def spec_l13Num.l0 : Nat → ByteArray → Bool → Int → Int → Option (Int × Bool)
 | 0, _, _, _, _ => none
 | k + 1, x0, x4, x5, x6 => if x6 < (x0.size : Int) then (if 0 ≤ x6 then (if (bt x0 x6) < 48 then (some (0, false)) else (if (bt x0 x6) > 57 then (some (0, false)) else (spec_l13Num.l0 k x0 x4 (wrap64 ((wrap64 (x5 * 10)) + (((bt x0 x6) - 48) % 256))) (wrap64 (x6 + 1))))) else (none)) else (if x4 = true then (some (wrap64 (-x5), true)) else (some (x5, true)))
end
def spec_l13Num.f (k : Nat) (a0 : ByteArray) : Option (Int × Bool) := if (a0.size : Int) > 0 then (if 0 < (a0.size : Int) then (spec_l13Num.j0 k a0 ((bt a0 0) == 45)) else (none)) else (spec_l13Num.j0 k a0 false)
theorem spec_l13Num.mono_l : ∀ k, (∀ y0 y1, LeO (spec_l13Num.j0 k y0 y1) (spec_l13Num.j0 (k + 1) y0 y1)) ∧ (∀ y0 y1, LeO (spec_l13Num.j1 k y0 y1) (spec_l13Num.j1 (k + 1) y0 y1)) ∧ (∀ y0 y1 y2, LeO (spec_l13Num.j2 k y0 y1 y2) (spec_l13Num.j2 (k + 1) y0 y1 y2)) ∧ (∀ y0 y1 y2 y3, LeO (spec_l13Num.l0 k y0 y1 y2 y3) (spec_l13Num.l0 (k + 1) y0 y1 y2 y3))
 | 0 => ⟨fun _ _ r h => by simp [spec_l13Num.j0] at h, fun _ _ r h => by simp [spec_l13Num.j1] at h, fun _ _ _ r h => by simp [spec_l13Num.j2] at h, fun _ _ _ _ r h => by simp [spec_l13Num.l0] at h⟩
 | k + 1 => by
  obtain ⟨ih0, ih1, ih2, ih3⟩ := spec_l13Num.mono_l k; refine ⟨?_, ?_, ?_, ?_⟩
  ·intro y0 y1; unfold spec_l13Num.j0; repeat' first
   | (with_reducible exact ih0 _ _)
   | (with_reducible exact ih1 _ _)
   | (with_reducible exact ih2 _ _ _)
   | (with_reducible exact ih3 _ _ _ _)
   | (with_reducible exact LeO.refl _)
   | (with_reducible exact LeO.none _)
   | (with_reducible refine LeO.ite ?_ ?_)
   | (with_reducible refine LeO.bind ?_ (fun _ => ?_))
   | exact ih0 _ _
   | exact ih1 _ _
   | exact ih2 _ _ _
   | exact ih3 _ _ _ _
   | exact LeO.none _
   | refine LeO.ite ?_ ?_
   | refine LeO.bind ?_ (fun _ => ?_)
  ·intro y0 y1; unfold spec_l13Num.j1; repeat' first
   | (with_reducible exact ih0 _ _)
   | (with_reducible exact ih1 _ _)
   | (with_reducible exact ih2 _ _ _)
   | (with_reducible exact ih3 _ _ _ _)
   | (with_reducible exact LeO.refl _)
   | (with_reducible exact LeO.none _)
   | (with_reducible refine LeO.ite ?_ ?_)
   | (with_reducible refine LeO.bind ?_ (fun _ => ?_))
   | exact ih0 _ _
   | exact ih1 _ _
   | exact ih2 _ _ _
   | exact ih3 _ _ _ _
   | exact LeO.none _
   | refine LeO.ite ?_ ?_
   | refine LeO.bind ?_ (fun _ => ?_)
  ·intro y0 y1 y2; unfold spec_l13Num.j2; repeat' first
   | (with_reducible exact ih0 _ _)
   | (with_reducible exact ih1 _ _)
   | (with_reducible exact ih2 _ _ _)
   | (with_reducible exact ih3 _ _ _ _)
   | (with_reducible exact LeO.refl _)
   | (with_reducible exact LeO.none _)
   | (with_reducible refine LeO.ite ?_ ?_)
   | (with_reducible refine LeO.bind ?_ (fun _ => ?_))
   | exact ih0 _ _
   | exact ih1 _ _
   | exact ih2 _ _ _
   | exact ih3 _ _ _ _
   | exact LeO.none _
   | refine LeO.ite ?_ ?_
   | refine LeO.bind ?_ (fun _ => ?_)
  ·intro y0 y1 y2 y3; unfold spec_l13Num.l0; repeat' first
   | (with_reducible exact ih0 _ _)
   | (with_reducible exact ih1 _ _)
   | (with_reducible exact ih2 _ _ _)
   | (with_reducible exact ih3 _ _ _ _)
   | (with_reducible exact LeO.refl _)
   | (with_reducible exact LeO.none _)
   | (with_reducible refine LeO.ite ?_ ?_)
   | (with_reducible refine LeO.bind ?_ (fun _ => ?_))
   | exact ih0 _ _
   | exact ih1 _ _
   | exact ih2 _ _ _
   | exact ih3 _ _ _ _
   | exact LeO.none _
   | refine LeO.ite ?_ ?_
   | refine LeO.bind ?_ (fun _ => ?_)
theorem spec_l13Num.mono : ∀ a0 k, LeO (spec_l13Num.f k a0) (spec_l13Num.f (k + 1) a0) := by
 intro a0 k; obtain ⟨ih0, ih1, ih2, ih3⟩ := spec_l13Num.mono_l k; unfold spec_l13Num.f; repeat' first
   | (with_reducible exact ih0 _ _)
   | (with_reducible exact ih1 _ _)
   | (with_reducible exact ih2 _ _ _)
   | (with_reducible exact ih3 _ _ _ _)
   | (with_reducible exact LeO.refl _)
   | (with_reducible exact LeO.none _)
   | (with_reducible refine LeO.ite ?_ ?_)
   | (with_reducible refine LeO.bind ?_ (fun _ => ?_))
   | exact ih0 _ _
   | exact ih1 _ _
   | exact ih2 _ _ _
   | exact ih3 _ _ _ _
   | exact LeO.none _
   | refine LeO.ite ?_ ?_
   | refine LeO.bind ?_ (fun _ => ?_)
set_option maxHeartbeats 8000000 in
set_option maxRecDepth 100000 in
theorem spec_l13Num.calls (k : Nat) (a0 : ByteArray) (r1 : Int) (r2 : Bool) (w : World) (h : spec_l13Num.f k a0 = some (r1, r2)) :
  Calls Tryd.prog 28 #[.string a0] w fun e w' => e = .returned (.tuple #[.int .i64 r1, .bool r2]) ∧ Drawn0 w w' := by
 have H : (if (a0.size : Int) > 0 then (if 0 < (a0.size : Int) then (spec_l13Num.j0 k a0 ((bt a0 0) == 45)) else (none)) else (spec_l13Num.j0 k a0 false)) = some (r1, r2) := h; clear h; have HC2 := am H; clear H; go_enter Tryd.func28, Tryd.ntmps28; go_upto_region 1 with (fail); go_cut [4] (fun v4 wc => ∃ (kq : Nat) (x4_1 : Bool), v4 = .bool x4_1 ∧ Aside0 (spec_l13Num.j0 kq a0 x4_1 = some (r1, r2)) ∧ Aside0 (kq ≤ k) ∧ Drawn0 w wc)
 case first =>
  have H := HC2.out; clear HC2; by_cases c3 : (a0.size : Int) > 0
  ·rw [if_pos c3] at H; have c3b0 : decide (0 < (a0.size : Int)) = true := decide_eq_true c3; have c3b1 : decide (0 < a0.size) = true := decide_eq_true (by omega); clear c3; (first | rw [c3b0] | (simp only [i64_w, i32_w]; rw [c3b0]) | skip); by_cases c4 : 0 < (a0.size : Int)
   ·rw [if_pos c4] at H; have c4b0 : decide (0 < (a0.size : Int)) = true := decide_eq_true c4; have c4b1 : decide (0 < a0.size) = true := decide_eq_true (by omega); clear c4; have H' := am H; clear H; have p5 : 0 ≤ (0 : Int) := (by omega); have q5 : 0 < a0.size := (by have : (0 : Int) < (a0.size : Int) := da; omega); have hx5 : ∀ h : 0 < a0.size, ((a0[0]'h).toNat : Int) = bt a0 0 := bt_at a0 0; clear p5; have qi5 : (0 < (a0.size : Int)) = True := eq_true (da); replace q5 := eq_true q5; go_wp2; go_meet
    case rel => exact ⟨_, (((bt a0 0) == 45)), (by first | rfl | (simp; done) | (simp [*]; done)), H', ⟨by first | omega | exact Nat.le_refl _⟩, by repeat (first | exact Drawn0.refl _ | apply Drawn0.step)⟩
   ·rw [if_neg c4] at H; exact absurd H (by simp)
  ·rw [if_neg c3] at H; have c3b0 : decide (0 < (a0.size : Int)) = false := decide_eq_false c3; have c3b1 : decide (0 < a0.size) = false := decide_eq_false (by omega); clear c3; (first | rw [c3b0] | (simp only [i64_w, i32_w]; rw [c3b0]) | skip); have H' := am H; clear H; go_wp2; go_meet
   case rel => exact ⟨_, (false), (by first | rfl | (simp; done) | (simp [*]; done)), H', ⟨by first | omega | exact Nat.le_refl _⟩, by repeat (first | exact Drawn0.refl _ | apply Drawn0.step)⟩
 case rest =>
  clear HC2; (try clear c2); (try clear p2); (try clear c3); (try clear c3b0); (try clear c3b1); (try clear c4); (try clear c4b0); (try clear c4b1); (try clear p5); (try clear q5); (try clear hx5); (try clear qi5); (try clear p5); (try clear q5); obtain ⟨kq, x4_1, rfl, HA, HJ1, ⟨mc1, rfl⟩⟩ := hcut
  cases kq with
  | zero => exact absurd HA.out (by simp [spec_l13Num.j0])
  | succ kj1 =>
   have H := HA.out; clear HA; simp only [spec_l13Num.j0] at H; have HC6 := am H; clear H; go_upto_if 15 with (fail); go_cut [0] (fun v0 wc => ∃ (kq : Nat) (x0_5 : ByteArray), v0 = .string x0_5 ∧ Aside0 (spec_l13Num.j1 kq x0_5 x4_1 = some (r1, r2)) ∧ Aside0 (kq ≤ kj1) ∧ Drawn0 w wc)
   case first =>
    have H := HC6.out; clear HC6; by_cases c7 : x4_1 = true
    ·subst c7
     have H1 : (if 1 ≤ (a0.size : Int) then (spec_l13Num.j1 kj1 (a0.extract 1 a0.size) true) else (none)) = some (r1, r2) := by rw [if_pos rfl] at H; exact H
     clear H; have H := H1; clear H1; by_cases c8 : 1 ≤ (a0.size : Int)
     ·rw [if_pos c8] at H; have c8b0 := eq_true c8; have c8b1 : decide (1 ≤ (a0.size : Int)) = true := decide_eq_true c8; clear c8; have H' := am H; clear H; go_wp2; go_meet
      case rel => exact ⟨_, (a0.extract 1 a0.size), (by first | rfl | (simp; done) | (simp [*]; done)), H', ⟨by have := HJ1.out; first | omega | exact Nat.le_refl _⟩, by repeat (first | exact Drawn0.refl _ | apply Drawn0.step)⟩
     ·rw [if_neg c8] at H; exact absurd H (by simp)
    ·replace c7 := Bool.eq_false_iff.mpr c7; subst c7
     have H1 : (spec_l13Num.j1 kj1 a0 false) = some (r1, r2) := by rw [if_neg (show ¬ (false = true) by decide)] at H; exact H
     clear H; have H := H1; clear H1; have H' := am H; clear H; go_wp2; go_meet
     case rel => exact ⟨_, (a0), (by first | rfl | (simp; done) | (simp [*]; done)), H', ⟨by have := HJ1.out; first | omega | exact Nat.le_refl _⟩, by repeat (first | exact Drawn0.refl _ | apply Drawn0.step)⟩
   case rest =>
    clear HC6; (try clear c1); (try clear c2); (try clear p2); (try clear c3); (try clear c3b0); (try clear c3b1); (try clear c4); (try clear c4b0); (try clear c4b1); (try clear p5); (try clear q5); (try clear hx5); (try clear qi5); (try clear c7); (try clear c8); (try clear c8b0); (try clear c8b1); (try clear p2); (try clear p5); (try clear q5); obtain ⟨kq, x0_5, rfl, HA, HJ5, ⟨mc5, rfl⟩⟩ := hcut
    cases kq with
    | zero => exact absurd HA.out (by simp [spec_l13Num.j1])
    | succ kj5 =>
     have H := HA.out; clear HA; simp only [spec_l13Num.j1] at H; have HC9 := am H; clear H; go_upto_region 4 with (fail); go_cut [38] (fun v38 wc => ∃ (kq : Nat) (x38_8 : Bool), v38 = .bool x38_8 ∧ Aside0 (spec_l13Num.j2 kq x0_5 x4_1 x38_8 = some (r1, r2)) ∧ Aside0 (kq ≤ kj5) ∧ Drawn0 w wc)
     case first =>
      have H := HC9.out; clear HC9; by_cases c10 : (x0_5.size : Int) = 0
      ·rw [if_pos c10] at H; have c10b0 : ((x0_5.size : Int) == 0) = true := beq_iff_eq.mpr c10; have c10b1 : ((x0_5.size : Int) != 0) = false := bne_eq_false_iff_eq.mpr c10; clear c10; (first | rw [c10b0] | (simp only [i64_w, i32_w]; rw [c10b0]) | skip); have H' := am H; clear H; go_wp2; go_meet
       case rel => exact ⟨_, (true), (by first | rfl | (simp; done) | (simp [*]; done)), H', ⟨by have := HJ1.out; have := HJ5.out; first | omega | exact Nat.le_refl _⟩, by repeat (first | exact Drawn0.refl _ | apply Drawn0.step)⟩
      ·rw [if_neg c10] at H; have c10b0 : ((x0_5.size : Int) == 0) = false := beq_eq_false_iff_ne.mpr c10; have c10b1 : ((x0_5.size : Int) != 0) = true := bne_iff_ne.mpr c10; (first | rw [c10b0] | (simp only [i64_w, i32_w]; rw [c10b0]) | skip); by_cases c11 : (x0_5.size : Int) > 17
       ·rw [if_pos c11] at H; have c11b0 : decide (17 < (x0_5.size : Int)) = true := decide_eq_true c11; have c11b1 : decide (17 < x0_5.size) = true := decide_eq_true (by omega); clear c11; have H' := am H; clear H; go_wp2; go_meet
        case rel => exact ⟨_, (true), (by first | rfl | (simp; done) | (simp [*]; done)), H', ⟨by have := HJ1.out; have := HJ5.out; first | omega | exact Nat.le_refl _⟩, by repeat (first | exact Drawn0.refl _ | apply Drawn0.step)⟩
       ·rw [if_neg c11] at H; have c11b0 : decide (17 < (x0_5.size : Int)) = false := decide_eq_false c11; have c11b1 : decide (17 < x0_5.size) = false := decide_eq_false (by omega); clear c11; by_cases c12 : 0 < (x0_5.size : Int)
        ·rw [if_pos c12] at H; have c12b0 : decide (0 < (x0_5.size : Int)) = true := decide_eq_true c12; have c12b1 : decide (0 < x0_5.size) = true := decide_eq_true (by omega); clear c12; by_cases c14 : (bt x0_5 0) = 48
         ·rw [if_pos c14] at H; have c14b0 : ((bt x0_5 0) == 48) = true := beq_iff_eq.mpr c14; have c14b1 : ((bt x0_5 0) != 48) = false := bne_eq_false_iff_eq.mpr c14; clear c14; by_cases c15 : (x0_5.size : Int) > 1
          ·rw [if_pos c15] at H; have c15b0 : decide (1 < (x0_5.size : Int)) = true := decide_eq_true c15; have c15b1 : decide (1 < x0_5.size) = true := decide_eq_true (by omega); clear c15; have H' := am H; clear H; have p13 : 0 ≤ (0 : Int) := (by omega); have q13 : 0 < x0_5.size := (by have : (0 : Int) < (x0_5.size : Int) := da; omega); have hx13 : ∀ h : 0 < x0_5.size, ((x0_5[0]'h).toNat : Int) = bt x0_5 0 := bt_at x0_5 0; clear p13; have qi13 : (0 < (x0_5.size : Int)) = True := eq_true (da); replace q13 := eq_true q13; go_wp2; go_meet
           case rel => exact ⟨_, (true), (by first | rfl | (simp; done) | (simp [*]; done)), H', ⟨by have := HJ1.out; have := HJ5.out; first | omega | exact Nat.le_refl _⟩, by repeat (first | exact Drawn0.refl _ | apply Drawn0.step)⟩
          ·rw [if_neg c15] at H; have c15b0 : decide (1 < (x0_5.size : Int)) = false := decide_eq_false c15; have c15b1 : decide (1 < x0_5.size) = false := decide_eq_false (by omega); clear c15; have H' := am H; clear H; have p13 : 0 ≤ (0 : Int) := (by omega); have q13 : 0 < x0_5.size := (by have : (0 : Int) < (x0_5.size : Int) := da; omega); have hx13 : ∀ h : 0 < x0_5.size, ((x0_5[0]'h).toNat : Int) = bt x0_5 0 := bt_at x0_5 0; clear p13; have qi13 : (0 < (x0_5.size : Int)) = True := eq_true (da); replace q13 := eq_true q13; go_wp2; go_meet
           case rel => exact ⟨_, (x4_1), (by first | rfl | (simp; done) | (simp [*]; done)), H', ⟨by have := HJ1.out; have := HJ5.out; first | omega | exact Nat.le_refl _⟩, by repeat (first | exact Drawn0.refl _ | apply Drawn0.step)⟩
         ·rw [if_neg c14] at H; have c14b0 : ((bt x0_5 0) == 48) = false := beq_eq_false_iff_ne.mpr c14; have c14b1 : ((bt x0_5 0) != 48) = true := bne_iff_ne.mpr c14; have H' := am H; clear H; have p13 : 0 ≤ (0 : Int) := (by omega); have q13 : 0 < x0_5.size := (by have : (0 : Int) < (x0_5.size : Int) := da; omega); have hx13 : ∀ h : 0 < x0_5.size, ((x0_5[0]'h).toNat : Int) = bt x0_5 0 := bt_at x0_5 0; clear p13; have qi13 : (0 < (x0_5.size : Int)) = True := eq_true (da); replace q13 := eq_true q13; go_wp2; go_meet
          case rel => exact ⟨_, (false), (by first | rfl | (simp; done) | (simp [*]; done)), H', ⟨by have := HJ1.out; have := HJ5.out; first | omega | exact Nat.le_refl _⟩, by repeat (first | exact Drawn0.refl _ | apply Drawn0.step)⟩
        ·rw [if_neg c12] at H; exact absurd H (by simp)
     case rest =>
      clear HC9; (try clear c1); (try clear p1); (try clear q1); (try clear hx1); (try clear qi1); (try clear c2); (try clear p2); (try clear c3); (try clear c3b0); (try clear c3b1); (try clear c4); (try clear c4b0); (try clear c4b1); (try clear c5); (try clear p5); (try clear q5); (try clear hx5); (try clear qi5); (try clear c7); (try clear c8); (try clear c8b0); (try clear c8b1); (try clear c10); (try clear c10b0); (try clear c10b1); (try clear c11); (try clear c11b0); (try clear c11b1); (try clear c12); (try clear c12b0); (try clear c12b1); (try clear p13); (try clear q13); (try clear hx13); (try clear qi13); (try clear c14); (try clear c14b0); (try clear c14b1); (try clear c15); (try clear c15b0); (try clear c15b1); (try clear p13); (try clear p2); (try clear p5); (try clear q13); (try clear q5); obtain ⟨kq, x38_8, rfl, HA, HJ8, ⟨mc8, rfl⟩⟩ := hcut
      cases kq with
      | zero => exact absurd HA.out (by simp [spec_l13Num.j2])
      | succ kj8 =>
       have H := HA.out; clear HA; simp only [spec_l13Num.j2] at H; by_cases c16 : x38_8 = true
       ·subst c16
        have H1 : (some (0, false)) = some (r1, r2) := by rw [if_pos rfl] at H; exact H
        clear H; have H := H1; clear H1; simp only [Option.some.injEq, Prod.mk.injEq] at H; obtain ⟨rfl, rfl⟩ := H; go_wp2; go_ret2; exact ⟨by first | rfl | (simp; done) | (simp [*]; done), by repeat (first | exact Drawn0.refl _ | apply Drawn0.step)⟩
       ·replace c16 := Bool.eq_false_iff.mpr c16; subst c16
        have H1 : (spec_l13Num.l0 kj8 x0_5 x4_1 0 0) = some (r1, r2) := by rw [if_neg (show ¬ (false = true) by decide)] at H; exact H
        clear H; have H := H1; clear H1; have H' := am H; clear H; go_wp2; go_loopg [5, 6] kj8 (fun kq v5 v6 w' => ∃ (x5_4 : Int) (x6_4 : Int), v5 = .int .i64 x5_4 ∧ v6 = .int .i64 x6_4 ∧ Aside0 (spec_l13Num.l0 kq x0_5 x4_1 x5_4 x6_4 = some (r1, r2)) ∧ Aside0 (kq ≤ kj8) ∧ Drawn0 w w')
        case atStart => exact ⟨(0), (0), (by first | rfl | (simp; done) | (simp [*]; done)), (by first | rfl | (simp; done) | (simp [*]; done)), H', ⟨Nat.le_refl _⟩, by repeat (first | exact Drawn0.refl _ | apply Drawn0.step)⟩
        case round =>
         clear H'; (try clear c1); (try clear p1); (try clear q1); (try clear hx1); (try clear qi1); (try clear c2); (try clear p2); (try clear c3); (try clear c3b0); (try clear c3b1); (try clear c4); (try clear c4b0); (try clear c4b1); (try clear c5); (try clear p5); (try clear q5); (try clear hx5); (try clear qi5); (try clear c7); (try clear c8); (try clear c8b0); (try clear c8b1); (try clear c10); (try clear c10b0); (try clear c10b1); (try clear c11); (try clear c11b0); (try clear c11b1); (try clear c12); (try clear c12b0); (try clear c12b1); (try clear p13); (try clear q13); (try clear hx13); (try clear qi13); (try clear c14); (try clear c14b0); (try clear c14b1); (try clear c15); (try clear c15b0); (try clear c15b1); (try clear c16); (try clear p1); (try clear p13); (try clear p2); (try clear p5); (try clear q1); (try clear q13); (try clear q5); obtain ⟨x5_4, x6_4, rfl, rfl, HA, HK4, ⟨m4, rfl⟩⟩ := hrel
         cases gk with
         | zero => exact absurd HA.out (by simp [spec_l13Num.l0])
         | succ k4 =>
          have H := HA.out; clear HA; simp only [spec_l13Num.l0] at H; by_cases c17 : x6_4 < (x0_5.size : Int)
          ·rw [if_pos c17] at H; have c17b0 : decide (x6_4 < (x0_5.size : Int)) = true := decide_eq_true c17; clear c17; by_cases c18 : 0 ≤ x6_4
           ·rw [if_pos c18] at H; have c18b0 : decide (0 ≤ x6_4) = true := decide_eq_true c18; clear c18; by_cases c20 : (bt x0_5 x6_4) < 48
            ·rw [if_pos c20] at H; have c20b0 : decide ((bt x0_5 x6_4) < 48) = true := decide_eq_true c20; clear c20; simp only [Option.some.injEq, Prod.mk.injEq] at H; obtain ⟨rfl, rfl⟩ := H; have p19 : 0 ≤ (x6_4 : Int) := da; have q19 : x6_4 < (x0_5.size : Int) := da; have hx19 := bt_at x0_5 x6_4; replace p19 := eq_true p19; replace q19 := eq_true q19; go_wp2; go_ret2; exact ⟨by first | rfl | (simp; done) | (simp [*]; done), by repeat (first | exact Drawn0.refl _ | apply Drawn0.step)⟩
            ·rw [if_neg c20] at H; have c20b0 : decide ((bt x0_5 x6_4) < 48) = false := decide_eq_false c20; clear c20; by_cases c22 : (bt x0_5 x6_4) > 57
             ·rw [if_pos c22] at H; have c22b0 : decide (57 < (bt x0_5 x6_4)) = true := decide_eq_true c22; clear c22; simp only [Option.some.injEq, Prod.mk.injEq] at H; obtain ⟨rfl, rfl⟩ := H; have p19 : 0 ≤ (x6_4 : Int) := da; have q19 : x6_4 < (x0_5.size : Int) := da; have hx19 := bt_at x0_5 x6_4; replace p19 := eq_true p19; replace q19 := eq_true q19; have p21 : 0 ≤ (x6_4 : Int) := da; have q21 : x6_4 < (x0_5.size : Int) := da; have hx21 := bt_at x0_5 x6_4; replace p21 := eq_true p21; replace q21 := eq_true q21; go_wp2; go_ret2; exact ⟨by first | rfl | (simp; done) | (simp [*]; done), by repeat (first | exact Drawn0.refl _ | apply Drawn0.step)⟩
             ·rw [if_neg c22] at H; have c22b0 : decide (57 < (bt x0_5 x6_4)) = false := decide_eq_false c22; clear c22; have H' := am H; clear H; have p19 : 0 ≤ (x6_4 : Int) := da; have q19 : x6_4 < (x0_5.size : Int) := da; have hx19 := bt_at x0_5 x6_4; replace p19 := eq_true p19; replace q19 := eq_true q19; have p21 : 0 ≤ (x6_4 : Int) := da; have q21 : x6_4 < (x0_5.size : Int) := da; have hx21 := bt_at x0_5 x6_4; replace p21 := eq_true p21; replace q21 := eq_true q21; have p23 : 0 ≤ (x6_4 : Int) := da; have q23 : x6_4 < (x0_5.size : Int) := da; have hx23 := bt_at x0_5 x6_4; replace p23 := eq_true p23; replace q23 := eq_true q23; go_wp2; go_roundg k4
              case measure => have := HJ1.out; have := HJ5.out; have := HJ8.out; have := HK4.out; omega
              case rel => exact ⟨(wrap64 ((wrap64 (x5_4 * 10)) + (((bt x0_5 x6_4) - 48) % 256))), (wrap64 (x6_4 + 1)), (by first | rfl | (simp; done) | (simp [*]; done)), (by first | rfl | (simp; done) | (simp [*]; done)), H', ⟨by have := HJ1.out; have := HJ5.out; have := HJ8.out; have := HK4.out; omega⟩, by repeat (first | exact Drawn0.refl _ | apply Drawn0.step)⟩
           ·rw [if_neg c18] at H; exact absurd H (by simp)
          ·rw [if_neg c17] at H; have c17b0 : decide (x6_4 < (x0_5.size : Int)) = false := decide_eq_false c17; clear c17; by_cases c24 : x4_1 = true
           ·subst c24
            have H1 : (some (wrap64 (-x5_4), true)) = some (r1, r2) := by rw [if_pos rfl] at H; exact H
            clear H; have H := H1; clear H1; simp only [Option.some.injEq, Prod.mk.injEq] at H; obtain ⟨rfl, rfl⟩ := H; go_wp2; go_ret2; exact ⟨by first | rfl | (simp; done) | (simp [*]; done), by repeat (first | exact Drawn0.refl _ | apply Drawn0.step)⟩
           ·replace c24 := Bool.eq_false_iff.mpr c24; subst c24
            have H1 : (some (x5_4, true)) = some (r1, r2) := by rw [if_neg (show ¬ (false = true) by decide)] at H; exact H
            clear H; have H := H1; clear H1; simp only [Option.some.injEq, Prod.mk.injEq] at H; obtain ⟨rfl, rfl⟩ := H; go_wp2; go_ret2; exact ⟨by first | rfl | (simp; done) | (simp [*]; done), by repeat (first | exact Drawn0.refl _ | apply Drawn0.step)⟩

/-! ### spec_l3Read: function 29 -/
def spec_l3Read.l0 : Nat → List Int → List ByteArray → Int → Int → Option (List Int × Bool)
 | 0, _, _, _, _ => none
 | k + 1, x4, x14, x15, x16 => if x16 < x15 then (if 0 ≤ x16 then (if x16 < (x14.length : Int) then ((spec_l13Num.f k (rdOf ByteArray.empty x14 x16)).bind fun bt147 => (if bt147.2 = true then (if x4.length < 17592186044416 then (spec_l3Read.l0 k (x4 ++ [bt147.1]) x14 x15 (wrap64 (x16 + 1))) else (none)) else (some ((([] : List Int)), false)))) else (none)) else (none)) else (some (x4, true))
def spec_l3Read.f (k : Nat) (a0 : ByteArray) : Option (List Int × Bool) := (some (([] : List Int) : List Int)).bind fun y140 => (if a0.toList = ([] : List UInt8) then (some (y140, true)) else ((spec_l13Cut.f k a0 32).bind fun t143 => (spec_l3Read.l0 k y140 t143 (t143.length : Int) 0)))
theorem spec_l3Read.mono_l : ∀ k, (∀ y0 y1 y2 y3, LeO (spec_l3Read.l0 k y0 y1 y2 y3) (spec_l3Read.l0 (k + 1) y0 y1 y2 y3))
 | 0 => fun _ _ _ _ r h => by simp [spec_l3Read.l0] at h
 | k + 1 => by
  have ih0 := spec_l3Read.mono_l k
  ·intro y0 y1 y2 y3; unfold spec_l3Read.l0; repeat' first
   | (with_reducible exact ih0 _ _ _ _)
   | (with_reducible exact spec_l13Cut.mono _ _ _)
   | (with_reducible exact spec_l13Num.mono _ _)
   | (with_reducible exact LeO.refl _)
   | (with_reducible exact LeO.none _)
   | (with_reducible refine LeO.ite ?_ ?_)
   | (with_reducible refine LeO.bind ?_ (fun _ => ?_))
   | exact ih0 _ _ _ _
   | exact spec_l13Cut.mono _ _ _
   | exact spec_l13Num.mono _ _
   | exact LeO.none _
   | refine LeO.ite ?_ ?_
   | refine LeO.bind ?_ (fun _ => ?_)
theorem spec_l3Read.mono : ∀ a0 k, LeO (spec_l3Read.f k a0) (spec_l3Read.f (k + 1) a0) := by
 intro a0 k; have ih0 := spec_l3Read.mono_l k; unfold spec_l3Read.f; repeat' first
   | (with_reducible exact ih0 _ _ _ _)
   | (with_reducible exact spec_l13Cut.mono _ _ _)
   | (with_reducible exact spec_l13Num.mono _ _)
   | (with_reducible exact LeO.refl _)
   | (with_reducible exact LeO.none _)
   | (with_reducible refine LeO.ite ?_ ?_)
   | (with_reducible refine LeO.bind ?_ (fun _ => ?_))
   | exact ih0 _ _ _ _
   | exact spec_l13Cut.mono _ _ _
   | exact spec_l13Num.mono _ _
   | exact LeO.none _
   | refine LeO.ite ?_ ?_
   | refine LeO.bind ?_ (fun _ => ?_)
set_option maxHeartbeats 8000000 in
set_option maxRecDepth 100000 in
theorem spec_l3Read.calls (k : Nat) (a0 : ByteArray) (r1 : List Int) (r2 : Bool) (w : World) (h : spec_l3Read.f k a0 = some (r1, r2)) :
  Calls Tryd.prog 29 #[.string a0] w fun e w' => ∃ v0_ : Value, e = .returned (.tuple #[v0_, .bool r2]) ∧ Kd.R (Kd.int .i64) 3 w' w.heap.size (fun _ => True) v0_ r1 ∧ Below w.heap.size w w' := by
 have HB := am (Below.refl w.heap.size w); have H : ((some (([] : List Int) : List Int)).bind fun y140 => (if a0.toList = ([] : List UInt8) then (some (y140, true)) else ((spec_l13Cut.f k a0 32).bind fun t143 => (spec_l3Read.l0 k y140 t143 (t143.length : Int) 0)))) = some (r1, r2) := h; clear h; obtain ⟨y140, hy140⟩ : ∃ y_ : List Int, y_ = (([] : List Int)) := ⟨_, rfl⟩
 replace H : (if a0.toList = ([] : List UInt8) then (some (y140, true)) else ((spec_l13Cut.f k a0 32).bind fun t143 => (spec_l3Read.l0 k y140 t143 (t143.length : Int) 0))) = some (r1, r2) := by first | (rw [hy140]; with_reducible exact H) | (have H2_ := (Option.bind_some _ _).symm.trans H; rw [hy140]; with_reducible exact H2_) | (have H2_ := (Option.bind_some _ _).symm.trans H; with_reducible exact H2_) | with_reducible exact H | (rw [hy140]; exact H) | exact H
 have Ny140 := am hy140; clear hy140; by_cases c2 : a0.toList = ([] : List UInt8)
 ·rw [if_pos c2] at H; have c2b0 : (a0.toList == ([] : List UInt8)) = true := beq_iff_eq.mpr c2; have c2b1 : (a0.toList != ([] : List UInt8)) = false := bne_eq_false_iff_eq.mpr c2; clear c2; simp only [Option.some.injEq, Prod.mk.injEq] at H; obtain ⟨rfl, rfl⟩ := H; go_enter Tryd.func29, Tryd.ntmps29; go_wp2_with (first | ((with_reducible refine gx 9 rfl ?_); refine Kd.R_lit (Kd.int .i64) _ 3 ?hg (N := 9) ?hd (xs := ([] : List Int)) (inner := []) (ok := fun _ => True) (okp := fun _ => True) ?hr ?hp (fun _ hk => hk) trivial (Below.refl _ _) (Nat.le_refl _) (by simp) ?_; (case hd => rfl); (case hg => rfl); (case hr => first | (go_simp; done) | (go_simp; rfl)); (case hp => exact (Reps.none _ _)); intro v141 w3 ho4 hb hg_ hnew_; clear hg_ hnew_; (first | rw [← Ny140.out] at ho4 | (simp only [Int.reduceToNat] at ho4; rw [← Ny140.out] at ho4)); have n0_ := am (Kd.R_lower ho4 (below_size (bz HB.out))); have n1_ := hs HB hb; clear HB; revert n0_ n1_; intro HO142 HB; clear hb ho4)); go_ret2; exact ⟨_, by first | rfl | (simp [errW_none, errW_some] <;> rfl) | (simp [*, errW_none, errW_some] <;> rfl), rz HO142.out, by exact bz HB.out⟩
 ·rw [if_neg c2] at H; have c2b0 : (a0.toList == ([] : List UInt8)) = false := beq_eq_false_iff_ne.mpr c2; have c2b1 : (a0.toList != ([] : List UInt8)) = true := bne_iff_ne.mpr c2; replace H := Option.bind_eq_some_iff.mp H; obtain ⟨t143, A50, H⟩ := H; (try dsimp only at H); have A5 := am A50; clear A50; have H' := am H; clear H; go_enter Tryd.func29, Tryd.ntmps29; go_wp2_with (first | ((with_reducible refine gx 9 rfl ?_); refine Kd.R_lit (Kd.int .i64) _ 3 ?hg (N := 9) ?hd (xs := ([] : List Int)) (inner := []) (ok := fun _ => True) (okp := fun _ => True) ?hr ?hp (fun _ hk => hk) trivial (Below.refl _ _) (Nat.le_refl _) (by simp) ?_; (case hd => rfl); (case hg => rfl); (case hr => first | (go_simp; done) | (go_simp; rfl)); (case hp => exact (Reps.none _ _)); intro v141 w6 ho7 hb hg_ hnew_; clear hg_ hnew_; (first | rw [← Ny140.out] at ho7 | (simp only [Int.reduceToNat] at ho7; rw [← Ny140.out] at ho7)); have n0_ := am (Kd.R_lower ho7 (below_size (bz HB.out))); have n1_ := hs HB hb; clear HB; revert n0_ n1_; intro HO142 HB; clear hb ho7) | ((with_reducible refine gy 27 rfl ?_); refine gl Tryd.func27 #[.string a0, .int .u8 32] ?_; (with_reducible refine (spec_l13Cut.calls k a0 32 t143 _ A5.out).mono ?_); rintro e w8 ⟨v144, rfl, ho0, hb⟩; refine ⟨_, rfl, ?_⟩; have n0_ := rb HO142 hb; have n1_ := am (Kd.R_lower ho0 (below_size (bz HB.out))); have n2_ := hs HB hb; clear HO142 HB; revert n0_ n1_ n2_; intro HO142 HO145 HB; (try clear hb); (try clear hb2); (try clear hk); (try clear hi); (try clear ho0); obtain ⟨Ao9, co9, eo9⟩ := Kd.R_slice HO145.out; subst eo9)); go_loopg [4, 16] k (fun kq v4 v16 w' => ∃ (x4_1 : List Int) (x16_1 : Int), v16 = .int .i64 x16_1 ∧ Aside0 (spec_l3Read.l0 kq x4_1 t143 (t143.length : Int) x16_1 = some (r1, r2)) ∧ Aside0 (kq ≤ k) ∧ Aside0 (Kd.R (Kd.int .i64) 3 w' w.heap.size (fun _ => True) v4 x4_1) ∧ Aside0 (Kd.R Kd.string 9 w' w.heap.size (fun _ => True) (.slice Ao9 t143.length co9) t143) ∧ Aside0 (Below w.heap.size w w'))
  case atStart => exact ⟨(y140), (0), (by first | rfl | (simp; done) | (simp [*]; done)), H', ⟨Nat.le_refl _⟩, ⟨rz HO142.out⟩, ⟨rz HO145.out⟩, ⟨by exact bz HB.out⟩⟩
  case round =>
   clear H'; (try clear c2); (try clear c2b0); (try clear c2b1); (try clear p2); obtain ⟨x4_1, x16_1, rfl, HA, HK1, HO_4, HO_14, HB⟩ := hrel
   cases gk with
   | zero => exact absurd HA.out (by simp [spec_l3Read.l0])
   | succ k1 =>
    have H := HA.out; clear HA; simp only [spec_l3Read.l0] at H; by_cases c10 : x16_1 < (t143.length : Int)
    ·rw [if_pos c10] at H; have c10b0 : decide (x16_1 < (t143.length : Int)) = true := decide_eq_true c10; clear c10; by_cases c11 : 0 ≤ x16_1
     ·rw [if_pos c11] at H; have c11b0 : decide (0 ≤ x16_1) = true := decide_eq_true c11; clear c11; by_cases c12 : x16_1 < (t143.length : Int)
      ·rw [if_pos c12] at H; have c12b0 : decide (x16_1 < (t143.length : Int)) = true := decide_eq_true c12; clear c12; replace H := Option.bind_eq_some_iff.mp H; obtain ⟨⟨t147, t148⟩, A130, H⟩ := H; (try dsimp only at H); have A13 := am A130; clear A130; by_cases c14 : t148 = true
       ·subst c14
        have H1 : (if x4_1.length < 17592186044416 then (spec_l3Read.l0 k1 (x4_1 ++ [t147]) t143 (t143.length : Int) (wrap64 (x16_1 + 1))) else (none)) = some (r1, r2) := by rw [if_pos rfl] at H; exact H
        clear H; have H := H1; clear H1; by_cases c15 : x4_1.length < 17592186044416
        ·rw [if_pos c15] at H; have LMc15 := am c15; clear c15; obtain ⟨y149, hy149⟩ : ∃ y_ : List Int, y_ = (x4_1 ++ [t147]) := ⟨_, rfl⟩
         replace H : (spec_l3Read.l0 k1 y149 t143 (t143.length : Int) (wrap64 (x16_1 + 1))) = some (r1, r2) := by first | (rw [hy149]; with_reducible exact H) | (have H2_ := (Option.bind_some _ _).symm.trans H; rw [hy149]; with_reducible exact H2_) | (have H2_ := (Option.bind_some _ _).symm.trans H; with_reducible exact H2_) | with_reducible exact H | (rw [hy149]; exact H) | exact H
         have Ny149 := am hy149; clear hy149; have H' := am H; clear H; have p146 : 0 ≤ (x16_1 : Int) := da; have q146 : x16_1 < (t143.length : Int) := da; obtain ⟨ad146, e146, hx146_0⟩ := Kd.at_string (Kd.R_reads' HO_14.out).2.2 x16_1 p146 q146; cases e146; replace p146 := eq_true p146; replace q146 := eq_true q146; go_wp2_with (first | ((with_reducible refine gy 28 rfl ?_); refine gl Tryd.func28 #[.string (rdOf ByteArray.empty t143 x16_1)] ?_; (with_reducible refine (spec_l13Num.calls k1 (rdOf ByteArray.empty t143 x16_1) t147 true _ A13.out).mono ?_); rintro e w' ⟨rfl, ⟨nd, rfl⟩⟩; refine ⟨_, rfl, ?_⟩) | ((with_reducible refine gate_builtin (b := .append) (xs := #[.tmp 28, .tmp 30]) rfl ?_); at_builtin; refine Kd.R_append (Kd.int .i64) (w0 := w) w.heap.size rfl (.tmp 28) (.tmp 30) 22 3 (.int .i64 0) 8 rfl Tryd.underlying22 info3 rfl (by decide) (by omega) u4 x4_1 t147 [.int .i64 t147] (fun _ => True) (fun _ => False) rfl rfl ?aP (fun _ hk => hk.elim) ?aF ?aO ?aB ?aS ?aL ?_; (case aP => exact rfl); (case aB => exact (bz HB.out)); (case aF => exact (fun _ _ => trivial)); (case aO => exact (rz HO_4.out)); (case aS => exact (below_size (bz HB.out))); (case aL => have := LMc15.out; omega); intro v150 w16 ho hb hg hat; rw [← Ny149.out] at ho; have n0_ := am (Kd.R_over' (rz HO_14.out) (Kd.R_typed (rz HO_4.out)) (by decide) hg); have n1_ := am (hb); have n2_ := am (ho); clear HO_14 HB HO_4; revert n0_ n1_ n2_; intro HO_14 HB HO151; clear ho hb hg hat)); go_roundg k1
         case measure => have := HK1.out; omega
         case rel => exact ⟨(y149), (wrap64 (x16_1 + 1)), (by first | rfl | (simp; done) | (simp [*]; done)), H', ⟨by have := HK1.out; omega⟩, ⟨rz HO151.out⟩, ⟨rz HO_14.out⟩, ⟨by exact bz HB.out⟩⟩
        ·rw [if_neg c15] at H; exact absurd H (by simp)
       ·replace c14 := Bool.eq_false_iff.mpr c14; subst c14
        have H1 : (some ((([] : List Int)), false)) = some (r1, r2) := by rw [if_neg (show ¬ (false = true) by decide)] at H; exact H
        clear H; have H := H1; clear H1; obtain ⟨y152, hy152⟩ : ∃ y_ : List Int, y_ = (([] : List Int)) := ⟨_, rfl⟩
        replace H : (some (y152, false)) = some (r1, r2) := by first | (rw [hy152]; with_reducible exact H) | (have H2_ := (Option.bind_some _ _).symm.trans H; rw [hy152]; with_reducible exact H2_) | (have H2_ := (Option.bind_some _ _).symm.trans H; with_reducible exact H2_) | with_reducible exact H | (rw [hy152]; exact H) | exact H
        have Ny152 := am hy152; clear hy152; simp only [Option.some.injEq, Prod.mk.injEq] at H; obtain ⟨rfl, rfl⟩ := H; have p146 : 0 ≤ (x16_1 : Int) := da; have q146 : x16_1 < (t143.length : Int) := da; obtain ⟨ad146, e146, hx146_0⟩ := Kd.at_string (Kd.R_reads' HO_14.out).2.2 x16_1 p146 q146; cases e146; replace p146 := eq_true p146; replace q146 := eq_true q146; go_wp2_with (first | ((with_reducible refine gy 28 rfl ?_); refine gl Tryd.func28 #[.string (rdOf ByteArray.empty t143 x16_1)] ?_; (with_reducible refine (spec_l13Num.calls k1 (rdOf ByteArray.empty t143 x16_1) t147 false _ A13.out).mono ?_); rintro e w' ⟨rfl, ⟨nd, rfl⟩⟩; refine ⟨_, rfl, ?_⟩) | ((with_reducible refine gx 27 rfl ?_); refine Kd.R_lit (Kd.int .i64) _ 3 ?hg (N := 27) ?hd (xs := ([] : List Int)) (inner := []) (ok := fun _ => True) (okp := fun _ => True) ?hr ?hp (fun _ hk => hk) trivial (Below.refl _ _) (Nat.le_refl _) (by simp) ?_; (case hd => rfl); (case hg => rfl); (case hr => first | (go_simp; done) | (go_simp; rfl)); (case hp => exact (Reps.none _ _)); intro v153 w17 ho18 hb hg_ hnew_; clear hg_ hnew_; (first | rw [← Ny152.out] at ho18 | (simp only [Int.reduceToNat] at ho18; rw [← Ny152.out] at ho18)); have n0_ := el HO_4 (Kd.R_base ho18) hb; have n1_ := rb HO_14 hb; have n2_ := am (Kd.R_lower (Kd.R_new' ho18 (Kd.R_lt (rz HO_4.out))) (below_size (bz HB.out))); have n3_ := hs HB hb; clear HO_4 HO_14 HB; revert n0_ n1_ n2_ n3_; intro HO_4 HO_14 HO154 HB; clear hb ho18)); go_ret2; exact ⟨_, by first | rfl | (simp [errW_none, errW_some] <;> rfl) | (simp [*, errW_none, errW_some] <;> rfl), rq (Kd.R_mono HO154.out (fun _ hk => trivial)), by exact bz HB.out⟩
      ·rw [if_neg c12] at H; exact absurd H (by simp)
     ·rw [if_neg c11] at H; exact absurd H (by simp)
    ·rw [if_neg c10] at H; have c10b0 : decide (x16_1 < (t143.length : Int)) = false := decide_eq_false c10; clear c10; simp only [Option.some.injEq, Prod.mk.injEq] at H; obtain ⟨rfl, rfl⟩ := H; go_wp2; go_ret2; exact ⟨_, by first | rfl | (simp [errW_none, errW_some] <;> rfl) | (simp [*, errW_none, errW_some] <;> rfl), rz HO_4.out, by exact bz HB.out⟩

end Go.Proofs.YtojfbgegankddaaDoor.PGQ
