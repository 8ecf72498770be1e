/- The pure statement of FnExactTimesCost: the printed functions answer true at every input that can be read. -/
import Derived.Test.YthgkfakkpinbcaaPFnExactTimesCostx1
set_option linter.unusedVariables false
set_option linter.unusedSimpArgs false
namespace Go.Proofs.Ythgkfakkpinbcaa.Pure
open Go.RowKit Go.Proofs.Ythgkfakkpinbcaa.PFnExactTimesCost Go.Proofs.YthgkfakkpinbcaaW.PrintWords Go.Proofs.YthgkfakkpinbcaaW.PrintLast Go.Proofs.YthgkfakkpinbcaaW.PrintMore

theorem w64 {x : Int} (h0 : -9223372036854775808 ≤ x) (h1 : x ≤ 9223372036854775807) : wrap64 x = x := by unfold wrap64; omega
theorem cast0 : ((0 : Nat) : Int) = 0 := rfl
theorem w64n {i : Nat} (h : i < 9223372036854775807) : wrap64 ((i : Int) + 1) = ((i + 1 : Nat) : Int) := by rw [w64 (by omega) (by omega)]; omega
theorem rd_nat {l : List Int} {i : Nat} (h : i < l.length) : rd l (i : Int) = l[i] := by simp [rd, List.getD_eq_getElem?_getD, h]
theorem mn_eq (a b : Int) : mn a b = min a b := by unfold mn; split <;> omega
theorem mx_eq (a b : Int) : mx a b = max a b := by unfold mx; split <;> omega
theorem down (n : Nat) {P : Nat → Prop} (h0 : P n) (hs : ∀ i, i < n → P (i + 1) → P i) : ∀ i, i ≤ n → P i := by
  have h : ∀ d i, i + d = n → P i := by
    intro d
    induction d with
    | zero => intro i hi; obtain rfl : i = n := by omega
              exact h0
    | succ d ih => intro i hi; exact hs i (by omega) (ih (i + 1) (by omega))
  exact fun i hi => h (n - i) i (by omega)
theorem ev_to {α : Type} {g : Nat → Option α} {r r' : α} (h : Ev g r) (e : r = r') : Ev g r' := e ▸ h
theorem dropc {α : Type} {l : List α} {i : Nat} (h : i < l.length) : l.drop i = l[i] :: l.drop (i + 1) := List.drop_eq_getElem_cons h
theorem dropn {α : Type} (l : List α) : l.drop l.length = [] := List.drop_eq_nil_of_le (Nat.le_refl _)
theorem wf64 {x : Int} (h : (Lit.int .i64 x).wf = true) : -9223372036854775808 ≤ x ∧ x ≤ 9223372036854775807 := by
  simp [Lit.wf, IntKind.min, IntKind.max, IntKind.signed, IntKind.bits] at h
  omega
theorem wf8 {x : Int} (h : (Lit.int .u8 x).wf = true) : 0 ≤ x ∧ x ≤ 255 := by
  simp [Lit.wf, IntKind.min, IntKind.max, IntKind.signed, IntKind.bits] at h
  omega
theorem nnc (q : Nat) : (0 : Int) ≤ (q : Int) := Int.natCast_nonneg q
theorem ltc {a b : Nat} (h : a < b) : (a : Int) < (b : Int) := Int.ofNat_lt.2 h
/-- A cost: between 0 and 1000000. -/
def cv (a : Int) : Bool := decide (0 ≤ a ∧ a ≤ 1000000)
theorem cv_iff {a : Int} : cv a = true ↔ 0 ≤ a ∧ a ≤ 1000000 := by simp [cv]
theorem impl_CostValid_eq (a : Int) : impl_CostValid.f a = some (cv a) := by
  unfold impl_CostValid.f cv
  split <;> simp <;> omega
/-- So many times a cost, at most 1000000. -/
def timesc (n a : Int) : Int := if n < 0 ∨ cv a = false then -1 else min (n * a) 1000000
theorem times_core {n a : Int} (ha : 0 < a) : (1000000 / a < n → 1000000 < n * a) ∧ (n ≤ 1000000 / a → n * a ≤ 1000000) := by
  have h1 := Int.lt_ediv_add_one_mul_self 1000000 ha
  have h2 := Int.ediv_mul_le 1000000 (show a ≠ 0 by omega)
  constructor
  · intro h
    have := Int.mul_le_mul_of_nonneg_right (show 1000000 / a + 1 ≤ n by omega) (show 0 ≤ a by omega)
    omega
  · intro h
    have := Int.mul_le_mul_of_nonneg_right h (show 0 ≤ a by omega)
    omega
theorem times_div {a : Int} (ha : 0 < a) : 0 ≤ 1000000 / a ∧ 1000000 / a ≤ 1000000 := by
  have h1 := Int.ediv_nonneg (show (0 : Int) ≤ 1000000 by omega) (show 0 ≤ a by omega)
  have h2 := Int.ediv_le_self a (show (0 : Int) ≤ 1000000 by omega)
  omega
theorem times_nn {n a : Int} (hn : 0 ≤ n) (ha : 0 ≤ a) : 0 ≤ n * a := Int.mul_nonneg hn ha
theorem timesc_pos {n a : Int} (hn : 0 ≤ n) (ha : cv a = true) : timesc n a = min (n * a) 1000000 := by
  unfold timesc
  rw [if_neg]
  rintro (h | h)
  · omega
  · rw [ha] at h; cases h
theorem impl_times_eq {n a : Int} (hn : 0 ≤ n) (ha : 0 < a) : impl_times.f n a = some (min (n * a) 1000000) := by
  have h := @times_core n a ha
  have hd := times_div ha
  have hp := times_nn hn (show 0 ≤ a by omega)
  unfold impl_times.f
  try simp only [Int.tdiv_eq_ediv_of_nonneg (show (0 : Int) ≤ 1000000 by omega)]
  rw [if_neg (by omega), w64 (by omega) (by omega)]
  by_cases hq : n > 1000000 / a
  · have := h.1 hq
    rw [if_pos hq]
    congr 1
    omega
  · have := h.2 (by omega)
    rw [if_neg hq, w64 (by omega) (by omega)]
    congr 1
    omega
theorem impl_TimesCost_ev (n a : Int) : Ev (fun k => impl_TimesCost.f k n a) (timesc n a) := by
  simp only [impl_TimesCost.f]
  by_cases hn : n < 0
  · simp only [if_pos hn]
    refine Ev.step (fun k => rfl) ?_
    simp only [impl_TimesCost.j0, if_true]
    exact ev_to (Ev.now _) (by simp [timesc, hn])
  · simp only [if_neg hn, impl_CostValid_eq, Option.bind_some]
    refine Ev.step (fun k => rfl) ?_
    simp only [impl_TimesCost.j0]
    cases hc : cv a with
    | false => exact ev_to (Ev.now (-1)) (by simp [timesc, hc])
    | true =>
      by_cases ha : a = 0
      · subst ha
        exact ev_to (Ev.now 0) (by rw [timesc_pos (by omega) hc]; omega)
      · have hb := cv_iff.1 hc
        simp only [Bool.not_true, Bool.false_eq_true, if_false, if_neg ha, impl_times_eq (show 0 ≤ n by omega) (show 0 < a by omega), Option.bind_some]
        exact ev_to (Ev.now _) (timesc_pos (by omega) hc).symm
theorem spec_l1In_eq (a b c : Int) : spec_l1In.f a b c = some (decide (b ≤ a ∧ a ≤ c)) := by
  unfold spec_l1In.f
  split <;> simp <;> omega
theorem spec_CostValid_eq (a : Int) : spec_CostValid.f a = some (cv a) := by
  unfold spec_CostValid.f
  rw [spec_l1In_eq]
  rfl
theorem spec_TimesCost_ev (n a : Int) : Ev (fun k => spec_TimesCost.f k n a) (timesc n a) := by
  simp only [spec_TimesCost.f]
  by_cases hn : n < 0
  · simp only [if_pos hn]
    refine Ev.step (fun k => rfl) ?_
    simp only [spec_TimesCost.j0, if_true]
    exact ev_to (Ev.now _) (by simp [timesc, hn])
  · simp only [if_neg hn, spec_CostValid_eq, Option.bind_some]
    refine Ev.step (fun k => rfl) ?_
    simp only [spec_TimesCost.j0]
    cases hc : cv a with
    | false => exact ev_to (Ev.now (-1)) (by simp [timesc, hc])
    | true =>
      have hb := cv_iff.1 hc
      have hp := times_nn (show 0 ≤ n by omega) (show 0 ≤ a by omega)
      simp only [Bool.not_true, Bool.false_eq_true, if_false]
      by_cases h0 : n = 0
      · subst h0
        simp only [if_true]
        refine Ev.step (fun k => rfl) ?_
        simp only [spec_TimesCost.j1, if_true]
        exact ev_to (Ev.now 0) (by rw [timesc_pos (by omega) hc]; omega)
      · simp only [if_neg h0]
        refine Ev.step (fun k => rfl) ?_
        simp only [spec_TimesCost.j1]
        by_cases ha : a = 0
        · subst ha
          exact ev_to (Ev.now 0) (by rw [timesc_pos (by omega) hc]; omega)
        · have hd := times_div (show 0 < a by omega)
          have h := @times_core n a (by omega)
          simp only [Int.tdiv_eq_ediv_of_nonneg (show (0 : Int) ≤ 1000000 by omega), beq_iff_eq, if_neg ha, w64 (show -9223372036854775808 ≤ 1000000 / a by omega) (show 1000000 / a ≤ 9223372036854775807 by omega)]
          by_cases hq : n > 1000000 / a
          · have := h.1 hq
            simp only [if_pos hq]
            exact ev_to (Ev.now _) (by rw [timesc_pos (by omega) hc]; omega)
          · have := h.2 (by omega)
            simp only [if_neg hq, mn_eq, w64 (show -9223372036854775808 ≤ n * a by omega) (show n * a ≤ 9223372036854775807 by omega)]
            exact ev_to (Ev.now _) (timesc_pos (by omega) hc).symm
theorem FnExactTimesCost : laws_FnExactTimesCost.Pure := by
  intro a b _ _
  refine Ev.rounds ?_
  simp only [laws_FnExactTimesCost.f]
  refine Ev.bind (spec_TimesCost_ev a b) (Ev.bind (impl_TimesCost_ev a b) ?_)
  simpa using Ev.now _

end Go.Proofs.Ythgkfakkpinbcaa.Pure
