/- The pure statement of FnExactSameMatrix: the printed functions answer true at every input that can be read. -/
import Derived.Test.YthgkfakkpinbcaaPFnExactSameMatrixx2
set_option linter.unusedVariables false
set_option linter.unusedSimpArgs false
namespace Go.Proofs.Ythgkfakkpinbcaa.Pure
open Go.RowKit Go.Proofs.Ythgkfakkpinbcaa.PFnExactSameMatrix Go.Proofs.YthgkfakkpinbcaaW.PrintWords Go.Proofs.YthgkfakkpinbcaaW.PrintLast Go.Proofs.YthgkfakkpinbcaaW.PrintMore

theorem w64 {x : Int} (h0 : -9223372036854775808 ≤ x) (h1 : x ≤ 9223372036854775807) : wrap64 x = x := by unfold wrap64; omega
theorem cast0 : ((0 : Nat) : Int) = 0 := rfl
theorem w64n {i : Nat} (h : i < 9223372036854775807) : wrap64 ((i : Int) + 1) = ((i + 1 : Nat) : Int) := by rw [w64 (by omega) (by omega)]; omega
theorem rd_nat {l : List Int} {i : Nat} (h : i < l.length) : rd l (i : Int) = l[i] := by simp [rd, List.getD_eq_getElem?_getD, h]
theorem mn_eq (a b : Int) : mn a b = min a b := by unfold mn; split <;> omega
theorem mx_eq (a b : Int) : mx a b = max a b := by unfold mx; split <;> omega
theorem down (n : Nat) {P : Nat → Prop} (h0 : P n) (hs : ∀ i, i < n → P (i + 1) → P i) : ∀ i, i ≤ n → P i := by
  have h : ∀ d i, i + d = n → P i := by
    intro d
    induction d with
    | zero => intro i hi; obtain rfl : i = n := by omega
              exact h0
    | succ d ih => intro i hi; exact hs i (by omega) (ih (i + 1) (by omega))
  exact fun i hi => h (n - i) i (by omega)
theorem ev_to {α : Type} {g : Nat → Option α} {r r' : α} (h : Ev g r) (e : r = r') : Ev g r' := e ▸ h
theorem dropc {α : Type} {l : List α} {i : Nat} (h : i < l.length) : l.drop i = l[i] :: l.drop (i + 1) := List.drop_eq_getElem_cons h
theorem dropn {α : Type} (l : List α) : l.drop l.length = [] := List.drop_eq_nil_of_le (Nat.le_refl _)
theorem wf64 {x : Int} (h : (Lit.int .i64 x).wf = true) : -9223372036854775808 ≤ x ∧ x ≤ 9223372036854775807 := by
  simp [Lit.wf, IntKind.min, IntKind.max, IntKind.signed, IntKind.bits] at h
  omega
theorem wf8 {x : Int} (h : (Lit.int .u8 x).wf = true) : 0 ≤ x ∧ x ≤ 255 := by
  simp [Lit.wf, IntKind.min, IntKind.max, IntKind.signed, IntKind.bits] at h
  omega
theorem nnc (q : Nat) : (0 : Int) ≤ (q : Int) := Int.natCast_nonneg q
theorem ltc {a b : Nat} (h : a < b) : (a : Int) < (b : Int) := Int.ofNat_lt.2 h
theorem slices_Equal_ev (a b : List Int) (ha : a.length < 9223372036854775807) : Ev (fun k => slices_Equal_int_int.f k a b) (decide (a = b)) := by
  by_cases hab : a.length = b.length
  · have h := down a.length (P := fun i => Ev (fun k => slices_Equal_int_int.l0 k a b (a.length : Int) (i : Int)) (decide (a.drop i = b.drop i))) ?_ ?_ 0 (by omega)
    · simpa only [slices_Equal_int_int.f, if_pos (show (a.length : Int) = (b.length : Int) by omega), List.drop_zero, cast0] using h
    · refine Ev.step (fun k => rfl) ?_
      simp only [slices_Equal_int_int.l0, if_neg (show ¬ (a.length : Int) < (a.length : Int) by omega)]
      exact ev_to (Ev.now _) (by rw [dropn, hab, dropn]; rfl)
    · intro i hi ih
      have hi' : i < b.length := by omega
      refine Ev.step (fun k => rfl) ?_
      simp only [slices_Equal_int_int.l0, if_pos (show (i : Int) < (a.length : Int) by omega), if_pos (show (0 : Int) ≤ (i : Int) by omega), if_pos (show (i : Int) < (b.length : Int) by omega), rd_nat hi, rd_nat hi', w64n (show i < 9223372036854775807 by omega)]
      by_cases e : a[i] = b[i]
      · simp only [if_pos e]
        exact ev_to ih (by rw [dropc hi, dropc hi']; simp only [List.cons.injEq, e, true_and])
      · simp only [if_neg e]
        exact ev_to (Ev.now false) (by rw [dropc hi, dropc hi']; simp only [List.cons.injEq, e, false_and, decide_false])
  · simp only [slices_Equal_int_int.f, if_neg (show ¬ (a.length : Int) = (b.length : Int) by omega)]
    exact ev_to (Ev.now _) (by symm; rw [decide_eq_false_iff_not]; exact fun e => hab (by rw [e]))
theorem spec_l2Same_ev (a b : List Int) (ha : a.length < 9223372036854775807) : Ev (fun k => spec_l2Same.f k a b) (decide (a = b)) := by
  have hm : mn (a.length : Int) (b.length : Int) = ((min a.length b.length : Nat) : Int) := by rw [mn_eq]; omega
  have h := down (min a.length b.length) (P := fun i => Ev (fun k => spec_l2Same.l0 k a b ((min a.length b.length : Nat) : Int) (i : Int)) (decide (a.drop i = b.drop i))) ?_ ?_ 0 (by omega)
  · simpa only [spec_l2Same.f, hm, List.drop_zero, cast0] using h
  · refine Ev.step (fun k => rfl) ?_
    simp only [spec_l2Same.l0, if_neg (show ¬ ((min a.length b.length : Nat) : Int) < ((min a.length b.length : Nat) : Int) by omega)]
    refine ev_to (Ev.now _) ?_
    by_cases e : a.length = b.length
    · have e1 : min a.length b.length = a.length := by omega
      rw [e1, dropn, e, dropn]
      simp
    · rw [beq_eq_false_iff_ne.2 (by omega)]
      symm
      rw [decide_eq_false_iff_not]
      intro h
      have := congrArg List.length h
      simp at this
      omega
  · intro i hi ih
    have h1 : i < a.length := by omega
    have h2 : i < b.length := by omega
    refine Ev.step (fun k => rfl) ?_
    simp only [spec_l2Same.l0, if_pos (show (i : Int) < ((min a.length b.length : Nat) : Int) by omega), if_pos (show (0 : Int) ≤ (i : Int) by omega), if_pos (show (i : Int) < (a.length : Int) by omega), if_pos (show (i : Int) < (b.length : Int) by omega), rd_nat h1, rd_nat h2, w64n (show i < 9223372036854775807 by omega)]
    by_cases e : a[i] = b[i]
    · simp only [if_pos e]
      exact ev_to ih (by rw [dropc h1, dropc h2]; simp only [List.cons.injEq, e, true_and])
    · simp only [if_neg e]
      exact ev_to (Ev.now false) (by rw [dropc h1, dropc h2]; simp only [List.cons.injEq, e, false_and, decide_false])
theorem impl_SameMatrix_ev (n : Int) (a : List Int) (m : Int) (b : List Int) (ha : a.length < 9223372036854775807) : Ev (fun k => impl_SameMatrix.f k n a m b) (decide (n = m ∧ a = b)) := by
  simp only [impl_SameMatrix.f]
  by_cases e : n = m
  · simp only [if_pos e]
    refine Ev.bind (slices_Equal_ev a b ha) ?_
    exact ev_to (Ev.now _) (by simp [e])
  · simp only [if_neg e]
    exact ev_to (Ev.now _) (by simp [e])
theorem spec_SameMatrix_ev (n : Int) (a : List Int) (m : Int) (b : List Int) (ha : a.length < 9223372036854775807) : Ev (fun k => spec_SameMatrix.f k n a m b) (decide (n = m ∧ a = b)) := by
  simp only [spec_SameMatrix.f]
  by_cases e : n = m
  · simp only [if_pos e]
    refine Ev.bind (spec_l2Same_ev a b ha) ?_
    exact ev_to (Ev.now _) (by simp [e])
  · simp only [if_neg e]
    exact ev_to (Ev.now _) (by simp [e])
theorem laws_szMatrix_eq (n : Int) (l : List Int) (hl : l.length ≤ 9223372036854775807) (m : Int) (h0 : 0 ≤ m) (h1 : m ≤ 1048576) : laws_szMatrix.f n l m = some (if m - l.length < 0 then -1 else m - l.length) := by
  have e : wrap64 (m - (l.length : Int)) = m - l.length := w64 (by omega) (by omega)
  simp only [laws_szMatrix.f, laws_szIntS.f, e]
  by_cases h : m - (l.length : Int) < 0
  · simp [h]
  · simp [h]
theorem laws_toIntS_ev (l : List Int) (hl : l.length ≤ 35184372088832) : Ev (fun k => laws_toIntS.f k l) l := by
  have h := down l.length (P := fun i => ∀ out : List Int, out.length = l.length → out.take i = l.take i → Ev (fun k => laws_toIntS.l0 k l out (i : Int)) l) ?_ ?_ 0 (by omega) (List.replicate l.length 0) (by simp) (by simp)
  · simpa only [laws_toIntS.f, if_pos (show (0 : Int) ≤ (l.length : Int) by omega), Int.toNat_natCast, if_pos hl, cast0] using h
  · intro out ho ht
    refine Ev.step (fun k => rfl) ?_
    simp only [laws_toIntS.l0, if_neg (show ¬ (l.length : Int) < (l.length : Int) by omega)]
    refine ev_to (Ev.now _) ?_
    rw [List.take_length, ← ho, List.take_length] at ht
    exact ht
  · intro i hi ih out ho ht
    refine Ev.step (fun k => rfl) ?_
    simp only [laws_toIntS.l0, if_pos (show (i : Int) < (l.length : Int) by omega), if_pos (show (0 : Int) ≤ (i : Int) by omega), if_pos (show (i : Int) < (out.length : Int) by omega), rd_nat hi, w64n (show i < 9223372036854775807 by omega), Int.toNat_natCast]
    refine ih _ (by simpa using ho) ?_
    rw [List.take_succ_eq_append_getElem hi, List.take_succ_eq_append_getElem (by simpa [ho] using hi)]
    rw [List.getElem_set_self, List.take_set, ht, List.set_eq_of_length_le (by simp; omega)]
theorem laws_toMatrix_ev (n : Int) (l : List Int) (hl : l.length ≤ 35184372088832) : Ev (fun k => laws_toMatrix.f k n l) (n, l) := by
  simp only [laws_toMatrix.f]
  exact Ev.bind (laws_toIntS_ev l hl) (Ev.now _)
theorem laws_eqIntS_ev (a b : List Int) (hl : a.length < 9223372036854775807) : Ev (fun k => laws_eqIntS.f k a b) (decide (a = b)) := by
  by_cases hab : a.length = b.length
  · have h := down a.length (P := fun i => Ev (fun k => laws_eqIntS.l0 k a b (i : Int)) (decide (a.drop i = b.drop i))) ?_ ?_ 0 (by omega)
    · simpa only [laws_eqIntS.f, if_pos (show (a.length : Int) = (b.length : Int) by omega), List.drop_zero, cast0] using h
    · refine Ev.step (fun k => rfl) ?_
      simp only [laws_eqIntS.l0, if_neg (show ¬ (a.length : Int) < (a.length : Int) by omega)]
      exact ev_to (Ev.now _) (by rw [dropn, hab, dropn]; rfl)
    · intro i hi ih
      have hi' : i < b.length := by omega
      refine Ev.step (fun k => rfl) ?_
      simp only [laws_eqIntS.l0, if_pos (show (i : Int) < (a.length : Int) by omega), if_pos (show (0 : Int) ≤ (i : Int) by omega), if_pos (show (i : Int) < (b.length : Int) by omega), rd_nat hi, rd_nat hi', w64n (show i < 9223372036854775807 by omega), dropc hi, dropc hi']
      by_cases e : a[i] = b[i]
      · simp only [if_pos e]
        exact ev_to ih (by simp only [List.cons.injEq, e, true_and])
      · simp only [if_neg e]
        exact ev_to (Ev.now false) (by simp only [List.cons.injEq, e, false_and, decide_false])
  · simp only [laws_eqIntS.f, if_neg (show ¬ (a.length : Int) = (b.length : Int) by omega)]
    exact ev_to (Ev.now _) (by rw [eq_comm, decide_eq_false_iff_not]; exact fun e => hab (by rw [e]))
theorem laws_eqMatrix_ev (n : Int) (l : List Int) (hl : l.length < 9223372036854775807) : Ev (fun k => laws_eqMatrix.f k n l n l) true := by
  simp only [laws_eqMatrix.f, if_true]
  refine Ev.bind (laws_eqIntS_ev l l hl) ?_
  simpa using Ev.now _

theorem FnExactSameMatrix : laws_FnExactSameMatrix.Pure := by
  intro n a m b _ ha _ _ hb _
  unfold maxLen at ha hb
  refine Ev.rounds ?_
  simp only [laws_FnExactSameMatrix.f, laws_szMatrix_eq n a ha 1048576 (by omega) (by omega), Option.bind_some]
  by_cases h : 1048576 - (a.length : Int) < 0
  · simp only [if_pos h, if_pos (show (-1 : Int) < 0 by omega)]
    exact Ev.now _
  simp only [if_neg h, laws_szMatrix_eq m b hb (1048576 - (a.length : Int)) (by omega) (by omega), Option.bind_some]
  by_cases h2 : 1048576 - (a.length : Int) - (b.length : Int) < 0
  · simp only [if_pos h2, if_pos (show (-1 : Int) < 0 by omega)]
    exact Ev.now _
  simp only [if_neg h2]
  have ta := laws_toMatrix_ev n a (by omega)
  have tb := laws_toMatrix_ev m b (by omega)
  refine Ev.bind ta (Ev.bind tb (Ev.bind (spec_SameMatrix_ev n a m b (by omega)) (Ev.bind ta (Ev.bind tb (Ev.bind (impl_SameMatrix_ev n a m b (by omega)) ?_)))))
  simp only [bne_self_eq_false, Bool.false_eq_true, if_false]
  refine Ev.bind ta (Ev.bind (laws_eqMatrix_ev n a (by omega)) ?_)
  simp only [if_true]
  refine Ev.bind tb (Ev.bind (laws_eqMatrix_ev m b (by omega)) ?_)
  simp only [if_true]
  exact Ev.now _

end Go.Proofs.Ythgkfakkpinbcaa.Pure
