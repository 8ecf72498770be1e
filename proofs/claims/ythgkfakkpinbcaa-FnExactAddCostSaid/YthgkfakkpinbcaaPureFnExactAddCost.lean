/- The pure statement of FnExactAddCost: the printed functions answer true at every input that can be read. -/
import Derived.Test.YthgkfakkpinbcaaPFnExactAddCostx1
set_option linter.unusedVariables false
set_option linter.unusedSimpArgs false
namespace Go.Proofs.Ythgkfakkpinbcaa.Pure
open Go.RowKit Go.Proofs.Ythgkfakkpinbcaa.PFnExactAddCost Go.Proofs.YthgkfakkpinbcaaW.PrintWords Go.Proofs.YthgkfakkpinbcaaW.PrintLast Go.Proofs.YthgkfakkpinbcaaW.PrintMore

theorem w64 {x : Int} (h0 : -9223372036854775808 ≤ x) (h1 : x ≤ 9223372036854775807) : wrap64 x = x := by unfold wrap64; omega
theorem w64n {i : Nat} (h : i < 9223372036854775807) : wrap64 ((i : Int) + 1) = ((i + 1 : Nat) : Int) := by rw [w64 (by omega) (by omega)]; omega
theorem rd_nat {l : List Int} {i : Nat} (h : i < l.length) : rd l (i : Int) = l[i] := by simp [rd, List.getD_eq_getElem?_getD, h]
theorem mn_eq (a b : Int) : mn a b = min a b := by unfold mn; split <;> omega
theorem mx_eq (a b : Int) : mx a b = max a b := by unfold mx; split <;> omega
theorem down (n : Nat) {P : Nat → Prop} (h0 : P n) (hs : ∀ i, i < n → P (i + 1) → P i) : ∀ i, i ≤ n → P i := by
  have h : ∀ d i, i + d = n → P i := by
    intro d
    induction d with
    | zero => intro i hi; obtain rfl : i = n := by omega
              exact h0
    | succ d ih => intro i hi; exact hs i (by omega) (ih (i + 1) (by omega))
  exact fun i hi => h (n - i) i (by omega)
theorem ev_to {α : Type} {g : Nat → Option α} {r r' : α} (h : Ev g r) (e : r = r') : Ev g r' := e ▸ h
theorem dropc {α : Type} {l : List α} {i : Nat} (h : i < l.length) : l.drop i = l[i] :: l.drop (i + 1) := List.drop_eq_getElem_cons h
theorem dropn {α : Type} (l : List α) : l.drop l.length = [] := List.drop_eq_nil_of_le (Nat.le_refl _)
theorem wf64 {x : Int} (h : (Lit.int .i64 x).wf = true) : -9223372036854775808 ≤ x ∧ x ≤ 9223372036854775807 := by
  simp [Lit.wf, IntKind.min, IntKind.max, IntKind.signed, IntKind.bits] at h
  omega
theorem wf8 {x : Int} (h : (Lit.int .u8 x).wf = true) : 0 ≤ x ∧ x ≤ 255 := by
  simp [Lit.wf, IntKind.min, IntKind.max, IntKind.signed, IntKind.bits] at h
  omega
/-- A cost: between 0 and 1000000. -/
def cv (a : Int) : Bool := decide (0 ≤ a ∧ a ≤ 1000000)
theorem cv_iff {a : Int} : cv a = true ↔ 0 ≤ a ∧ a ≤ 1000000 := by simp [cv]
theorem impl_CostValid_eq (a : Int) : impl_CostValid.f a = some (cv a) := by
  unfold impl_CostValid.f cv
  split <;> simp <;> omega
/-- The sum of two costs, at most 1000000. -/
def addc (s a : Int) : Int := min (s + a) 1000000
theorem addc_bd {s a : Int} (h0 : 0 ≤ s) (h1 : 0 ≤ a) : 0 ≤ addc s a ∧ addc s a ≤ 1000000 := by unfold addc; omega
theorem impl_AddCost_eq (a b : Int) : impl_AddCost.f a b = some (if cv a && cv b then addc a b else -1) := by
  unfold impl_AddCost.f
  rw [impl_CostValid_eq, impl_CostValid_eq]
  cases ha : cv a with
  | false => simp
  | true =>
    cases hb : cv b with
    | false => simp
    | true =>
      rw [cv_iff] at ha hb
      simp only [Option.bind_some, if_true, Bool.and_self, mn_eq, w64 (show -9223372036854775808 ≤ a + b by omega) (show a + b ≤ 9223372036854775807 by omega), addc]
theorem spec_l1In_eq (a b c : Int) : spec_l1In.f a b c = some (decide (b ≤ a ∧ a ≤ c)) := by
  unfold spec_l1In.f
  split <;> simp <;> omega
theorem spec_CostValid_eq (a : Int) : spec_CostValid.f a = some (cv a) := by
  unfold spec_CostValid.f
  rw [spec_l1In_eq]
  rfl
theorem spec_l1All_ev (l : List Int) (hl : l.length < 9223372036854775807) : Ev (fun k => spec_l1All.f k l) (l.all cv) := by
  have h := down l.length (P := fun i => Ev (fun k => spec_l1All.l0 k l (l.length : Int) (i : Int)) ((l.drop i).all cv)) ?_ ?_ 0 (by omega)
  · exact h
  · refine Ev.step (fun k => rfl) ?_
    simp only [spec_l1All.l0, if_neg (show ¬ (l.length : Int) < (l.length : Int) by omega), dropn, List.all_nil]
    exact Ev.now _
  · intro i hi ih
    refine Ev.step (fun k => rfl) ?_
    simp only [spec_l1All.l0, if_pos (show (i : Int) < (l.length : Int) by omega), if_pos (show (0 : Int) ≤ (i : Int) by omega), rd_nat hi, spec_CostValid_eq, Option.bind_some, dropc hi, List.all_cons, w64n (show i < 9223372036854775807 by omega)]
    cases cv l[i] with
    | false => simpa using Ev.now _
    | true => simpa using ih
theorem spec_AddCost_ev (a b : Int) : Ev (fun k => spec_AddCost.f k a b) (if cv a && cv b then addc a b else -1) := by
  have h := spec_l1All_ev [a, b] (by simp)
  simp only [spec_AddCost.f]
  refine Ev.bind h ?_
  cases ha : cv a with
  | false => simpa [ha] using Ev.now _
  | true =>
    cases hb : cv b with
    | false => simpa [ha, hb] using Ev.now _
    | true =>
      rw [cv_iff] at ha hb
      have e := w64 (show -9223372036854775808 ≤ a + b by omega) (show a + b ≤ 9223372036854775807 by omega)
      rw [← cv_iff] at ha hb
      simpa [ha, hb, spec_l1Add.f, mn_eq, e, addc] using Ev.now _
theorem FnExactAddCost : laws_FnExactAddCost.Pure := by
  intro a b _ _
  refine Ev.rounds ?_
  simp only [laws_FnExactAddCost.f, impl_AddCost_eq]
  refine Ev.bind (spec_AddCost_ev a b) ?_
  simpa using Ev.now _

end Go.Proofs.Ythgkfakkpinbcaa.Pure
