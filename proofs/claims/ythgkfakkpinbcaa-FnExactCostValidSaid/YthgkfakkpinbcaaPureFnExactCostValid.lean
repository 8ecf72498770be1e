/- The pure statement of FnExactCostValid: the printed functions answer true at every input that can be read. -/
import Derived.Test.YthgkfakkpinbcaaPFnExactCostValidx1
set_option linter.unusedVariables false
set_option linter.unusedSimpArgs false
namespace Go.Proofs.Ythgkfakkpinbcaa.Pure
open Go.RowKit Go.Proofs.Ythgkfakkpinbcaa.PFnExactCostValid Go.Proofs.YthgkfakkpinbcaaW.PrintWords Go.Proofs.YthgkfakkpinbcaaW.PrintLast Go.Proofs.YthgkfakkpinbcaaW.PrintMore

theorem w64 {x : Int} (h0 : -9223372036854775808 ≤ x) (h1 : x ≤ 9223372036854775807) : wrap64 x = x := by unfold wrap64; omega
theorem w64n {i : Nat} (h : i < 9223372036854775807) : wrap64 ((i : Int) + 1) = ((i + 1 : Nat) : Int) := by rw [w64 (by omega) (by omega)]; omega
theorem rd_nat {l : List Int} {i : Nat} (h : i < l.length) : rd l (i : Int) = l[i] := by simp [rd, List.getD_eq_getElem?_getD, h]
theorem mn_eq (a b : Int) : mn a b = min a b := by unfold mn; split <;> omega
theorem mx_eq (a b : Int) : mx a b = max a b := by unfold mx; split <;> omega
theorem down (n : Nat) {P : Nat → Prop} (h0 : P n) (hs : ∀ i, i < n → P (i + 1) → P i) : ∀ i, i ≤ n → P i := by
  have h : ∀ d i, i + d = n → P i := by
    intro d
    induction d with
    | zero => intro i hi; obtain rfl : i = n := by omega
              exact h0
    | succ d ih => intro i hi; exact hs i (by omega) (ih (i + 1) (by omega))
  exact fun i hi => h (n - i) i (by omega)
theorem ev_to {α : Type} {g : Nat → Option α} {r r' : α} (h : Ev g r) (e : r = r') : Ev g r' := e ▸ h
theorem dropc {α : Type} {l : List α} {i : Nat} (h : i < l.length) : l.drop i = l[i] :: l.drop (i + 1) := List.drop_eq_getElem_cons h
theorem dropn {α : Type} (l : List α) : l.drop l.length = [] := List.drop_eq_nil_of_le (Nat.le_refl _)
theorem wf64 {x : Int} (h : (Lit.int .i64 x).wf = true) : -9223372036854775808 ≤ x ∧ x ≤ 9223372036854775807 := by
  simp [Lit.wf, IntKind.min, IntKind.max, IntKind.signed, IntKind.bits] at h
  omega
theorem wf8 {x : Int} (h : (Lit.int .u8 x).wf = true) : 0 ≤ x ∧ x ≤ 255 := by
  simp [Lit.wf, IntKind.min, IntKind.max, IntKind.signed, IntKind.bits] at h
  omega
/-- A cost: between 0 and 1000000. -/
def cv (a : Int) : Bool := decide (0 ≤ a ∧ a ≤ 1000000)
theorem cv_iff {a : Int} : cv a = true ↔ 0 ≤ a ∧ a ≤ 1000000 := by simp [cv]
theorem impl_CostValid_eq (a : Int) : impl_CostValid.f a = some (cv a) := by
  unfold impl_CostValid.f cv
  split <;> simp <;> omega
theorem spec_l1In_eq (a b c : Int) : spec_l1In.f a b c = some (decide (b ≤ a ∧ a ≤ c)) := by
  unfold spec_l1In.f
  split <;> simp <;> omega
theorem spec_CostValid_eq (a : Int) : spec_CostValid.f a = some (cv a) := by
  unfold spec_CostValid.f
  rw [spec_l1In_eq]
  rfl
theorem FnExactCostValid : laws_FnExactCostValid.Pure := by
  intro a _
  simp [laws_FnExactCostValid.f, spec_CostValid_eq, impl_CostValid_eq]

end Go.Proofs.Ythgkfakkpinbcaa.Pure
