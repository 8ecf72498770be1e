/- The pure statement of FnExactShortWords: the printed functions answer true at every input that can be read. -/
import Derived.Test.YthgkfakkpinbcaaPFnExactShortWordsx1
set_option linter.unusedVariables false
set_option linter.unusedSimpArgs false
namespace Go.Proofs.Ythgkfakkpinbcaa.Pure
open Go.RowKit Go.Proofs.Ythgkfakkpinbcaa.PFnExactShortWords Go.Proofs.YthgkfakkpinbcaaW.PrintWords Go.Proofs.YthgkfakkpinbcaaW.PrintLast Go.Proofs.YthgkfakkpinbcaaW.PrintMore

theorem w64 {x : Int} (h0 : -9223372036854775808 ≤ x) (h1 : x ≤ 9223372036854775807) : wrap64 x = x := by unfold wrap64; omega
theorem cast0 : ((0 : Nat) : Int) = 0 := rfl
theorem w64n {i : Nat} (h : i < 9223372036854775807) : wrap64 ((i : Int) + 1) = ((i + 1 : Nat) : Int) := by rw [w64 (by omega) (by omega)]; omega
theorem rd_nat {l : List Int} {i : Nat} (h : i < l.length) : rd l (i : Int) = l[i] := by simp [rd, List.getD_eq_getElem?_getD, h]
theorem mn_eq (a b : Int) : mn a b = min a b := by unfold mn; split <;> omega
theorem mx_eq (a b : Int) : mx a b = max a b := by unfold mx; split <;> omega
theorem down (n : Nat) {P : Nat → Prop} (h0 : P n) (hs : ∀ i, i < n → P (i + 1) → P i) : ∀ i, i ≤ n → P i := by
  have h : ∀ d i, i + d = n → P i := by
    intro d
    induction d with
    | zero => intro i hi; obtain rfl : i = n := by omega
              exact h0
    | succ d ih => intro i hi; exact hs i (by omega) (ih (i + 1) (by omega))
  exact fun i hi => h (n - i) i (by omega)
theorem ev_to {α : Type} {g : Nat → Option α} {r r' : α} (h : Ev g r) (e : r = r') : Ev g r' := e ▸ h
theorem dropc {α : Type} {l : List α} {i : Nat} (h : i < l.length) : l.drop i = l[i] :: l.drop (i + 1) := List.drop_eq_getElem_cons h
theorem dropn {α : Type} (l : List α) : l.drop l.length = [] := List.drop_eq_nil_of_le (Nat.le_refl _)
theorem wf64 {x : Int} (h : (Lit.int .i64 x).wf = true) : -9223372036854775808 ≤ x ∧ x ≤ 9223372036854775807 := by
  simp [Lit.wf, IntKind.min, IntKind.max, IntKind.signed, IntKind.bits] at h
  omega
theorem wf8 {x : Int} (h : (Lit.int .u8 x).wf = true) : 0 ≤ x ∧ x ≤ 255 := by
  simp [Lit.wf, IntKind.min, IntKind.max, IntKind.signed, IntKind.bits] at h
  omega
theorem nnc (q : Nat) : (0 : Int) ≤ (q : Int) := Int.natCast_nonneg q
theorem ltc {a b : Nat} (h : a < b) : (a : Int) < (b : Int) := Int.ofNat_lt.2 h
theorem FnExactShortWords : laws_FnExactShortWords.Pure := by
  intro n _
  by_cases h : 0 ≤ n ∧ n ≤ 7
  · obtain h | h | h | h | h | h | h | h : n = 0 ∨ n = 1 ∨ n = 2 ∨ n = 3 ∨ n = 4 ∨ n = 5 ∨ n = 6 ∨ n = 7 := by omega
    all_goals subst h
    · exact ⟨20, by kernel_rfl⟩
    · exact ⟨40, by kernel_rfl⟩
    · exact ⟨60, by kernel_rfl⟩
    · exact ⟨100, by kernel_rfl⟩
    · exact ⟨150, by kernel_rfl⟩
    · exact ⟨250, by kernel_rfl⟩
    · exact ⟨500, by kernel_rfl⟩
    · exact ⟨900, by kernel_rfl⟩
  · refine Ev.rounds ?_
    simp only [laws_FnExactShortWords.f]
    have one : ∀ {α : Type} {g : Nat → Option α} {r : α}, (∀ k, g (k + 1) = some r) → Ev g r := fun h => Ev.step h (Ev.now _)
    have hs : Ev (fun k => spec_ShortWords.f k n) ([], false) := by
      simp only [spec_ShortWords.f, spec_l1In.f]
      by_cases h0 : n ≥ 0
      · simp only [if_pos h0, decide_eq_false (show ¬ n ≤ 7 by omega), Option.bind_some, Bool.false_eq_true, if_false]
        exact Ev.now _
      · simp only [if_neg h0, Option.bind_some, Bool.false_eq_true, if_false]
        exact Ev.now _
    have hi : Ev (fun k => impl_ShortWords.f k n) ([], false) := by
      simp only [impl_ShortWords.f]
      by_cases h0 : n < 0
      · simp only [if_pos h0]
        exact one fun k => rfl
      · simp only [if_neg h0, decide_eq_true (show n > 7 by omega)]
        exact one fun k => rfl
    have he : Ev (fun k => laws_eqStringS.f k [] []) true := one fun k => rfl
    have hm : Ev (fun k => laws_markStringS.f k [] 1) (1, []) := one fun k => rfl
    have hh : Ev (fun k => laws_heldStringS.f k [] 1) 1 := one fun k => rfl
    refine Ev.bind hs (Ev.bind hi (Ev.bind he ?_))
    simp only [if_true, bne_self_eq_false, Bool.false_eq_true, if_false]
    refine Ev.bind hm (Ev.bind hh ?_)
    simp only [if_neg (show ¬ (1 : Int) < 0 by decide), if_true]
    refine Ev.bind hi (Ev.bind he ?_)
    simp only [if_true, bne_self_eq_false, Bool.false_eq_true, if_false]
    refine Ev.bind hh ?_
    simp only [if_neg (show ¬ (1 : Int) < 0 by decide), if_true]
    exact Ev.now _

end Go.Proofs.Ythgkfakkpinbcaa.Pure
