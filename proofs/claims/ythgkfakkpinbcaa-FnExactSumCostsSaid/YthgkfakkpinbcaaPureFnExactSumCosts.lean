/- The pure statement of FnExactSumCosts: the printed functions answer true at every input that can be read. -/
import Derived.Test.YthgkfakkpinbcaaPFnExactSumCostsx1
set_option linter.unusedVariables false
set_option linter.unusedSimpArgs false
namespace Go.Proofs.Ythgkfakkpinbcaa.Pure
open Go.RowKit Go.Proofs.Ythgkfakkpinbcaa.PFnExactSumCosts Go.Proofs.YthgkfakkpinbcaaW.PrintWords Go.Proofs.YthgkfakkpinbcaaW.PrintLast Go.Proofs.YthgkfakkpinbcaaW.PrintMore

theorem w64 {x : Int} (h0 : -9223372036854775808 ≤ x) (h1 : x ≤ 9223372036854775807) : wrap64 x = x := by unfold wrap64; omega
theorem cast0 : ((0 : Nat) : Int) = 0 := rfl
theorem w64n {i : Nat} (h : i < 9223372036854775807) : wrap64 ((i : Int) + 1) = ((i + 1 : Nat) : Int) := by rw [w64 (by omega) (by omega)]; omega
theorem rd_nat {l : List Int} {i : Nat} (h : i < l.length) : rd l (i : Int) = l[i] := by simp [rd, List.getD_eq_getElem?_getD, h]
theorem mn_eq (a b : Int) : mn a b = min a b := by unfold mn; split <;> omega
theorem mx_eq (a b : Int) : mx a b = max a b := by unfold mx; split <;> omega
theorem down (n : Nat) {P : Nat → Prop} (h0 : P n) (hs : ∀ i, i < n → P (i + 1) → P i) : ∀ i, i ≤ n → P i := by
  have h : ∀ d i, i + d = n → P i := by
    intro d
    induction d with
    | zero => intro i hi; obtain rfl : i = n := by omega
              exact h0
    | succ d ih => intro i hi; exact hs i (by omega) (ih (i + 1) (by omega))
  exact fun i hi => h (n - i) i (by omega)
theorem ev_to {α : Type} {g : Nat → Option α} {r r' : α} (h : Ev g r) (e : r = r') : Ev g r' := e ▸ h
theorem dropc {α : Type} {l : List α} {i : Nat} (h : i < l.length) : l.drop i = l[i] :: l.drop (i + 1) := List.drop_eq_getElem_cons h
theorem dropn {α : Type} (l : List α) : l.drop l.length = [] := List.drop_eq_nil_of_le (Nat.le_refl _)
theorem wf64 {x : Int} (h : (Lit.int .i64 x).wf = true) : -9223372036854775808 ≤ x ∧ x ≤ 9223372036854775807 := by
  simp [Lit.wf, IntKind.min, IntKind.max, IntKind.signed, IntKind.bits] at h
  omega
theorem wf8 {x : Int} (h : (Lit.int .u8 x).wf = true) : 0 ≤ x ∧ x ≤ 255 := by
  simp [Lit.wf, IntKind.min, IntKind.max, IntKind.signed, IntKind.bits] at h
  omega
theorem nnc (q : Nat) : (0 : Int) ≤ (q : Int) := Int.natCast_nonneg q
theorem ltc {a b : Nat} (h : a < b) : (a : Int) < (b : Int) := Int.ofNat_lt.2 h
/-- A cost: between 0 and 1000000. -/
def cv (a : Int) : Bool := decide (0 ≤ a ∧ a ≤ 1000000)
theorem cv_iff {a : Int} : cv a = true ↔ 0 ≤ a ∧ a ≤ 1000000 := by simp [cv]
theorem impl_CostValid_eq (a : Int) : impl_CostValid.f a = some (cv a) := by
  unfold impl_CostValid.f cv
  split <;> simp <;> omega
/-- The sum of two costs, at most 1000000. -/
def addc (s a : Int) : Int := min (s + a) 1000000
theorem addc_bd {s a : Int} (h0 : 0 ≤ s) (h1 : 0 ≤ a) : 0 ≤ addc s a ∧ addc s a ≤ 1000000 := by unfold addc; omega
def sumc (l : List Int) : Int := if l.all cv then l.foldl addc 0 else -1
def leastc (l : List Int) : Int := if l.all cv then l.foldl min 1000000 else -1
theorem impl_SumCosts_ev (l : List Int) (hl : l.length < 9223372036854775807) : Ev (fun k => impl_SumCosts.f k l) (sumc l) := by
  have h := down l.length (P := fun i => ∀ acc : Int, 0 ≤ acc → acc ≤ 1000000 → Ev (fun k => impl_SumCosts.l0 k acc l (l.length : Int) (i : Int)) (if (l.drop i).all cv then (l.drop i).foldl addc acc else -1)) ?_ ?_ 0 (by omega) 0 (by omega) (by omega)
  · simpa only [impl_SumCosts.f, sumc, List.drop_zero, cast0] using h
  · intro acc h0 h1
    refine Ev.step (fun k => rfl) ?_
    simp only [impl_SumCosts.l0, if_neg (show ¬ (l.length : Int) < (l.length : Int) by omega), dropn]
    exact Ev.now _
  · intro i hi ih acc h0 h1
    refine Ev.step (fun k => rfl) ?_
    simp only [impl_SumCosts.l0, if_pos (show (i : Int) < (l.length : Int) by omega), if_pos (show (0 : Int) ≤ (i : Int) by omega), rd_nat hi, impl_CostValid_eq, Option.bind_some, dropc hi, List.all_cons, List.foldl_cons, w64n (show i < 9223372036854775807 by omega)]
    cases hc : cv l[i] with
    | false => simpa using Ev.now _
    | true =>
      have hb := cv_iff.1 hc
      have e : mn (wrap64 (acc + l[i])) 1000000 = addc acc l[i] := by rw [mn_eq, w64 (by omega) (by omega)]; rfl
      have hd := addc_bd h0 hb.1
      simpa [e] using ih (addc acc l[i]) hd.1 hd.2
theorem spec_l1In_eq (a b c : Int) : spec_l1In.f a b c = some (decide (b ≤ a ∧ a ≤ c)) := by
  unfold spec_l1In.f
  split <;> simp <;> omega
theorem spec_CostValid_eq (a : Int) : spec_CostValid.f a = some (cv a) := by
  unfold spec_CostValid.f
  rw [spec_l1In_eq]
  rfl
theorem spec_l1All_ev (l : List Int) (hl : l.length < 9223372036854775807) : Ev (fun k => spec_l1All.f k l) (l.all cv) := by
  have h := down l.length (P := fun i => Ev (fun k => spec_l1All.l0 k l (l.length : Int) (i : Int)) ((l.drop i).all cv)) ?_ ?_ 0 (by omega)
  · exact h
  · refine Ev.step (fun k => rfl) ?_
    simp only [spec_l1All.l0, if_neg (show ¬ (l.length : Int) < (l.length : Int) by omega), dropn, List.all_nil]
    exact Ev.now _
  · intro i hi ih
    refine Ev.step (fun k => rfl) ?_
    simp only [spec_l1All.l0, if_pos (show (i : Int) < (l.length : Int) by omega), if_pos (show (0 : Int) ≤ (i : Int) by omega), rd_nat hi, spec_CostValid_eq, Option.bind_some, dropc hi, List.all_cons, w64n (show i < 9223372036854775807 by omega)]
    cases cv l[i] with
    | false => simpa using Ev.now _
    | true => simpa using ih
theorem spec_SumCosts_l0 (l : List Int) (hl : l.length < 9223372036854775807) (hv : l.all cv = true) : Ev (fun k => spec_SumCosts.l0 k 0 l (l.length : Int) 0) (l.foldl addc 0) := by
  have hm : ∀ x ∈ l, cv x = true := by simpa using hv
  have h := down l.length (P := fun i => ∀ acc : Int, 0 ≤ acc → acc ≤ 1000000 → Ev (fun k => spec_SumCosts.l0 k acc l (l.length : Int) (i : Int)) ((l.drop i).foldl addc acc)) ?_ ?_ 0 (by omega) 0 (by omega) (by omega)
  · simpa only [List.drop_zero, cast0] using h
  · intro acc h0 h1
    refine Ev.step (fun k => rfl) ?_
    simp only [spec_SumCosts.l0, if_neg (show ¬ (l.length : Int) < (l.length : Int) by omega), dropn]
    exact Ev.now _
  · intro i hi ih acc h0 h1
    have hb := cv_iff.1 (hm l[i] (List.getElem_mem hi))
    have e : mn (wrap64 (acc + l[i])) 1000000 = addc acc l[i] := by rw [mn_eq, w64 (by omega) (by omega)]; rfl
    have hd := addc_bd h0 hb.1
    refine Ev.step (fun k => rfl) ?_
    simp only [spec_SumCosts.l0, spec_l1Add.f, if_pos (show (i : Int) < (l.length : Int) by omega), if_pos (show (0 : Int) ≤ (i : Int) by omega), rd_nat hi, Option.bind_some, dropc hi, List.foldl_cons, w64n (show i < 9223372036854775807 by omega), e]
    exact ih _ hd.1 hd.2
theorem spec_SumCosts_ev (l : List Int) (hl : l.length < 9223372036854775807) : Ev (fun k => spec_SumCosts.f k l) (sumc l) := by
  simp only [spec_SumCosts.f]
  refine Ev.bind (spec_l1All_ev l hl) ?_
  unfold sumc
  cases hv : l.all cv with
  | false => simpa using Ev.now _
  | true => simpa using spec_SumCosts_l0 l hl hv
theorem laws_toIntS_ev (l : List Int) (hl : l.length ≤ 35184372088832) : Ev (fun k => laws_toIntS.f k l) l := by
  have h := down l.length (P := fun i => ∀ out : List Int, out.length = l.length → out.take i = l.take i → Ev (fun k => laws_toIntS.l0 k l out (i : Int)) l) ?_ ?_ 0 (by omega) (List.replicate l.length 0) (by simp) (by simp)
  · simpa only [laws_toIntS.f, if_pos (show (0 : Int) ≤ (l.length : Int) by omega), Int.toNat_natCast, if_pos hl, cast0] using h
  · intro out ho ht
    refine Ev.step (fun k => rfl) ?_
    simp only [laws_toIntS.l0, if_neg (show ¬ (l.length : Int) < (l.length : Int) by omega)]
    refine ev_to (Ev.now _) ?_
    rw [List.take_length, ← ho, List.take_length] at ht
    exact ht
  · intro i hi ih out ho ht
    refine Ev.step (fun k => rfl) ?_
    simp only [laws_toIntS.l0, if_pos (show (i : Int) < (l.length : Int) by omega), if_pos (show (0 : Int) ≤ (i : Int) by omega), if_pos (show (i : Int) < (out.length : Int) by omega), rd_nat hi, w64n (show i < 9223372036854775807 by omega), Int.toNat_natCast]
    refine ih _ (by simpa using ho) ?_
    rw [List.take_succ_eq_append_getElem hi, List.take_succ_eq_append_getElem (by simpa [ho] using hi)]
    rw [List.getElem_set_self, List.take_set, ht, List.set_eq_of_length_le (by simp; omega)]
theorem laws_eqIntS_ev (a b : List Int) (hl : a.length < 9223372036854775807) : Ev (fun k => laws_eqIntS.f k a b) (decide (a = b)) := by
  by_cases hab : a.length = b.length
  · have h := down a.length (P := fun i => Ev (fun k => laws_eqIntS.l0 k a b (i : Int)) (decide (a.drop i = b.drop i))) ?_ ?_ 0 (by omega)
    · simpa only [laws_eqIntS.f, if_pos (show (a.length : Int) = (b.length : Int) by omega), List.drop_zero, cast0] using h
    · refine Ev.step (fun k => rfl) ?_
      simp only [laws_eqIntS.l0, if_neg (show ¬ (a.length : Int) < (a.length : Int) by omega)]
      exact ev_to (Ev.now _) (by rw [dropn, hab, dropn]; rfl)
    · intro i hi ih
      have hi' : i < b.length := by omega
      refine Ev.step (fun k => rfl) ?_
      simp only [laws_eqIntS.l0, if_pos (show (i : Int) < (a.length : Int) by omega), if_pos (show (0 : Int) ≤ (i : Int) by omega), if_pos (show (i : Int) < (b.length : Int) by omega), rd_nat hi, rd_nat hi', w64n (show i < 9223372036854775807 by omega), dropc hi, dropc hi']
      by_cases e : a[i] = b[i]
      · simp only [if_pos e]
        exact ev_to ih (by simp only [List.cons.injEq, e, true_and])
      · simp only [if_neg e]
        exact ev_to (Ev.now false) (by simp only [List.cons.injEq, e, false_and, decide_false])
  · simp only [laws_eqIntS.f, if_neg (show ¬ (a.length : Int) = (b.length : Int) by omega)]
    exact ev_to (Ev.now _) (by rw [eq_comm, decide_eq_false_iff_not]; exact fun e => hab (by rw [e]))

theorem FnExactSumCosts : laws_FnExactSumCosts.Pure := by
  intro l _ hl _
  refine Ev.rounds ?_
  simp only [laws_FnExactSumCosts.f]
  by_cases h : (l.length : Int) > 1048576
  · simp only [if_pos h]; exact Ev.now _
  · simp only [if_neg h]
    have hc := laws_toIntS_ev l (by omega)
    refine Ev.bind hc (Ev.bind (spec_SumCosts_ev l (by omega)) (Ev.bind hc (Ev.bind (impl_SumCosts_ev l (by omega)) ?_)))
    simp only [if_true]
    refine Ev.bind hc (Ev.bind (laws_eqIntS_ev l l (by omega)) ?_)
    simpa using Ev.now _

end Go.Proofs.Ythgkfakkpinbcaa.Pure
