/- The pure statement of FnSums: the printed functions answer true at every input that can be read. -/
import Derived.Test.YthgkfakkpinbcaaPFnSumsx3
set_option linter.unusedVariables false
set_option linter.unusedSimpArgs false
namespace Go.Proofs.Ythgkfakkpinbcaa.Pure
open Go.RowKit Go.Proofs.Ythgkfakkpinbcaa.PFnSums Go.Proofs.YthgkfakkpinbcaaW.PrintWords Go.Proofs.YthgkfakkpinbcaaW.PrintLast Go.Proofs.YthgkfakkpinbcaaW.PrintMore

theorem w64 {x : Int} (h0 : -9223372036854775808 ≤ x) (h1 : x ≤ 9223372036854775807) : wrap64 x = x := by unfold wrap64; omega
theorem cast0 : ((0 : Nat) : Int) = 0 := rfl
theorem w64n {i : Nat} (h : i < 9223372036854775807) : wrap64 ((i : Int) + 1) = ((i + 1 : Nat) : Int) := by rw [w64 (by omega) (by omega)]; omega
theorem rd_nat {l : List Int} {i : Nat} (h : i < l.length) : rd l (i : Int) = l[i] := by simp [rd, List.getD_eq_getElem?_getD, h]
theorem mn_eq (a b : Int) : mn a b = min a b := by unfold mn; split <;> omega
theorem mx_eq (a b : Int) : mx a b = max a b := by unfold mx; split <;> omega
theorem down (n : Nat) {P : Nat → Prop} (h0 : P n) (hs : ∀ i, i < n → P (i + 1) → P i) : ∀ i, i ≤ n → P i := by
  have h : ∀ d i, i + d = n → P i := by
    intro d
    induction d with
    | zero => intro i hi; obtain rfl : i = n := by omega
              exact h0
    | succ d ih => intro i hi; exact hs i (by omega) (ih (i + 1) (by omega))
  exact fun i hi => h (n - i) i (by omega)
theorem ev_to {α : Type} {g : Nat → Option α} {r r' : α} (h : Ev g r) (e : r = r') : Ev g r' := e ▸ h
theorem dropc {α : Type} {l : List α} {i : Nat} (h : i < l.length) : l.drop i = l[i] :: l.drop (i + 1) := List.drop_eq_getElem_cons h
theorem dropn {α : Type} (l : List α) : l.drop l.length = [] := List.drop_eq_nil_of_le (Nat.le_refl _)
theorem wf64 {x : Int} (h : (Lit.int .i64 x).wf = true) : -9223372036854775808 ≤ x ∧ x ≤ 9223372036854775807 := by
  simp [Lit.wf, IntKind.min, IntKind.max, IntKind.signed, IntKind.bits] at h
  omega
theorem wf8 {x : Int} (h : (Lit.int .u8 x).wf = true) : 0 ≤ x ∧ x ≤ 255 := by
  simp [Lit.wf, IntKind.min, IntKind.max, IntKind.signed, IntKind.bits] at h
  omega
theorem nnc (q : Nat) : (0 : Int) ≤ (q : Int) := Int.natCast_nonneg q
theorem ltc {a b : Nat} (h : a < b) : (a : Int) < (b : Int) := Int.ofNat_lt.2 h
/-- A reader's bytes: at most 2000 numbers between 0 and 255. -/
def Rdr (s : List Int) : Prop := s.length ≤ 2000 ∧ ∀ x ∈ s, 0 ≤ x ∧ x ≤ 255
theorem i64_wrap_nat (n : Nat) (h : n < 9223372036854775808) : IntKind.i64.wrap (n : Int) = (n : Int) := by
  simp [IntKind.wrap, IntKind.bits, IntKind.signed]; omega
theorem xor_i64_nat (a b : Nat) (ha : a < 9223372036854775808) (hb : b < 9223372036854775808) : bits .xor .i64 (a : Int) (b : Int) = ((a ^^^ b : Nat) : Int) := by
  have hx : a ^^^ b < 2 ^ 63 := Nat.xor_lt_two_pow (by omega) (by omega)
  have h1 : (BitVec.ofInt 64 (a : Int)).toNat = a := by
    rw [BitVec.ofInt_natCast, BitVec.toNat_ofNat]; exact Nat.mod_eq_of_lt (by omega)
  have h2 : (BitVec.ofInt 64 (b : Int)).toNat = b := by
    rw [BitVec.ofInt_natCast, BitVec.toNat_ofNat]; exact Nat.mod_eq_of_lt (by omega)
  show IntKind.i64.wrap ((BitVec.ofInt 64 (a : Int) ^^^ BitVec.ofInt 64 (b : Int)).toNat : Int) = _
  rw [BitVec.toNat_xor, h1, h2, i64_wrap_nat _ (by omega)]
theorem xor_nn {x y : Int} (h0 : 0 ≤ x) (h1 : x < 9223372036854775808) (h2 : 0 ≤ y) (h3 : y < 9223372036854775808) : 0 ≤ bits .xor .i64 x y := by
  obtain ⟨a, rfl⟩ := Int.eq_ofNat_of_zero_le h0
  obtain ⟨b, rfl⟩ := Int.eq_ofNat_of_zero_le h2
  rw [xor_i64_nat a b (by omega) (by omega)]
  omega
theorem tm_nn {x n : Int} (h : 0 ≤ x) : 0 ≤ Int.tmod x n := Int.tmod_nonneg _ h
theorem tm_lt {x n : Int} (h : 0 < n) : Int.tmod x n < n := Int.tmod_lt_of_pos _ h
theorem rd_bd {s : List Int} (hs : Rdr s) (i : Int) : 0 ≤ rd s i ∧ rd s i ≤ 255 := by
  unfold rd
  rw [List.getD_eq_getElem?_getD]
  by_cases h : i.toNat < s.length
  · rw [List.getElem?_eq_getElem h]
    exact hs.2 _ (List.getElem_mem h)
  · rw [List.getElem?_eq_none (by omega)]
    simp
theorem mix_bd {a b p q : Int} (ha : 0 ≤ a ∧ a ≤ 255) (hb : 0 ≤ b ∧ b ≤ 255) (hp : 0 ≤ p ∧ p ≤ 1000000) (hq : 0 ≤ q ∧ q ≤ 1000000) :
    0 ≤ wrap64 ((wrap64 ((wrap64 ((wrap64 ((wrap64 a) * 131)) + (wrap64 ((wrap64 b) * 1117)))) + (wrap64 (p * 29)))) + (wrap64 ((wrap64 q) * 53))) ∧ wrap64 ((wrap64 ((wrap64 ((wrap64 ((wrap64 a) * 131)) + (wrap64 ((wrap64 b) * 1117)))) + (wrap64 (p * 29)))) + (wrap64 ((wrap64 q) * 53))) ≤ 1000000000 := by
  rw [w64 (x := a) (by omega) (by omega), w64 (x := b) (by omega) (by omega), w64 (x := q) (by omega) (by omega), w64 (x := a * 131) (by omega) (by omega), w64 (x := b * 1117) (by omega) (by omega), w64 (x := p * 29) (by omega) (by omega), w64 (x := q * 53) (by omega) (by omega), w64 (x := a * 131 + b * 1117) (by omega) (by omega), w64 (x := a * 131 + b * 1117 + p * 29) (by omega) (by omega), w64 (by omega) (by omega)]
  omega
theorem mixed_bd {x n : Int} (h0 : 0 ≤ x) (h1 : x ≤ 1000000000) (hn : 0 < n) : 0 ≤ Int.tmod (bits .xor .i64 x (wrap64 (Int.tdiv x 64))) n ∧ Int.tmod (bits .xor .i64 x (wrap64 (Int.tdiv x 64))) n < n := by
  refine ⟨tm_nn (xor_nn h0 (by omega) ?_ ?_), tm_lt hn⟩
  all_goals rw [Int.tdiv_eq_ediv_of_nonneg h0, w64 (by omega) (by omega)]; omega
theorem spec_l13Rd_pick_ev {s : List Int} (hs : Rdr s) {p : Int} (hp : 0 ≤ p ∧ p ≤ 1000000) (n : Int) : ∃ v, Ev (fun k => spec_l13Rd_pick.f k s p n) (v, p + 1) ∧ 0 ≤ v ∧ (1 ≤ n → v < n) := by
  have e1 : wrap64 (p + 1) = p + 1 := w64 (by omega) (by omega)
  have e2 : wrap64 (p + 1 - 1) = p := by rw [w64 (by omega) (by omega)]; omega
  by_cases hn : n < 1
  · refine ⟨0, ?_, by omega, by omega⟩
    simp only [spec_l13Rd_pick.f, if_pos hn, e1]
    refine Ev.step (fun k => rfl) ?_
    simp only [spec_l13Rd_pick.j0, if_true]
    exact Ev.now _
  · by_cases hl : s.length = 0
    · refine ⟨0, ?_, by omega, by omega⟩
      simp only [spec_l13Rd_pick.f, if_neg hn, e1]
      refine Ev.step (fun k => rfl) ?_
      simp only [spec_l13Rd_pick.j0, hl]
      exact Ev.now _
    · have hlb : ((s.length : Int) == 0) = false := by rw [beq_eq_false_iff_ne]; omega
      have key : ∃ v, (∀ k, spec_l13Rd_pick.j0 (k + 1) n false s (p + 1) = some (v, p + 1)) ∧ 0 ≤ v ∧ v < n := by
        simp only [spec_l13Rd_pick.j0, Bool.false_eq_true, if_false, e2, if_neg (show ¬ n = 0 by omega), if_pos hp.1, if_neg (show ¬ (s.length : Int) = 0 by omega)]
        by_cases hlt : p < (s.length : Int)
        · have hb := rd_bd hs p
          simp only [if_pos hlt]
          exact ⟨_, fun k => rfl, tm_nn (by rw [w64 (by omega) (by omega)]; omega), tm_lt (by omega)⟩
        · have t1 : 0 ≤ Int.tmod p (s.length : Int) := tm_nn hp.1
          have t2 : Int.tmod p (s.length : Int) < (s.length : Int) := tm_lt (by omega)
          have e3 : wrap64 (wrap64 (p * 7) + 3) = p * 7 + 3 := by rw [w64 (x := p * 7) (by omega) (by omega), w64 (by omega) (by omega)]
          have t3 : 0 ≤ Int.tmod (p * 7 + 3) (s.length : Int) := tm_nn (by omega)
          have t4 : Int.tmod (p * 7 + 3) (s.length : Int) < (s.length : Int) := tm_lt (by omega)
          simp only [if_neg hlt, e3, if_pos t1, if_pos t2, if_pos t3, if_pos t4]
          have hq : 0 ≤ Int.tdiv p (s.length : Int) ∧ Int.tdiv p (s.length : Int) ≤ 1000000 := by
            rw [Int.tdiv_eq_ediv_of_nonneg hp.1]
            have a1 := Int.ediv_nonneg hp.1 (show (0 : Int) ≤ (s.length : Int) by omega)
            have a2 := Int.ediv_le_self (s.length : Int) hp.1
            omega
          have hm := mix_bd (rd_bd hs (Int.tmod p (s.length : Int))) (rd_bd hs (Int.tmod (p * 7 + 3) (s.length : Int))) hp hq
          have hf := mixed_bd hm.1 hm.2 (show 0 < n by omega)
          exact ⟨_, fun k => rfl, hf.1, hf.2⟩
      obtain ⟨v, hv, h0, h1⟩ := key
      refine ⟨v, ?_, h0, fun _ => h1⟩
      simp only [spec_l13Rd_pick.f, if_neg hn, e1, hlb]
      exact Ev.step hv (Ev.now _)
theorem rd_mem {l : List Int} {i : Int} (h0 : 0 ≤ i) (h1 : i < (l.length : Int)) : rd l i ∈ l := by
  obtain ⟨n, rfl⟩ := Int.eq_ofNat_of_zero_le h0
  rw [rd_nat (by omega)]
  exact List.getElem_mem _
theorem spec_l13Open_ev (l : List Int) (hl : ∀ x ∈ l, (Lit.int .u8 x).wf = true) : ∃ s, spec_l13Open.f l = some (s, 0) ∧ Rdr s := by
  have hb : ∀ x ∈ l, 0 ≤ x ∧ x ≤ 255 := fun x hx => wf8 (hl x hx)
  by_cases h : (l.length : Int) > 2000
  · exact ⟨l.take 2000, by simp only [spec_l13Open.f, if_pos h, if_pos (show (2000 : Int) ≤ (l.length : Int) by omega)], by simp; omega, fun x hx => hb x (List.mem_of_mem_take hx)⟩
  · exact ⟨l, by simp only [spec_l13Open.f, if_neg h], by omega, hb⟩
theorem spec_l13Rd_num_ev {s : List Int} (hs : Rdr s) {p : Int} (hp : 0 ≤ p ∧ p ≤ 1000000) (l : List Int) (hl : 0 < l.length) : ∃ v, Ev (fun k => spec_l13Rd_num.f k s p l) (v, p + 1) ∧ v ∈ l := by
  obtain ⟨v, hv, h0, h1⟩ := spec_l13Rd_pick_ev hs hp (l.length : Int)
  have h1 := h1 (by omega)
  refine ⟨rd l v, ?_, rd_mem h0 h1⟩
  simp only [spec_l13Rd_num.f]
  refine Ev.bind hv ?_
  simp only [if_pos h0, if_pos h1]
  exact Ev.now _
theorem spec_l1Cost_ev {s : List Int} (hs : Rdr s) {p : Int} (hp : 0 ≤ p ∧ p ≤ 999999) : ∃ v, Ev (fun k => spec_l1Cost.f k s p) (v, p + 2) ∧ -1 ≤ v ∧ v ≤ 9223372036854775807 := by
  obtain ⟨a, ha, h0, h1⟩ := spec_l13Rd_pick_ev hs (p := p) (by omega) 9
  have h1 := h1 (by omega)
  obtain ⟨v, hv, hm⟩ := spec_l13Rd_num_ev hs (p := p + 1) (by omega) [0, 1, 2, 1000000, a, 0, 999999, 500000, (-1), 1000001, 9223372036854775807] (by simp)
  refine ⟨v, ?_, ?_⟩
  · simp only [spec_l1Cost.f]
    refine Ev.bind ha (Ev.bind hv ?_)
    exact ev_to (Ev.now _) (by simp; omega)
  · simp only [List.mem_cons, List.not_mem_nil, or_false] at hm
    omega
/-- A cost: between 0 and 1000000. -/
def cv (a : Int) : Bool := decide (0 ≤ a ∧ a ≤ 1000000)
theorem cv_iff {a : Int} : cv a = true ↔ 0 ≤ a ∧ a ≤ 1000000 := by simp [cv]
theorem impl_CostValid_eq (a : Int) : impl_CostValid.f a = some (cv a) := by
  unfold impl_CostValid.f cv
  split <;> simp <;> omega
/-- The sum of two costs, at most 1000000. -/
def addc (s a : Int) : Int := min (s + a) 1000000
theorem addc_bd {s a : Int} (h0 : 0 ≤ s) (h1 : 0 ≤ a) : 0 ≤ addc s a ∧ addc s a ≤ 1000000 := by unfold addc; omega
theorem impl_AddCost_eq (a b : Int) : impl_AddCost.f a b = some (if cv a && cv b then addc a b else -1) := by
  unfold impl_AddCost.f
  rw [impl_CostValid_eq, impl_CostValid_eq]
  cases ha : cv a with
  | false => simp
  | true =>
    cases hb : cv b with
    | false => simp
    | true =>
      rw [cv_iff] at ha hb
      simp only [Option.bind_some, if_true, Bool.and_self, mn_eq, w64 (show -9223372036854775808 ≤ a + b by omega) (show a + b ≤ 9223372036854775807 by omega), addc]
theorem impl_MinCost_eq (a b : Int) : impl_MinCost.f a b = some (if cv a && cv b then min a b else -1) := by
  unfold impl_MinCost.f
  rw [impl_CostValid_eq, impl_CostValid_eq]
  cases cv a <;> cases cv b <;> simp [mn_eq]
def sumc (l : List Int) : Int := if l.all cv then l.foldl addc 0 else -1
def leastc (l : List Int) : Int := if l.all cv then l.foldl min 1000000 else -1
theorem impl_SumCosts_ev (l : List Int) (hl : l.length < 9223372036854775807) : Ev (fun k => impl_SumCosts.f k l) (sumc l) := by
  have h := down l.length (P := fun i => ∀ acc : Int, 0 ≤ acc → acc ≤ 1000000 → Ev (fun k => impl_SumCosts.l0 k acc l (l.length : Int) (i : Int)) (if (l.drop i).all cv then (l.drop i).foldl addc acc else -1)) ?_ ?_ 0 (by omega) 0 (by omega) (by omega)
  · simpa only [impl_SumCosts.f, sumc, List.drop_zero, cast0] using h
  · intro acc h0 h1
    refine Ev.step (fun k => rfl) ?_
    simp only [impl_SumCosts.l0, if_neg (show ¬ (l.length : Int) < (l.length : Int) by omega), dropn]
    exact Ev.now _
  · intro i hi ih acc h0 h1
    refine Ev.step (fun k => rfl) ?_
    simp only [impl_SumCosts.l0, if_pos (show (i : Int) < (l.length : Int) by omega), if_pos (show (0 : Int) ≤ (i : Int) by omega), rd_nat hi, impl_CostValid_eq, Option.bind_some, dropc hi, List.all_cons, List.foldl_cons, w64n (show i < 9223372036854775807 by omega)]
    cases hc : cv l[i] with
    | false => simpa using Ev.now _
    | true =>
      have hb := cv_iff.1 hc
      have e : mn (wrap64 (acc + l[i])) 1000000 = addc acc l[i] := by rw [mn_eq, w64 (by omega) (by omega)]; rfl
      have hd := addc_bd h0 hb.1
      simpa [e] using ih (addc acc l[i]) hd.1 hd.2
theorem spec_l1In_eq (a b c : Int) : spec_l1In.f a b c = some (decide (b ≤ a ∧ a ≤ c)) := by
  unfold spec_l1In.f
  split <;> simp <;> omega
theorem spec_CostValid_eq (a : Int) : spec_CostValid.f a = some (cv a) := by
  unfold spec_CostValid.f
  rw [spec_l1In_eq]
  rfl
theorem spec_l1All_ev (l : List Int) (hl : l.length < 9223372036854775807) : Ev (fun k => spec_l1All.f k l) (l.all cv) := by
  have h := down l.length (P := fun i => Ev (fun k => spec_l1All.l0 k l (l.length : Int) (i : Int)) ((l.drop i).all cv)) ?_ ?_ 0 (by omega)
  · exact h
  · refine Ev.step (fun k => rfl) ?_
    simp only [spec_l1All.l0, if_neg (show ¬ (l.length : Int) < (l.length : Int) by omega), dropn, List.all_nil]
    exact Ev.now _
  · intro i hi ih
    refine Ev.step (fun k => rfl) ?_
    simp only [spec_l1All.l0, if_pos (show (i : Int) < (l.length : Int) by omega), if_pos (show (0 : Int) ≤ (i : Int) by omega), rd_nat hi, spec_CostValid_eq, Option.bind_some, dropc hi, List.all_cons, w64n (show i < 9223372036854775807 by omega)]
    cases cv l[i] with
    | false => simpa using Ev.now _
    | true => simpa using ih
theorem spec_SumCosts_l0 (l : List Int) (hl : l.length < 9223372036854775807) (hv : l.all cv = true) : Ev (fun k => spec_SumCosts.l0 k 0 l (l.length : Int) 0) (l.foldl addc 0) := by
  have hm : ∀ x ∈ l, cv x = true := by simpa using hv
  have h := down l.length (P := fun i => ∀ acc : Int, 0 ≤ acc → acc ≤ 1000000 → Ev (fun k => spec_SumCosts.l0 k acc l (l.length : Int) (i : Int)) ((l.drop i).foldl addc acc)) ?_ ?_ 0 (by omega) 0 (by omega) (by omega)
  · simpa only [List.drop_zero, cast0] using h
  · intro acc h0 h1
    refine Ev.step (fun k => rfl) ?_
    simp only [spec_SumCosts.l0, if_neg (show ¬ (l.length : Int) < (l.length : Int) by omega), dropn]
    exact Ev.now _
  · intro i hi ih acc h0 h1
    have hb := cv_iff.1 (hm l[i] (List.getElem_mem hi))
    have e : mn (wrap64 (acc + l[i])) 1000000 = addc acc l[i] := by rw [mn_eq, w64 (by omega) (by omega)]; rfl
    have hd := addc_bd h0 hb.1
    refine Ev.step (fun k => rfl) ?_
    simp only [spec_SumCosts.l0, spec_l1Add.f, if_pos (show (i : Int) < (l.length : Int) by omega), if_pos (show (0 : Int) ≤ (i : Int) by omega), rd_nat hi, Option.bind_some, dropc hi, List.foldl_cons, w64n (show i < 9223372036854775807 by omega), e]
    exact ih _ hd.1 hd.2
theorem spec_SumCosts_ev (l : List Int) (hl : l.length < 9223372036854775807) : Ev (fun k => spec_SumCosts.f k l) (sumc l) := by
  simp only [spec_SumCosts.f]
  refine Ev.bind (spec_l1All_ev l hl) ?_
  unfold sumc
  cases hv : l.all cv with
  | false => simpa using Ev.now _
  | true => simpa using spec_SumCosts_l0 l hl hv
theorem impl_LeastCost_ev (l : List Int) (hl : l.length < 9223372036854775807) : Ev (fun k => impl_LeastCost.f k l) (leastc l) := by
  have h := down l.length (P := fun i => ∀ acc : Int, Ev (fun k => impl_LeastCost.l0 k acc l (l.length : Int) (i : Int)) (if (l.drop i).all cv then (l.drop i).foldl min acc else -1)) ?_ ?_ 0 (by omega) 1000000
  · simpa only [impl_LeastCost.f, leastc, List.drop_zero, cast0] using h
  · intro acc
    refine Ev.step (fun k => rfl) ?_
    simp only [impl_LeastCost.l0, if_neg (show ¬ (l.length : Int) < (l.length : Int) by omega), dropn]
    exact Ev.now _
  · intro i hi ih acc
    refine Ev.step (fun k => rfl) ?_
    simp only [impl_LeastCost.l0, if_pos (show (i : Int) < (l.length : Int) by omega), if_pos (show (0 : Int) ≤ (i : Int) by omega), rd_nat hi, impl_CostValid_eq, Option.bind_some, dropc hi, List.all_cons, List.foldl_cons, w64n (show i < 9223372036854775807 by omega), mn_eq]
    cases hc : cv l[i] with
    | false => simpa using Ev.now _
    | true => simpa using ih (min acc l[i])
theorem spec_LeastCost_l0 (l : List Int) (hl : l.length < 9223372036854775807) : Ev (fun k => spec_LeastCost.l0 k 1000000 l (l.length : Int) 0) (l.foldl min 1000000) := by
  have h := down l.length (P := fun i => ∀ acc : Int, Ev (fun k => spec_LeastCost.l0 k acc l (l.length : Int) (i : Int)) ((l.drop i).foldl min acc)) ?_ ?_ 0 (by omega) 1000000
  · simpa only [List.drop_zero, cast0] using h
  · intro acc
    refine Ev.step (fun k => rfl) ?_
    simp only [spec_LeastCost.l0, if_neg (show ¬ (l.length : Int) < (l.length : Int) by omega), dropn]
    exact Ev.now _
  · intro i hi ih acc
    refine Ev.step (fun k => rfl) ?_
    simp only [spec_LeastCost.l0, if_pos (show (i : Int) < (l.length : Int) by omega), if_pos (show (0 : Int) ≤ (i : Int) by omega), rd_nat hi, dropc hi, List.foldl_cons, w64n (show i < 9223372036854775807 by omega), mn_eq]
    exact ih _
theorem spec_LeastCost_ev (l : List Int) (hl : l.length < 9223372036854775807) : Ev (fun k => spec_LeastCost.f k l) (leastc l) := by
  simp only [spec_LeastCost.f]
  refine Ev.bind (spec_l1All_ev l hl) ?_
  unfold leastc
  cases hv : l.all cv with
  | false => simpa using Ev.now _
  | true => simpa using spec_LeastCost_l0 l hl
theorem spec_l1Costs_l0_ev {s : List Int} (hs : Rdr s) (b : Bool) (n : Nat) (hn : n ≤ 4) : ∀ i, i ≤ n → ∀ (l : List Int) (p : Int), l.length = i → 0 ≤ p → p ≤ 2 + i * 3 →
    ∃ r q, Ev (fun k => spec_l1Costs.l0 k l b (n : Int) (i : Int) s p) (r, q) ∧ r.length ≤ 4 := by
  refine down n ?_ ?_
  · intro l p hl h0 h1
    refine ⟨l, p, ?_, by omega⟩
    refine Ev.step (fun k => rfl) ?_
    simp only [spec_l1Costs.l0, if_neg (show ¬ (n : Int) < (n : Int) by omega)]
    exact Ev.now _
  · intro i hi ih l p hl h0 h1
    obtain ⟨c, hc, -⟩ := spec_l1Cost_ev hs (p := p) (by omega)
    have hlen : l.length < 17592186044416 := by omega
    cases b with
    | true =>
      obtain ⟨r, q, hr, hq⟩ := ih (l ++ [c]) (p + 2) (by simp; omega) (by omega) (by omega)
      refine ⟨r, q, ?_, hq⟩
      refine Ev.step (fun k => rfl) ?_
      simp only [spec_l1Costs.l0, if_pos (show (i : Int) < (n : Int) by omega)]
      refine Ev.bind hc ?_
      simp only [if_true, if_pos hlen, w64n (show i < 9223372036854775807 by omega)]
      exact hr
    | false =>
      cases hv : cv c with
      | true =>
        obtain ⟨r, q, hr, hq⟩ := ih (l ++ [c]) (p + 2) (by simp; omega) (by omega) (by omega)
        refine ⟨r, q, ?_, hq⟩
        refine Ev.step (fun k => rfl) ?_
        simp only [spec_l1Costs.l0, if_pos (show (i : Int) < (n : Int) by omega)]
        refine Ev.bind hc ?_
        simp only [Bool.false_eq_true, if_false, spec_CostValid_eq, hv, Option.bind_some, if_true, if_pos hlen, w64n (show i < 9223372036854775807 by omega)]
        exact hr
      | false =>
        obtain ⟨v, hp, -⟩ := spec_l13Rd_pick_ev hs (p := p + 2) (by omega) 4
        obtain ⟨r, q, hr, hq⟩ := ih (l ++ [v]) (p + 2 + 1) (by simp; omega) (by omega) (by omega)
        refine ⟨r, q, ?_, hq⟩
        refine Ev.step (fun k => rfl) ?_
        simp only [spec_l1Costs.l0, if_pos (show (i : Int) < (n : Int) by omega)]
        refine Ev.bind hc ?_
        simp only [Bool.false_eq_true, if_false, spec_CostValid_eq, hv, Option.bind_some]
        refine Ev.bind hp ?_
        simp only [if_pos hlen, w64n (show i < 9223372036854775807 by omega)]
        exact hr
theorem DrawSumCosts_ev (l : List Int) (hl : ∀ x ∈ l, (Lit.int .u8 x).wf = true) : ∃ r, Ev (fun k => spec_DrawSumCosts.f k l) r ∧ r.length ≤ 4 := by
  obtain ⟨s, e, hs⟩ := spec_l13Open_ev l hl
  obtain ⟨v, hv, -⟩ := spec_l13Rd_pick_ev hs (p := 0) (by omega) 8
  obtain ⟨m, hm, m0, m1⟩ := spec_l13Rd_pick_ev hs (p := 0 + 1) (by omega) 5
  have m1 := m1 (by omega)
  obtain ⟨n, rfl⟩ := Int.eq_ofNat_of_zero_le m0
  obtain ⟨r, q, hr, hq⟩ := spec_l1Costs_l0_ev hs (v == 0) n (by omega) 0 (by omega) [] (0 + 1 + 1) rfl (by omega) (by omega)
  refine ⟨r, ?_, hq⟩
  simp only [spec_DrawSumCosts.f, e, Option.bind_some, spec_l1Costs.f]
  exact Ev.bind (Ev.bind hv (Ev.bind hm hr)) (Ev.now _)
theorem foldl_addc : ∀ (l : List Int), l.all cv = true → ∀ acc : Int, 0 ≤ acc → acc ≤ 1000000 → l.foldl addc acc = min (acc + l.sum) 1000000 ∧ 0 ≤ l.sum := by
  intro l
  induction l with
  | nil => intro _ acc h0 h1; simp; omega
  | cons a l ih =>
    intro h acc h0 h1
    simp only [List.all_cons, Bool.and_eq_true] at h
    have hb := cv_iff.1 h.1
    have hd := addc_bd h0 hb.1
    have := ih h.2 (addc acc a) hd.1 hd.2
    rw [List.foldl_cons, this.1, List.sum_cons]
    unfold addc
    omega
theorem foldl_min : ∀ (l : List Int) (acc : Int), l.foldl min acc = min acc (l.foldl min acc) ∧ ∀ b, l.foldl min (min acc b) = min (l.foldl min acc) b := by
  intro l
  induction l with
  | nil => intro acc; simp
  | cons a l ih =>
    intro acc
    rw [List.foldl_cons]
    have h := ih (min acc a)
    refine ⟨by omega, fun b => ?_⟩
    rw [List.foldl_cons, show min (min acc b) a = min (min acc a) b by omega, h.2 b]
theorem sum_ge : ∀ (l : List Int), l.all cv = true → ∀ x ∈ l, x ≤ l.sum := by
  intro l
  induction l with
  | nil => intro _ x hx; simp at hx
  | cons a l ih =>
    intro h x hx
    simp only [List.all_cons, Bool.and_eq_true] at h
    have hb := cv_iff.1 h.1
    have hs := (foldl_addc l h.2 0 (by omega) (by omega)).2
    rw [List.sum_cons]
    rcases List.mem_cons.1 hx with rfl | hx
    · omega
    · have := ih h.2 x hx; omega
theorem least_le : ∀ (l : List Int) (acc : Int), ∀ x ∈ l, l.foldl min acc ≤ x := by
  intro l
  induction l with
  | nil => intro acc x hx; simp at hx
  | cons a l ih =>
    intro acc x hx
    rw [List.foldl_cons]
    rcases List.mem_cons.1 hx with rfl | hx
    · have := (foldl_min l (min acc x)).1; omega
    · exact ih _ x hx
theorem sum_append' (a b : List Int) : (a ++ b).sum = a.sum + b.sum := by
  induction a with
  | nil => simp
  | cons x a ih => simp only [List.cons_append, List.sum_cons, ih]; omega
theorem Sums_l0 (l : List Int) (hl : l.length ≤ 4) (hv : l.all cv = true) : Ev (fun k => laws_FnSums.l0 k l (sumc l) (leastc l) (wrap64 ((l.length : Int) / 2)) l (l.length : Int) 0) true := by
  have hm : ∀ x ∈ l, cv x = true := by simpa using hv
  have hs : sumc l = min l.sum 1000000 := by
    rw [sumc, if_pos hv, (foldl_addc l hv 0 (by omega) (by omega)).1, Int.zero_add]
  have hle : leastc l = l.foldl min 1000000 := by rw [leastc, if_pos hv]
  have hh : wrap64 ((l.length : Int) / 2) = ((l.length / 2 : Nat) : Int) := by rw [w64 (by omega) (by omega)]; omega
  rw [hh]
  have h := down l.length (P := fun i => Ev (fun k => laws_FnSums.l0 k l (sumc l) (leastc l) ((l.length / 2 : Nat) : Int) l (l.length : Int) (i : Int)) true) ?_ ?_ 0 (by omega)
  · exact h
  · refine Ev.step (fun k => rfl) ?_
    simp only [laws_FnSums.l0, if_neg (show ¬ (l.length : Int) < (l.length : Int) by omega), if_pos (show (0 : Int) ≤ ((l.length / 2 : Nat) : Int) by omega), if_pos (show ((l.length / 2 : Nat) : Int) ≤ (l.length : Int) by omega), Int.toNat_natCast]
    generalize l.length / 2 = c
    have v1 : (l.take c).all cv = true := by rw [List.all_eq_true]; exact fun x hx => hm x (List.mem_of_mem_take hx)
    have v2 : (l.drop c).all cv = true := by rw [List.all_eq_true]; exact fun x hx => hm x (List.mem_of_mem_drop hx)
    have f1 := foldl_addc _ v1 0 (by omega) (by omega)
    have f2 := foldl_addc _ v2 0 (by omega) (by omega)
    have e : l.sum = (l.take c).sum + (l.drop c).sum := by rw [← sum_append', List.take_append_drop]
    have s1 : sumc (l.take c) = min (l.take c).sum 1000000 := by rw [sumc, if_pos v1, f1.1, Int.zero_add]
    have s2 : sumc (l.drop c) = min (l.drop c).sum 1000000 := by rw [sumc, if_pos v2, f2.1, Int.zero_add]
    have c1 : cv (sumc (l.take c)) = true := by rw [cv_iff]; omega
    have c2 : cv (sumc (l.drop c)) = true := by rw [cv_iff]; omega
    have m1 : leastc (l.take c) = (l.take c).foldl min 1000000 := by rw [leastc, if_pos v1]
    have m2 : leastc (l.drop c) = (l.drop c).foldl min 1000000 := by rw [leastc, if_pos v2]
    have lo : ∀ (z : List Int), z.all cv = true → 0 ≤ z.foldl min 1000000 := by
      intro z
      have : ∀ acc : Int, 0 ≤ acc → z.all cv = true → 0 ≤ z.foldl min acc := by
        induction z with
        | nil => intro acc h _; simpa using h
        | cons a z ih =>
          intro acc h hz
          simp only [List.all_cons, Bool.and_eq_true] at hz
          have hb := cv_iff.1 hz.1
          rw [List.foldl_cons]
          exact ih _ (by omega) hz.2
      exact this _ (by omega)
    have c3 : cv (leastc (l.take c)) = true := by rw [cv_iff]; have := lo _ v1; have := (foldl_min (l.take c) 1000000).1; omega
    have c4 : cv (leastc (l.drop c)) = true := by rw [cv_iff]; have := lo _ v2; have := (foldl_min (l.drop c) 1000000).1; omega
    have q1 : addc (sumc (l.take c)) (sumc (l.drop c)) = sumc l := by unfold addc; omega
    have q2 : min (leastc (l.take c)) (leastc (l.drop c)) = leastc l := by
      rw [m1, m2, hle]
      have h1 : l.foldl min 1000000 = (l.drop c).foldl min ((l.take c).foldl min 1000000) := by rw [← List.foldl_append, List.take_append_drop]
      have h2 := (foldl_min (l.take c) 1000000).1
      have h3 := (foldl_min (l.drop c) 1000000).2 ((l.take c).foldl min 1000000)
      rw [h1, h2, h3]
      omega
    have a1 := impl_SumCosts_ev (l.take c) (by simp; omega)
    have a2 := impl_SumCosts_ev (l.drop c) (by simp; omega)
    have a3 := impl_LeastCost_ev (l.take c) (by simp; omega)
    have a4 := impl_LeastCost_ev (l.drop c) (by simp; omega)
    refine Ev.bind a1 (Ev.bind a2 ?_)
    simp only [impl_AddCost_eq, c1, c2, Bool.and_self, if_true, Option.bind_some, q1]
    refine Ev.bind a3 (Ev.bind a4 ?_)
    simp only [impl_MinCost_eq, c3, c4, Bool.and_self, if_true, Option.bind_some, q2, beq_self_eq_true]
    exact Ev.now _
  · intro i hi ih
    have hx := List.getElem_mem hi
    have b1 := sum_ge l hv _ hx
    have b2 := least_le l 1000000 _ hx
    have b3 := cv_iff.1 (hm _ hx)
    refine Ev.step (fun k => rfl) ?_
    simp only [laws_FnSums.l0, if_pos (show (i : Int) < (l.length : Int) by omega), if_pos (show (0 : Int) ≤ (i : Int) by omega), rd_nat hi, impl_CostValid_eq, hm _ hx, Option.bind_some, if_true, if_neg (show ¬ l[i] < leastc l by omega), if_neg (show ¬ l[i] > sumc l by omega), w64n (show i < 9223372036854775807 by omega)]
    exact ih
theorem FnSums : laws_FnSums.Pure := by
  intro l0 _ _ h0
  refine Ev.rounds ?_
  simp only [laws_FnSums.f]
  by_cases c0 : (l0.length : Int) > 1048576
  · simp only [if_pos c0]; exact Ev.now _
  · simp only [if_neg c0]
    obtain ⟨l, hd, hl⟩ := DrawSumCosts_ev l0 h0
    refine Ev.bind hd (Ev.bind (impl_SumCosts_ev l (by omega)) (Ev.bind (impl_LeastCost_ev l (by omega)) (Ev.bind (spec_SumCosts_ev l (by omega)) ?_)))
    simp only [if_true]
    refine Ev.bind (spec_LeastCost_ev l (by omega)) ?_
    simp only [if_true]
    cases hv : l.all cv with
    | true =>
      have f1 := foldl_addc _ hv 0 (by omega) (by omega)
      have hn : decide (sumc l < 0) = false := by rw [decide_eq_false_iff_not, sumc, if_pos hv, f1.1]; omega
      simp only [hn]
      refine Ev.step (fun k => rfl) ?_
      simp only [laws_FnSums.j0, Bool.false_eq_true, if_false]
      exact Sums_l0 l hl hv
    | false =>
      have e1 : sumc l = -1 := by simp [sumc, hv]
      have e2 : leastc l = -1 := by simp [leastc, hv]
      have hn : decide ((-1 : Int) < 0) = true := by decide
      simp only [e1, e2, hn]
      refine Ev.step (fun k => rfl) ?_
      simp only [laws_FnSums.j0, if_true]
      refine Ev.bind (spec_SumCosts_ev l (by omega)) ?_
      simp only [e1, if_true]
      refine Ev.bind (spec_LeastCost_ev l (by omega)) ?_
      simp only [e2, if_true, beq_self_eq_true]
      exact Ev.now _

end Go.Proofs.Ythgkfakkpinbcaa.Pure
