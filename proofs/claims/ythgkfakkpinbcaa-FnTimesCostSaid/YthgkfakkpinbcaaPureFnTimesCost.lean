/- The pure statement of FnTimesCost: the printed functions answer true at every input that can be read. -/
import Derived.Test.YthgkfakkpinbcaaPFnTimesCostx2
set_option linter.unusedVariables false
set_option linter.unusedSimpArgs false
namespace Go.Proofs.Ythgkfakkpinbcaa.Pure
open Go.RowKit Go.Proofs.Ythgkfakkpinbcaa.PFnTimesCost Go.Proofs.YthgkfakkpinbcaaW.PrintWords Go.Proofs.YthgkfakkpinbcaaW.PrintLast Go.Proofs.YthgkfakkpinbcaaW.PrintMore

theorem w64 {x : Int} (h0 : -9223372036854775808 ≤ x) (h1 : x ≤ 9223372036854775807) : wrap64 x = x := by unfold wrap64; omega
theorem cast0 : ((0 : Nat) : Int) = 0 := rfl
theorem w64n {i : Nat} (h : i < 9223372036854775807) : wrap64 ((i : Int) + 1) = ((i + 1 : Nat) : Int) := by rw [w64 (by omega) (by omega)]; omega
theorem rd_nat {l : List Int} {i : Nat} (h : i < l.length) : rd l (i : Int) = l[i] := by simp [rd, List.getD_eq_getElem?_getD, h]
theorem mn_eq (a b : Int) : mn a b = min a b := by unfold mn; split <;> omega
theorem mx_eq (a b : Int) : mx a b = max a b := by unfold mx; split <;> omega
theorem down (n : Nat) {P : Nat → Prop} (h0 : P n) (hs : ∀ i, i < n → P (i + 1) → P i) : ∀ i, i ≤ n → P i := by
  have h : ∀ d i, i + d = n → P i := by
    intro d
    induction d with
    | zero => intro i hi; obtain rfl : i = n := by omega
              exact h0
    | succ d ih => intro i hi; exact hs i (by omega) (ih (i + 1) (by omega))
  exact fun i hi => h (n - i) i (by omega)
theorem ev_to {α : Type} {g : Nat → Option α} {r r' : α} (h : Ev g r) (e : r = r') : Ev g r' := e ▸ h
theorem dropc {α : Type} {l : List α} {i : Nat} (h : i < l.length) : l.drop i = l[i] :: l.drop (i + 1) := List.drop_eq_getElem_cons h
theorem dropn {α : Type} (l : List α) : l.drop l.length = [] := List.drop_eq_nil_of_le (Nat.le_refl _)
theorem wf64 {x : Int} (h : (Lit.int .i64 x).wf = true) : -9223372036854775808 ≤ x ∧ x ≤ 9223372036854775807 := by
  simp [Lit.wf, IntKind.min, IntKind.max, IntKind.signed, IntKind.bits] at h
  omega
theorem wf8 {x : Int} (h : (Lit.int .u8 x).wf = true) : 0 ≤ x ∧ x ≤ 255 := by
  simp [Lit.wf, IntKind.min, IntKind.max, IntKind.signed, IntKind.bits] at h
  omega
theorem nnc (q : Nat) : (0 : Int) ≤ (q : Int) := Int.natCast_nonneg q
theorem ltc {a b : Nat} (h : a < b) : (a : Int) < (b : Int) := Int.ofNat_lt.2 h
/-- A reader's bytes: at most 2000 numbers between 0 and 255. -/
def Rdr (s : List Int) : Prop := s.length ≤ 2000 ∧ ∀ x ∈ s, 0 ≤ x ∧ x ≤ 255
theorem i64_wrap_nat (n : Nat) (h : n < 9223372036854775808) : IntKind.i64.wrap (n : Int) = (n : Int) := by
  simp [IntKind.wrap, IntKind.bits, IntKind.signed]; omega
theorem xor_i64_nat (a b : Nat) (ha : a < 9223372036854775808) (hb : b < 9223372036854775808) : bits .xor .i64 (a : Int) (b : Int) = ((a ^^^ b : Nat) : Int) := by
  have hx : a ^^^ b < 2 ^ 63 := Nat.xor_lt_two_pow (by omega) (by omega)
  have h1 : (BitVec.ofInt 64 (a : Int)).toNat = a := by
    rw [BitVec.ofInt_natCast, BitVec.toNat_ofNat]; exact Nat.mod_eq_of_lt (by omega)
  have h2 : (BitVec.ofInt 64 (b : Int)).toNat = b := by
    rw [BitVec.ofInt_natCast, BitVec.toNat_ofNat]; exact Nat.mod_eq_of_lt (by omega)
  show IntKind.i64.wrap ((BitVec.ofInt 64 (a : Int) ^^^ BitVec.ofInt 64 (b : Int)).toNat : Int) = _
  rw [BitVec.toNat_xor, h1, h2, i64_wrap_nat _ (by omega)]
theorem xor_nn {x y : Int} (h0 : 0 ≤ x) (h1 : x < 9223372036854775808) (h2 : 0 ≤ y) (h3 : y < 9223372036854775808) : 0 ≤ bits .xor .i64 x y := by
  obtain ⟨a, rfl⟩ := Int.eq_ofNat_of_zero_le h0
  obtain ⟨b, rfl⟩ := Int.eq_ofNat_of_zero_le h2
  rw [xor_i64_nat a b (by omega) (by omega)]
  omega
theorem tm_nn {x n : Int} (h : 0 ≤ x) : 0 ≤ Int.tmod x n := Int.tmod_nonneg _ h
theorem tm_lt {x n : Int} (h : 0 < n) : Int.tmod x n < n := Int.tmod_lt_of_pos _ h
theorem rd_bd {s : List Int} (hs : Rdr s) (i : Int) : 0 ≤ rd s i ∧ rd s i ≤ 255 := by
  unfold rd
  rw [List.getD_eq_getElem?_getD]
  by_cases h : i.toNat < s.length
  · rw [List.getElem?_eq_getElem h]
    exact hs.2 _ (List.getElem_mem h)
  · rw [List.getElem?_eq_none (by omega)]
    simp
theorem mix_bd {a b p q : Int} (ha : 0 ≤ a ∧ a ≤ 255) (hb : 0 ≤ b ∧ b ≤ 255) (hp : 0 ≤ p ∧ p ≤ 1000000) (hq : 0 ≤ q ∧ q ≤ 1000000) :
    0 ≤ wrap64 ((wrap64 ((wrap64 ((wrap64 ((wrap64 a) * 131)) + (wrap64 ((wrap64 b) * 1117)))) + (wrap64 (p * 29)))) + (wrap64 ((wrap64 q) * 53))) ∧ wrap64 ((wrap64 ((wrap64 ((wrap64 ((wrap64 a) * 131)) + (wrap64 ((wrap64 b) * 1117)))) + (wrap64 (p * 29)))) + (wrap64 ((wrap64 q) * 53))) ≤ 1000000000 := by
  rw [w64 (x := a) (by omega) (by omega), w64 (x := b) (by omega) (by omega), w64 (x := q) (by omega) (by omega), w64 (x := a * 131) (by omega) (by omega), w64 (x := b * 1117) (by omega) (by omega), w64 (x := p * 29) (by omega) (by omega), w64 (x := q * 53) (by omega) (by omega), w64 (x := a * 131 + b * 1117) (by omega) (by omega), w64 (x := a * 131 + b * 1117 + p * 29) (by omega) (by omega), w64 (by omega) (by omega)]
  omega
theorem mixed_bd {x n : Int} (h0 : 0 ≤ x) (h1 : x ≤ 1000000000) (hn : 0 < n) : 0 ≤ Int.tmod (bits .xor .i64 x (wrap64 (Int.tdiv x 64))) n ∧ Int.tmod (bits .xor .i64 x (wrap64 (Int.tdiv x 64))) n < n := by
  refine ⟨tm_nn (xor_nn h0 (by omega) ?_ ?_), tm_lt hn⟩
  all_goals rw [Int.tdiv_eq_ediv_of_nonneg h0, w64 (by omega) (by omega)]; omega
theorem spec_l13Rd_pick_ev {s : List Int} (hs : Rdr s) {p : Int} (hp : 0 ≤ p ∧ p ≤ 1000000) (n : Int) : ∃ v, Ev (fun k => spec_l13Rd_pick.f k s p n) (v, p + 1) ∧ 0 ≤ v ∧ (1 ≤ n → v < n) := by
  have e1 : wrap64 (p + 1) = p + 1 := w64 (by omega) (by omega)
  have e2 : wrap64 (p + 1 - 1) = p := by rw [w64 (by omega) (by omega)]; omega
  by_cases hn : n < 1
  · refine ⟨0, ?_, by omega, by omega⟩
    simp only [spec_l13Rd_pick.f, if_pos hn, e1]
    refine Ev.step (fun k => rfl) ?_
    simp only [spec_l13Rd_pick.j0, if_true]
    exact Ev.now _
  · by_cases hl : s.length = 0
    · refine ⟨0, ?_, by omega, by omega⟩
      simp only [spec_l13Rd_pick.f, if_neg hn, e1]
      refine Ev.step (fun k => rfl) ?_
      simp only [spec_l13Rd_pick.j0, hl]
      exact Ev.now _
    · have hlb : ((s.length : Int) == 0) = false := by rw [beq_eq_false_iff_ne]; omega
      have key : ∃ v, (∀ k, spec_l13Rd_pick.j0 (k + 1) n false s (p + 1) = some (v, p + 1)) ∧ 0 ≤ v ∧ v < n := by
        simp only [spec_l13Rd_pick.j0, Bool.false_eq_true, if_false, e2, if_neg (show ¬ n = 0 by omega), if_pos hp.1, if_neg (show ¬ (s.length : Int) = 0 by omega)]
        by_cases hlt : p < (s.length : Int)
        · have hb := rd_bd hs p
          simp only [if_pos hlt]
          exact ⟨_, fun k => rfl, tm_nn (by rw [w64 (by omega) (by omega)]; omega), tm_lt (by omega)⟩
        · have t1 : 0 ≤ Int.tmod p (s.length : Int) := tm_nn hp.1
          have t2 : Int.tmod p (s.length : Int) < (s.length : Int) := tm_lt (by omega)
          have e3 : wrap64 (wrap64 (p * 7) + 3) = p * 7 + 3 := by rw [w64 (x := p * 7) (by omega) (by omega), w64 (by omega) (by omega)]
          have t3 : 0 ≤ Int.tmod (p * 7 + 3) (s.length : Int) := tm_nn (by omega)
          have t4 : Int.tmod (p * 7 + 3) (s.length : Int) < (s.length : Int) := tm_lt (by omega)
          simp only [if_neg hlt, e3, if_pos t1, if_pos t2, if_pos t3, if_pos t4]
          have hq : 0 ≤ Int.tdiv p (s.length : Int) ∧ Int.tdiv p (s.length : Int) ≤ 1000000 := by
            rw [Int.tdiv_eq_ediv_of_nonneg hp.1]
            have a1 := Int.ediv_nonneg hp.1 (show (0 : Int) ≤ (s.length : Int) by omega)
            have a2 := Int.ediv_le_self (s.length : Int) hp.1
            omega
          have hm := mix_bd (rd_bd hs (Int.tmod p (s.length : Int))) (rd_bd hs (Int.tmod (p * 7 + 3) (s.length : Int))) hp hq
          have hf := mixed_bd hm.1 hm.2 (show 0 < n by omega)
          exact ⟨_, fun k => rfl, hf.1, hf.2⟩
      obtain ⟨v, hv, h0, h1⟩ := key
      refine ⟨v, ?_, h0, fun _ => h1⟩
      simp only [spec_l13Rd_pick.f, if_neg hn, e1, hlb]
      exact Ev.step hv (Ev.now _)
theorem rd_mem {l : List Int} {i : Int} (h0 : 0 ≤ i) (h1 : i < (l.length : Int)) : rd l i ∈ l := by
  obtain ⟨n, rfl⟩ := Int.eq_ofNat_of_zero_le h0
  rw [rd_nat (by omega)]
  exact List.getElem_mem _
theorem spec_l13Open_ev (l : List Int) (hl : ∀ x ∈ l, (Lit.int .u8 x).wf = true) : ∃ s, spec_l13Open.f l = some (s, 0) ∧ Rdr s := by
  have hb : ∀ x ∈ l, 0 ≤ x ∧ x ≤ 255 := fun x hx => wf8 (hl x hx)
  by_cases h : (l.length : Int) > 2000
  · exact ⟨l.take 2000, by simp only [spec_l13Open.f, if_pos h, if_pos (show (2000 : Int) ≤ (l.length : Int) by omega)], by simp; omega, fun x hx => hb x (List.mem_of_mem_take hx)⟩
  · exact ⟨l, by simp only [spec_l13Open.f, if_neg h], by omega, hb⟩
theorem spec_l13Rd_num_ev {s : List Int} (hs : Rdr s) {p : Int} (hp : 0 ≤ p ∧ p ≤ 1000000) (l : List Int) (hl : 0 < l.length) : ∃ v, Ev (fun k => spec_l13Rd_num.f k s p l) (v, p + 1) ∧ v ∈ l := by
  obtain ⟨v, hv, h0, h1⟩ := spec_l13Rd_pick_ev hs hp (l.length : Int)
  have h1 := h1 (by omega)
  refine ⟨rd l v, ?_, rd_mem h0 h1⟩
  simp only [spec_l13Rd_num.f]
  refine Ev.bind hv ?_
  simp only [if_pos h0, if_pos h1]
  exact Ev.now _
theorem spec_l1Cost_ev {s : List Int} (hs : Rdr s) {p : Int} (hp : 0 ≤ p ∧ p ≤ 999999) : ∃ v, Ev (fun k => spec_l1Cost.f k s p) (v, p + 2) ∧ -1 ≤ v ∧ v ≤ 9223372036854775807 := by
  obtain ⟨a, ha, h0, h1⟩ := spec_l13Rd_pick_ev hs (p := p) (by omega) 9
  have h1 := h1 (by omega)
  obtain ⟨v, hv, hm⟩ := spec_l13Rd_num_ev hs (p := p + 1) (by omega) [0, 1, 2, 1000000, a, 0, 999999, 500000, (-1), 1000001, 9223372036854775807] (by simp)
  refine ⟨v, ?_, ?_⟩
  · simp only [spec_l1Cost.f]
    refine Ev.bind ha (Ev.bind hv ?_)
    exact ev_to (Ev.now _) (by simp; omega)
  · simp only [List.mem_cons, List.not_mem_nil, or_false] at hm
    omega
/-- A cost: between 0 and 1000000. -/
def cv (a : Int) : Bool := decide (0 ≤ a ∧ a ≤ 1000000)
theorem cv_iff {a : Int} : cv a = true ↔ 0 ≤ a ∧ a ≤ 1000000 := by simp [cv]
theorem impl_CostValid_eq (a : Int) : impl_CostValid.f a = some (cv a) := by
  unfold impl_CostValid.f cv
  split <;> simp <;> omega
/-- So many times a cost, at most 1000000. -/
def timesc (n a : Int) : Int := if n < 0 ∨ cv a = false then -1 else min (n * a) 1000000
theorem times_core {n a : Int} (ha : 0 < a) : (1000000 / a < n → 1000000 < n * a) ∧ (n ≤ 1000000 / a → n * a ≤ 1000000) := by
  have h1 := Int.lt_ediv_add_one_mul_self 1000000 ha
  have h2 := Int.ediv_mul_le 1000000 (show a ≠ 0 by omega)
  constructor
  · intro h
    have := Int.mul_le_mul_of_nonneg_right (show 1000000 / a + 1 ≤ n by omega) (show 0 ≤ a by omega)
    omega
  · intro h
    have := Int.mul_le_mul_of_nonneg_right h (show 0 ≤ a by omega)
    omega
theorem times_div {a : Int} (ha : 0 < a) : 0 ≤ 1000000 / a ∧ 1000000 / a ≤ 1000000 := by
  have h1 := Int.ediv_nonneg (show (0 : Int) ≤ 1000000 by omega) (show 0 ≤ a by omega)
  have h2 := Int.ediv_le_self a (show (0 : Int) ≤ 1000000 by omega)
  omega
theorem times_nn {n a : Int} (hn : 0 ≤ n) (ha : 0 ≤ a) : 0 ≤ n * a := Int.mul_nonneg hn ha
theorem timesc_pos {n a : Int} (hn : 0 ≤ n) (ha : cv a = true) : timesc n a = min (n * a) 1000000 := by
  unfold timesc
  rw [if_neg]
  rintro (h | h)
  · omega
  · rw [ha] at h; cases h
theorem impl_times_eq {n a : Int} (hn : 0 ≤ n) (ha : 0 < a) : impl_times.f n a = some (min (n * a) 1000000) := by
  have h := @times_core n a ha
  have hd := times_div ha
  have hp := times_nn hn (show 0 ≤ a by omega)
  unfold impl_times.f
  try simp only [Int.tdiv_eq_ediv_of_nonneg (show (0 : Int) ≤ 1000000 by omega)]
  rw [if_neg (by omega), w64 (by omega) (by omega)]
  by_cases hq : n > 1000000 / a
  · have := h.1 hq
    rw [if_pos hq]
    congr 1
    omega
  · have := h.2 (by omega)
    rw [if_neg hq, w64 (by omega) (by omega)]
    congr 1
    omega
theorem impl_TimesCost_ev (n a : Int) : Ev (fun k => impl_TimesCost.f k n a) (timesc n a) := by
  simp only [impl_TimesCost.f]
  by_cases hn : n < 0
  · simp only [if_pos hn]
    refine Ev.step (fun k => rfl) ?_
    simp only [impl_TimesCost.j0, if_true]
    exact ev_to (Ev.now _) (by simp [timesc, hn])
  · simp only [if_neg hn, impl_CostValid_eq, Option.bind_some]
    refine Ev.step (fun k => rfl) ?_
    simp only [impl_TimesCost.j0]
    cases hc : cv a with
    | false => exact ev_to (Ev.now (-1)) (by simp [timesc, hc])
    | true =>
      by_cases ha : a = 0
      · subst ha
        exact ev_to (Ev.now 0) (by rw [timesc_pos (by omega) hc]; omega)
      · have hb := cv_iff.1 hc
        simp only [Bool.not_true, Bool.false_eq_true, if_false, if_neg ha, impl_times_eq (show 0 ≤ n by omega) (show 0 < a by omega), Option.bind_some]
        exact ev_to (Ev.now _) (timesc_pos (by omega) hc).symm
theorem spec_l1In_eq (a b c : Int) : spec_l1In.f a b c = some (decide (b ≤ a ∧ a ≤ c)) := by
  unfold spec_l1In.f
  split <;> simp <;> omega
theorem spec_CostValid_eq (a : Int) : spec_CostValid.f a = some (cv a) := by
  unfold spec_CostValid.f
  rw [spec_l1In_eq]
  rfl
theorem spec_TimesCost_ev (n a : Int) : Ev (fun k => spec_TimesCost.f k n a) (timesc n a) := by
  simp only [spec_TimesCost.f]
  by_cases hn : n < 0
  · simp only [if_pos hn]
    refine Ev.step (fun k => rfl) ?_
    simp only [spec_TimesCost.j0, if_true]
    exact ev_to (Ev.now _) (by simp [timesc, hn])
  · simp only [if_neg hn, spec_CostValid_eq, Option.bind_some]
    refine Ev.step (fun k => rfl) ?_
    simp only [spec_TimesCost.j0]
    cases hc : cv a with
    | false => exact ev_to (Ev.now (-1)) (by simp [timesc, hc])
    | true =>
      have hb := cv_iff.1 hc
      have hp := times_nn (show 0 ≤ n by omega) (show 0 ≤ a by omega)
      simp only [Bool.not_true, Bool.false_eq_true, if_false]
      by_cases h0 : n = 0
      · subst h0
        simp only [if_true]
        refine Ev.step (fun k => rfl) ?_
        simp only [spec_TimesCost.j1, if_true]
        exact ev_to (Ev.now 0) (by rw [timesc_pos (by omega) hc]; omega)
      · simp only [if_neg h0]
        refine Ev.step (fun k => rfl) ?_
        simp only [spec_TimesCost.j1]
        by_cases ha : a = 0
        · subst ha
          exact ev_to (Ev.now 0) (by rw [timesc_pos (by omega) hc]; omega)
        · have hd := times_div (show 0 < a by omega)
          have h := @times_core n a (by omega)
          simp only [Int.tdiv_eq_ediv_of_nonneg (show (0 : Int) ≤ 1000000 by omega), beq_iff_eq, if_neg ha, w64 (show -9223372036854775808 ≤ 1000000 / a by omega) (show 1000000 / a ≤ 9223372036854775807 by omega)]
          by_cases hq : n > 1000000 / a
          · have := h.1 hq
            simp only [if_pos hq]
            exact ev_to (Ev.now _) (by rw [timesc_pos (by omega) hc]; omega)
          · have := h.2 (by omega)
            simp only [if_neg hq, mn_eq, w64 (show -9223372036854775808 ≤ n * a by omega) (show n * a ≤ 9223372036854775807 by omega)]
            exact ev_to (Ev.now _) (timesc_pos (by omega) hc).symm
/-- The sum of two costs, at most 1000000. -/
def addc (s a : Int) : Int := min (s + a) 1000000
theorem addc_bd {s a : Int} (h0 : 0 ≤ s) (h1 : 0 ≤ a) : 0 ≤ addc s a ∧ addc s a ≤ 1000000 := by unfold addc; omega
theorem impl_AddCost_eq (a b : Int) : impl_AddCost.f a b = some (if cv a && cv b then addc a b else -1) := by
  unfold impl_AddCost.f
  rw [impl_CostValid_eq, impl_CostValid_eq]
  cases ha : cv a with
  | false => simp
  | true =>
    cases hb : cv b with
    | false => simp
    | true =>
      rw [cv_iff] at ha hb
      simp only [Option.bind_some, if_true, Bool.and_self, mn_eq, w64 (show -9223372036854775808 ≤ a + b by omega) (show a + b ≤ 9223372036854775807 by omega), addc]
def sumc (l : List Int) : Int := if l.all cv then l.foldl addc 0 else -1
def leastc (l : List Int) : Int := if l.all cv then l.foldl min 1000000 else -1
theorem impl_SumCosts_ev (l : List Int) (hl : l.length < 9223372036854775807) : Ev (fun k => impl_SumCosts.f k l) (sumc l) := by
  have h := down l.length (P := fun i => ∀ acc : Int, 0 ≤ acc → acc ≤ 1000000 → Ev (fun k => impl_SumCosts.l0 k acc l (l.length : Int) (i : Int)) (if (l.drop i).all cv then (l.drop i).foldl addc acc else -1)) ?_ ?_ 0 (by omega) 0 (by omega) (by omega)
  · simpa only [impl_SumCosts.f, sumc, List.drop_zero, cast0] using h
  · intro acc h0 h1
    refine Ev.step (fun k => rfl) ?_
    simp only [impl_SumCosts.l0, if_neg (show ¬ (l.length : Int) < (l.length : Int) by omega), dropn]
    exact Ev.now _
  · intro i hi ih acc h0 h1
    refine Ev.step (fun k => rfl) ?_
    simp only [impl_SumCosts.l0, if_pos (show (i : Int) < (l.length : Int) by omega), if_pos (show (0 : Int) ≤ (i : Int) by omega), rd_nat hi, impl_CostValid_eq, Option.bind_some, dropc hi, List.all_cons, List.foldl_cons, w64n (show i < 9223372036854775807 by omega)]
    cases hc : cv l[i] with
    | false => simpa using Ev.now _
    | true =>
      have hb := cv_iff.1 hc
      have e : mn (wrap64 (acc + l[i])) 1000000 = addc acc l[i] := by rw [mn_eq, w64 (by omega) (by omega)]; rfl
      have hd := addc_bd h0 hb.1
      simpa [e] using ih (addc acc l[i]) hd.1 hd.2
theorem DrawTimesCost_ev (l : List Int) (hl : ∀ x ∈ l, (Lit.int .u8 x).wf = true) : ∃ n a, Ev (fun k => spec_DrawTimesCost.f k l) (n, a) ∧ -9223372036854775808 ≤ n ∧ n ≤ 9223372036854775807 := by
  obtain ⟨s, e, hs⟩ := spec_l13Open_ev l hl
  obtain ⟨v, hv, h0, h1⟩ := spec_l13Rd_pick_ev hs (p := 0) (by omega) 20
  have h1 := h1 (by omega)
  obtain ⟨n, hn, hm⟩ := spec_l13Rd_num_ev hs (p := 0 + 1) (by omega) [0, 1, 2, 3, v, 1000000, (-1), 9223372036854775807, (-9223372036854775808)] (by simp)
  obtain ⟨a, ha, -⟩ := spec_l1Cost_ev hs (p := 0 + 1 + 1) (by omega)
  refine ⟨n, a, ?_, ?_⟩
  · simp only [spec_DrawTimesCost.f, e, Option.bind_some]
    exact Ev.bind hv (Ev.bind hn (Ev.bind ha (Ev.now _)))
  · simp only [List.mem_cons, List.not_mem_nil, or_false] at hm
    omega
theorem foldl_same {a : Int} (ha : cv a = true) : ∀ (n : Nat) (acc : Int), 0 ≤ acc → acc ≤ 1000000 → (List.replicate n a).foldl addc acc = min (acc + n * a) 1000000 := by
  have hb := cv_iff.1 ha
  intro n
  induction n with
  | zero => intro acc h0 h1; simp; omega
  | succ n ih =>
    intro acc h0 h1
    have hd := addc_bd h0 hb.1
    have hp := times_nn (show (0 : Int) ≤ (n : Int) by omega) hb.1
    rw [List.replicate_succ, List.foldl_cons, ih _ hd.1 hd.2]
    have e : ((n + 1 : Nat) : Int) * a = n * a + a := by rw [Int.natCast_add, Int.add_mul]; omega
    rw [e]
    unfold addc
    omega
theorem sumc_same {a : Int} (ha : cv a = true) (n : Nat) : sumc (List.replicate n a) = timesc n a := by
  have hv : (List.replicate n a).all cv = true := by simp [ha]
  rw [sumc, if_pos hv, foldl_same ha n 0 (by omega) (by omega), timesc_pos (by omega) ha]
  simp
theorem timesc_once_more {n a : Int} (hn : 0 ≤ n) (ha : cv a = true) : addc (timesc n a) a = timesc (n + 1) a := by
  have hb := cv_iff.1 ha
  have hp := times_nn hn hb.1
  rw [timesc_pos hn ha, timesc_pos (by omega) ha, Int.add_mul]
  unfold addc
  omega
theorem cv_timesc {n a : Int} (hn : 0 ≤ n) (ha : cv a = true) : cv (timesc n a) = true := by
  have hb := cv_iff.1 ha
  have hp := times_nn hn hb.1
  rw [timesc_pos hn ha, cv_iff]
  omega
theorem TimesCost_l0 {n a : Int} (hn : 0 ≤ n) (hn2 : n ≤ 9223372036854775807) (ha : cv a = true) (m : Nat) (hm : m < 9) : Ev (fun k => laws_FnTimesCost.l0 k n a (timesc n a) [] (m : Int) 0) true := by
  have h := down m (P := fun i => Ev (fun k => laws_FnTimesCost.l0 k n a (timesc n a) (List.replicate i a) (m : Int) (i : Int)) true) ?_ ?_ 0 (by omega)
  · exact h
  · refine Ev.step (fun k => rfl) ?_
    simp only [laws_FnTimesCost.l0, if_neg (show ¬ (m : Int) < (m : Int) by omega), List.length_replicate]
    refine Ev.bind (impl_TimesCost_ev _ _) (Ev.bind (impl_SumCosts_ev _ (by simp; omega)) ?_)
    simp only [sumc_same ha, if_true]
    by_cases e : n = 9223372036854775807
    · simp only [if_pos e]; exact Ev.now _
    · simp only [if_neg e, w64 (show -9223372036854775808 ≤ n + 1 by omega) (show n + 1 ≤ 9223372036854775807 by omega)]
      refine Ev.bind (impl_TimesCost_ev _ _) ?_
      simp only [impl_AddCost_eq, cv_timesc hn ha, ha, Bool.and_self, if_true, Option.bind_some, timesc_once_more hn ha, beq_self_eq_true]
      exact Ev.now _
  · intro i hi ih
    refine Ev.step (fun k => rfl) ?_
    simp only [laws_FnTimesCost.l0, if_pos (show (i : Int) < (m : Int) by omega), List.length_replicate, if_pos (show i < 17592186044416 by omega), w64n (show i < 9223372036854775807 by omega), ← List.replicate_succ']
    exact ih
theorem TimesCost_main (l0 l1 : List Int) (h0 : ∀ x ∈ l0, (Lit.int .u8 x).wf = true) : Ev (fun k => laws_FnTimesCost.j0 k l0 l1 false) true := by
  obtain ⟨n, a, hd, hn0, hn1⟩ := DrawTimesCost_ev l0 h0
  refine Ev.step (fun k => rfl) ?_
  simp only [laws_FnTimesCost.j0, Bool.false_eq_true, if_false]
  refine Ev.bind hd (Ev.bind (impl_TimesCost_ev n a) (Ev.bind (spec_TimesCost_ev n a) ?_))
  simp only [if_true]
  by_cases hv : n < 0 ∨ cv a = false
  · have e : timesc n a = -1 := by rw [timesc, if_pos hv]
    have hn : decide ((-1 : Int) < 0) = true := by decide
    simp only [e, hn]
    refine Ev.step (fun k => rfl) ?_
    simp only [laws_FnTimesCost.j1, if_true]
    refine Ev.bind (spec_TimesCost_ev n a) ?_
    simp only [e, beq_self_eq_true]
    exact Ev.now _
  · have hn : 0 ≤ n := by omega
    have ha : cv a = true := by
      cases hc : cv a with
      | true => rfl
      | false => exact absurd (Or.inr hc) hv
    have hb := cv_iff.1 (cv_timesc hn ha)
    have hn' : decide (timesc n a < 0) = false := by rw [decide_eq_false_iff_not]; omega
    simp only [hn']
    refine Ev.step (fun k => rfl) ?_
    simp only [laws_FnTimesCost.j1, Bool.false_eq_true, if_false]
    have em : (l1.length : Int) % 9 = ((l1.length % 9 : Nat) : Int) := by omega
    simp only [em]
    exact TimesCost_l0 hn hn1 ha (l1.length % 9) (by omega)
theorem FnTimesCost : laws_FnTimesCost.Pure := by
  intro l0 l1 _ _ h0 _ _ _
  refine Ev.rounds ?_
  simp only [laws_FnTimesCost.f]
  have ht : Ev (fun k => laws_FnTimesCost.j0 k l0 l1 true) true := by
    refine Ev.step (fun k => rfl) ?_
    simp only [laws_FnTimesCost.j0, if_true]
    exact Ev.now _
  by_cases c0 : (l0.length : Int) > 1048576
  · simp only [if_pos c0]; exact ht
  · simp only [if_neg c0]
    by_cases c1 : (l1.length : Int) > 1048576
    · simp only [c1, decide_true]; exact ht
    · simp only [c1, decide_false]; exact TimesCost_main l0 l1 h0

end Go.Proofs.Ythgkfakkpinbcaa.Pure
