/- The pure statement of FnFree: the printed functions answer true at every input that can be read. -/
import Derived.Test.YtojfbgegankddaaPGFx6
set_option linter.unusedVariables false
set_option linter.unusedSimpArgs false
namespace Go.Proofs.Ytojfbgegankddaa.Pure
open Go.RowKit Go.Proofs.Ytojfbgegankddaa.PGF Go.Proofs.YtojfbgegankddaaW.PrintWords Go.Proofs.YtojfbgegankddaaW.PrintLast Go.Proofs.YtojfbgegankddaaW.PrintMore

theorem w64 {x : Int} (h0 : -9223372036854775808 ≤ x) (h1 : x ≤ 9223372036854775807) : wrap64 x = x := by unfold wrap64; omega
theorem cast0 : ((0 : Nat) : Int) = 0 := rfl
theorem w64n {i : Nat} (h : i < 9223372036854775807) : wrap64 ((i : Int) + 1) = ((i + 1 : Nat) : Int) := by rw [w64 (by omega) (by omega)]; omega
theorem rd_nat {l : List Int} {i : Nat} (h : i < l.length) : rd l (i : Int) = l[i] := by simp [rd, List.getD_eq_getElem?_getD, h]
theorem mn_eq (a b : Int) : mn a b = min a b := by unfold mn; split <;> omega
theorem mx_eq (a b : Int) : mx a b = max a b := by unfold mx; split <;> omega
theorem down (n : Nat) {P : Nat → Prop} (h0 : P n) (hs : ∀ i, i < n → P (i + 1) → P i) : ∀ i, i ≤ n → P i := by
  have h : ∀ d i, i + d = n → P i := by
    intro d
    induction d with
    | zero => intro i hi; obtain rfl : i = n := by omega
              exact h0
    | succ d ih => intro i hi; exact hs i (by omega) (ih (i + 1) (by omega))
  exact fun i hi => h (n - i) i (by omega)
theorem ev_to {α : Type} {g : Nat → Option α} {r r' : α} (h : Ev g r) (e : r = r') : Ev g r' := e ▸ h
theorem dropc {α : Type} {l : List α} {i : Nat} (h : i < l.length) : l.drop i = l[i] :: l.drop (i + 1) := List.drop_eq_getElem_cons h
theorem dropn {α : Type} (l : List α) : l.drop l.length = [] := List.drop_eq_nil_of_le (Nat.le_refl _)
theorem wf64 {x : Int} (h : (Lit.int .i64 x).wf = true) : -9223372036854775808 ≤ x ∧ x ≤ 9223372036854775807 := by
  simp [Lit.wf, IntKind.min, IntKind.max, IntKind.signed, IntKind.bits] at h
  omega
theorem wf8 {x : Int} (h : (Lit.int .u8 x).wf = true) : 0 ≤ x ∧ x ≤ 255 := by
  simp [Lit.wf, IntKind.min, IntKind.max, IntKind.signed, IntKind.bits] at h
  omega
theorem nnc (q : Nat) : (0 : Int) ≤ (q : Int) := Int.natCast_nonneg q
theorem ltc {a b : Nat} (h : a < b) : (a : Int) < (b : Int) := Int.ofNat_lt.2 h
/-- A reader's bytes: at most 2000 numbers between 0 and 255. -/
def Rdr (s : List Int) : Prop := s.length ≤ 2000 ∧ ∀ x ∈ s, 0 ≤ x ∧ x ≤ 255
theorem i64_wrap_nat (n : Nat) (h : n < 9223372036854775808) : IntKind.i64.wrap (n : Int) = (n : Int) := by
  simp [IntKind.wrap, IntKind.bits, IntKind.signed]; omega
theorem xor_i64_nat (a b : Nat) (ha : a < 9223372036854775808) (hb : b < 9223372036854775808) : bits .xor .i64 (a : Int) (b : Int) = ((a ^^^ b : Nat) : Int) := by
  have hx : a ^^^ b < 2 ^ 63 := Nat.xor_lt_two_pow (by omega) (by omega)
  have h1 : (BitVec.ofInt 64 (a : Int)).toNat = a := by
    rw [BitVec.ofInt_natCast, BitVec.toNat_ofNat]; exact Nat.mod_eq_of_lt (by omega)
  have h2 : (BitVec.ofInt 64 (b : Int)).toNat = b := by
    rw [BitVec.ofInt_natCast, BitVec.toNat_ofNat]; exact Nat.mod_eq_of_lt (by omega)
  show IntKind.i64.wrap ((BitVec.ofInt 64 (a : Int) ^^^ BitVec.ofInt 64 (b : Int)).toNat : Int) = _
  rw [BitVec.toNat_xor, h1, h2, i64_wrap_nat _ (by omega)]
theorem xor_nn {x y : Int} (h0 : 0 ≤ x) (h1 : x < 9223372036854775808) (h2 : 0 ≤ y) (h3 : y < 9223372036854775808) : 0 ≤ bits .xor .i64 x y := by
  obtain ⟨a, rfl⟩ := Int.eq_ofNat_of_zero_le h0
  obtain ⟨b, rfl⟩ := Int.eq_ofNat_of_zero_le h2
  rw [xor_i64_nat a b (by omega) (by omega)]
  omega
theorem tm_nn {x n : Int} (h : 0 ≤ x) : 0 ≤ Int.tmod x n := Int.tmod_nonneg _ h
theorem tm_lt {x n : Int} (h : 0 < n) : Int.tmod x n < n := Int.tmod_lt_of_pos _ h
theorem rd_bd {s : List Int} (hs : Rdr s) (i : Int) : 0 ≤ rd s i ∧ rd s i ≤ 255 := by
  unfold rd
  rw [List.getD_eq_getElem?_getD]
  by_cases h : i.toNat < s.length
  · rw [List.getElem?_eq_getElem h]
    exact hs.2 _ (List.getElem_mem h)
  · rw [List.getElem?_eq_none (by omega)]
    simp
theorem mix_bd {a b p q : Int} (ha : 0 ≤ a ∧ a ≤ 255) (hb : 0 ≤ b ∧ b ≤ 255) (hp : 0 ≤ p ∧ p ≤ 1000000) (hq : 0 ≤ q ∧ q ≤ 1000000) :
    0 ≤ wrap64 ((wrap64 ((wrap64 ((wrap64 ((wrap64 a) * 131)) + (wrap64 ((wrap64 b) * 1117)))) + (wrap64 (p * 29)))) + (wrap64 ((wrap64 q) * 53))) ∧ wrap64 ((wrap64 ((wrap64 ((wrap64 ((wrap64 a) * 131)) + (wrap64 ((wrap64 b) * 1117)))) + (wrap64 (p * 29)))) + (wrap64 ((wrap64 q) * 53))) ≤ 1000000000 := by
  rw [w64 (x := a) (by omega) (by omega), w64 (x := b) (by omega) (by omega), w64 (x := q) (by omega) (by omega), w64 (x := a * 131) (by omega) (by omega), w64 (x := b * 1117) (by omega) (by omega), w64 (x := p * 29) (by omega) (by omega), w64 (x := q * 53) (by omega) (by omega), w64 (x := a * 131 + b * 1117) (by omega) (by omega), w64 (x := a * 131 + b * 1117 + p * 29) (by omega) (by omega), w64 (by omega) (by omega)]
  omega
theorem mixed_bd {x n : Int} (h0 : 0 ≤ x) (h1 : x ≤ 1000000000) (hn : 0 < n) : 0 ≤ Int.tmod (bits .xor .i64 x (wrap64 (Int.tdiv x 64))) n ∧ Int.tmod (bits .xor .i64 x (wrap64 (Int.tdiv x 64))) n < n := by
  refine ⟨tm_nn (xor_nn h0 (by omega) ?_ ?_), tm_lt hn⟩
  all_goals rw [Int.tdiv_eq_ediv_of_nonneg h0, w64 (by omega) (by omega)]; omega
theorem spec_l13Rd_pick_ev {s : List Int} (hs : Rdr s) {p : Int} (hp : 0 ≤ p ∧ p ≤ 1000000) (n : Int) : ∃ v, Ev (fun k => spec_l13Rd_pick.f k s p n) (v, p + 1) ∧ 0 ≤ v ∧ (1 ≤ n → v < n) := by
  have e1 : wrap64 (p + 1) = p + 1 := w64 (by omega) (by omega)
  have e2 : wrap64 (p + 1 - 1) = p := by rw [w64 (by omega) (by omega)]; omega
  by_cases hn : n < 1
  · refine ⟨0, ?_, by omega, by omega⟩
    simp only [spec_l13Rd_pick.f, if_pos hn, e1]
    refine Ev.step (fun k => rfl) ?_
    simp only [spec_l13Rd_pick.j0, if_true]
    exact Ev.now _
  · by_cases hl : s.length = 0
    · refine ⟨0, ?_, by omega, by omega⟩
      simp only [spec_l13Rd_pick.f, if_neg hn, e1]
      refine Ev.step (fun k => rfl) ?_
      simp only [spec_l13Rd_pick.j0, hl]
      exact Ev.now _
    · have hlb : ((s.length : Int) == 0) = false := by rw [beq_eq_false_iff_ne]; omega
      have key : ∃ v, (∀ k, spec_l13Rd_pick.j0 (k + 1) n false s (p + 1) = some (v, p + 1)) ∧ 0 ≤ v ∧ v < n := by
        simp only [spec_l13Rd_pick.j0, Bool.false_eq_true, if_false, e2, if_neg (show ¬ n = 0 by omega), if_pos hp.1, if_neg (show ¬ (s.length : Int) = 0 by omega)]
        by_cases hlt : p < (s.length : Int)
        · have hb := rd_bd hs p
          simp only [if_pos hlt]
          exact ⟨_, fun k => rfl, tm_nn (by rw [w64 (by omega) (by omega)]; omega), tm_lt (by omega)⟩
        · have t1 : 0 ≤ Int.tmod p (s.length : Int) := tm_nn hp.1
          have t2 : Int.tmod p (s.length : Int) < (s.length : Int) := tm_lt (by omega)
          have e3 : wrap64 (wrap64 (p * 7) + 3) = p * 7 + 3 := by rw [w64 (x := p * 7) (by omega) (by omega), w64 (by omega) (by omega)]
          have t3 : 0 ≤ Int.tmod (p * 7 + 3) (s.length : Int) := tm_nn (by omega)
          have t4 : Int.tmod (p * 7 + 3) (s.length : Int) < (s.length : Int) := tm_lt (by omega)
          simp only [if_neg hlt, e3, if_pos t1, if_pos t2, if_pos t3, if_pos t4]
          have hq : 0 ≤ Int.tdiv p (s.length : Int) ∧ Int.tdiv p (s.length : Int) ≤ 1000000 := by
            rw [Int.tdiv_eq_ediv_of_nonneg hp.1]
            have a1 := Int.ediv_nonneg hp.1 (show (0 : Int) ≤ (s.length : Int) by omega)
            have a2 := Int.ediv_le_self (s.length : Int) hp.1
            omega
          have hm := mix_bd (rd_bd hs (Int.tmod p (s.length : Int))) (rd_bd hs (Int.tmod (p * 7 + 3) (s.length : Int))) hp hq
          have hf := mixed_bd hm.1 hm.2 (show 0 < n by omega)
          exact ⟨_, fun k => rfl, hf.1, hf.2⟩
      obtain ⟨v, hv, h0, h1⟩ := key
      refine ⟨v, ?_, h0, fun _ => h1⟩
      simp only [spec_l13Rd_pick.f, if_neg hn, e1, hlb]
      exact Ev.step hv (Ev.now _)
theorem rd_mem {l : List Int} {i : Int} (h0 : 0 ≤ i) (h1 : i < (l.length : Int)) : rd l i ∈ l := by
  obtain ⟨n, rfl⟩ := Int.eq_ofNat_of_zero_le h0
  rw [rd_nat (by omega)]
  exact List.getElem_mem _
theorem spec_l13Open_ev (l : List Int) (hl : ∀ x ∈ l, (Lit.int .u8 x).wf = true) : ∃ s, spec_l13Open.f l = some (s, 0) ∧ Rdr s := by
  have hb : ∀ x ∈ l, 0 ≤ x ∧ x ≤ 255 := fun x hx => wf8 (hl x hx)
  by_cases h : (l.length : Int) > 2000
  · exact ⟨l.take 2000, by simp only [spec_l13Open.f, if_pos h, if_pos (show (2000 : Int) ≤ (l.length : Int) by omega)], by simp; omega, fun x hx => hb x (List.mem_of_mem_take hx)⟩
  · exact ⟨l, by simp only [spec_l13Open.f, if_neg h], by omega, hb⟩
theorem spec_l13Rd_num_ev {s : List Int} (hs : Rdr s) {p : Int} (hp : 0 ≤ p ∧ p ≤ 1000000) (l : List Int) (hl : 0 < l.length) : ∃ v, Ev (fun k => spec_l13Rd_num.f k s p l) (v, p + 1) ∧ v ∈ l := by
  obtain ⟨v, hv, h0, h1⟩ := spec_l13Rd_pick_ev hs hp (l.length : Int)
  have h1 := h1 (by omega)
  refine ⟨rd l v, ?_, rd_mem h0 h1⟩
  simp only [spec_l13Rd_num.f]
  refine Ev.bind hv ?_
  simp only [if_pos h0, if_pos h1]
  exact Ev.now _
theorem rdI_nat {l : List S32} {i : Nat} (h : i < l.length) : rd_T32 l (i : Int) = l[i] := by simp [rd_T32, List.getD_eq_getElem?_getD, h]
/-- p at each place from i on, below n. -/
def allFrom (p : Nat → Bool) (n i : Nat) : Bool := (List.range n).all fun j => decide (j < i) || p j
theorem allFrom_iff {p : Nat → Bool} {n i : Nat} : allFrom p n i = true ↔ ∀ j, i ≤ j → j < n → p j = true := by
  simp only [allFrom, List.all_eq_true, List.mem_range, Bool.or_eq_true, decide_eq_true_eq]
  constructor
  · intro h j h1 h2
    rcases h j h2 with e | e
    · omega
    · exact e
  · intro h j h2
    by_cases e : j < i
    · exact Or.inl e
    · exact Or.inr (h j (by omega) h2)
theorem allFrom_end (p : Nat → Bool) (n : Nat) : allFrom p n n = true := allFrom_iff.2 fun j h1 h2 => absurd h2 (by omega)
theorem allFrom_step {p : Nat → Bool} {n i : Nat} (h : i < n) : allFrom p n i = (p i && allFrom p n (i + 1)) := by
  rw [Bool.eq_iff_iff, Bool.and_eq_true, allFrom_iff, allFrom_iff]
  constructor
  · intro hh
    exact ⟨hh i (by omega) h, fun j h1 h2 => hh j (by omega) h2⟩
  · rintro ⟨h1, h2⟩ j h3 h4
    by_cases e : i = j
    · subst e; exact h1
    · exact h2 j (by omega) h4
/-- The number at this place of a list of states fits. -/
def ascAt (n : Int) (l : List Int) (j : Nat) : Bool := decide (0 ≤ rd l j) && (decide (rd l j < n) && (decide (j = 0) || decide (rd l ((j - 1 : Nat) : Int) < rd l j)))
/-- States in ascending order. -/
def asc (n : Int) (l : List Int) : Bool := allFrom (ascAt n l) l.length 0
theorem pred_w {i : Nat} (h : 0 < i) (h2 : i < 9223372036854775807) : wrap64 ((i : Int) - 1) = ((i - 1 : Nat) : Int) := by rw [w64 (by omega) (by omega)]; omega
theorem asc_iff {n : Int} {l : List Int} : asc n l = true ↔ ∀ j, j < l.length → 0 ≤ rd l j ∧ rd l j < n ∧ (0 < j → rd l ((j - 1 : Nat) : Int) < rd l j) := by
  simp only [asc, allFrom_iff, ascAt, Bool.and_eq_true, Bool.or_eq_true, decide_eq_true_eq]
  constructor
  · intro h j hj
    have := h j (by omega) hj
    exact ⟨this.1, this.2.1, fun h0 => by omega⟩
  · intro h j _ hj
    have := h j hj
    refine ⟨this.1, this.2.1, ?_⟩
    by_cases e : j = 0
    · exact Or.inl e
    · exact Or.inr (this.2.2 (by omega))
theorem spec_l1In_eq (a b c : Int) : spec_l1In.f a b c = some (decide (b ≤ a ∧ a ≤ c)) := by
  unfold spec_l1In.f
  split <;> simp <;> omega
def sA (b : ByteArray) : Bool := decide (b.toList = [97])
def sB (b : ByteArray) : Bool := decide (b.toList = [98])
/-- A step that fits so many states. -/
def sOk (n : Int) (s : S32) : Bool := decide (0 ≤ s.f0 ∧ s.f0 < n ∧ 0 ≤ s.f2 ∧ s.f2 < n ∧ 0 ≤ s.f3 ∧ s.f3 ≤ 3) && (sA s.f1 || sB s.f1)
/-- One step is in front of another one. -/
def sLt (s t : S32) : Bool := if s.f0 = t.f0 then (if s.f1.toList = t.f1.toList then decide (s.f2 < t.f2) else Op.bytesLess s.f1.toList t.f1.toList) else decide (s.f0 < t.f0)
def sAt (n : Int) (l : List S32) (j : Nat) : Bool := sOk n (rd_T32 l j) && (decide (j = 0) || sLt (rd_T32 l ((j - 1 : Nat) : Int)) (rd_T32 l j))
/-- Steps that fit so many states, in order. -/
def stepsOk (n : Int) (l : List S32) : Bool := allFrom (sAt n l) l.length 0
/-- An automaton is valid. -/
def av (n : Int) (l1 l2 : List Int) (l3 : List S32) : Bool := decide (1 ≤ n ∧ n ≤ 4) && (asc n l1 && (asc n l2 && (decide (l3.length ≤ 24) && stepsOk n l3)))
theorem spec_l3Step_eq {n : Int} (h1 : 1 ≤ n) (h4 : n ≤ 4) (s : S32) : spec_l3Step.f n s.f0 s.f1 s.f2 s.f3 = some (sOk n s) := by
  have e : wrap64 (n - 1) = n - 1 := w64 (by omega) (by omega)
  simp only [spec_l3Step.f, spec_l1In_eq, Option.bind_some, e, sOk, sA, sB]
  by_cases c0 : 0 ≤ s.f0 ∧ s.f0 ≤ n - 1
  · rw [if_pos (by simpa using c0)]
    by_cases c1 : 0 ≤ s.f2 ∧ s.f2 ≤ n - 1
    · rw [if_pos (by simpa using c1)]
      by_cases c2 : 0 ≤ s.f3 ∧ s.f3 ≤ 3
      · rw [if_pos (by simpa using c2), show decide (0 ≤ s.f0 ∧ s.f0 < n ∧ 0 ≤ s.f2 ∧ s.f2 < n ∧ 0 ≤ s.f3 ∧ s.f3 ≤ 3) = true by simp; omega]
        by_cases c3 : s.f1.toList = [97]
        · simp [c3]
        · rw [if_neg c3]
          simp only [c3, decide_false, Bool.true_and, Bool.false_or]
          congr 1
          by_cases c4 : s.f1.toList = [98] <;> simp [c4]
      · rw [if_neg (by simpa using c2), show decide (0 ≤ s.f0 ∧ s.f0 < n ∧ 0 ≤ s.f2 ∧ s.f2 < n ∧ 0 ≤ s.f3 ∧ s.f3 ≤ 3) = false by simp; omega]
        rfl
    · rw [if_neg (by simpa using c1), show decide (0 ≤ s.f0 ∧ s.f0 < n ∧ 0 ≤ s.f2 ∧ s.f2 < n ∧ 0 ≤ s.f3 ∧ s.f3 ≤ 3) = false by simp; omega]
      rfl
  · rw [if_neg (by simpa using c0), show decide (0 ≤ s.f0 ∧ s.f0 < n ∧ 0 ≤ s.f2 ∧ s.f2 < n ∧ 0 ≤ s.f3 ∧ s.f3 ≤ 3) = false by simp; omega]
    rfl
theorem spec_l3Before_eq (s t : S32) : spec_l3Before.f s.f0 s.f1 s.f2 s.f3 t.f0 t.f1 t.f2 t.f3 = some (sLt s t) := by
  simp only [spec_l3Before.f, sLt]
  split
  · split <;> rfl
  · rfl
theorem spec_l13Rd_of_ev {s : List Int} (hs : Rdr s) {p : Int} (hp : 0 ≤ p ∧ p ≤ 1000000) (l : List ByteArray) (hl : 0 < l.length) : ∃ v, Ev (fun k => spec_l13Rd_of.f k s p l) (v, p + 1) := by
  obtain ⟨v, hv, h0, h1⟩ := spec_l13Rd_pick_ev hs hp (l.length : Int)
  refine ⟨rdOf ByteArray.empty l v, ?_⟩
  simp only [spec_l13Rd_of.f]
  refine Ev.bind hv ?_
  simp only [if_pos h0, if_pos (h1 (by omega))]
  exact Ev.now _
theorem spec_l3Some_ev {s : List Int} (hs : Rdr s) {n : Nat} (hn : n ≤ 4) {p : Int} (hp : 0 ≤ p ∧ p ≤ 900000) : ∃ l q, Ev (fun k => spec_l3Some.f k s p (n : Int)) (l, q) ∧ l.length ≤ 4 ∧ p ≤ q ∧ q ≤ p + 4 := by
  have h := down n (P := fun i => ∀ (l : List Int) (q : Int), l.length ≤ i → q = p + i → ∃ r q', Ev (fun k => spec_l3Some.l0 k l (n : Int) (i : Int) s q) (r, q') ∧ r.length ≤ 4 ∧ p ≤ q' ∧ q' ≤ p + 4) ?_ ?_ 0 (by omega) [] p (by simp) (by omega)
  · simpa only [spec_l3Some.f, cast0] using h
  · intro l q hl hq
    refine ⟨l, q, Ev.step (fun k => rfl) ?_, by omega, by omega, by omega⟩
    simp only [spec_l3Some.l0, if_neg (show ¬ (n : Int) < (n : Int) by omega)]
    exact Ev.now _
  · intro i hi ih l q hl hq
    obtain ⟨v, hv, v0, v1⟩ := spec_l13Rd_pick_ev hs (p := q) (by omega) 2
    by_cases e : v = 0
    · obtain ⟨r, q', hr, a, b, c⟩ := ih (l ++ [(i : Int)]) (q + 1) (by simp; omega) (by omega)
      refine ⟨r, q', Ev.step (fun k => rfl) ?_, a, b, c⟩
      simp only [spec_l3Some.l0, if_pos (show (i : Int) < (n : Int) by omega)]
      refine Ev.bind hv ?_
      simp only [if_pos e, if_pos (show l.length < 17592186044416 by omega), w64n (show i < 9223372036854775807 by omega)]
      exact hr
    · obtain ⟨r, q', hr, a, b, c⟩ := ih l (q + 1) (by omega) (by omega)
      refine ⟨r, q', Ev.step (fun k => rfl) ?_, a, b, c⟩
      simp only [spec_l3Some.l0, if_pos (show (i : Int) < (n : Int) by omega)]
      refine Ev.bind hv ?_
      simp only [if_neg e, w64n (show i < 9223372036854775807 by omega)]
      exact hr
theorem put_lens {l : List S32} {i : Nat} (hi : i ≤ l.length) (hl : l.length ≤ 1000) (x : S32) : ([] : List S32).length + (l.take i).length < 3518437208883 ∧ (([] : List S32) ++ l.take i).length + [x].length < 3518437208883 ∧ ((([] : List S32) ++ l.take i) ++ [x]).length + (l.drop i).length < 3518437208883 ∧ (((([] : List S32) ++ l.take i) ++ [x]) ++ l.drop i).length ≤ l.length + 1 := by
  simp only [List.length_append, List.length_nil, List.length_take, List.length_drop, List.length_cons]
  omega
theorem spec_l3Put_ev (l : List S32) (hl : l.length ≤ 1000) (a : Int) (b : ByteArray) (c d : Int) : ∃ r, Ev (fun k => spec_l3Put.f k l a b c d) r ∧ r.length ≤ l.length + 1 := by
  have h := down l.length (P := fun i => ∃ r, Ev (fun k => spec_l3Put.l0 k l (i : Int) a b c d) r ∧ r.length ≤ l.length + 1) ?_ ?_ 0 (by omega)
  · simpa only [spec_l3Put.f, cast0] using h
  · obtain ⟨p1, p2, p3, p4⟩ := put_lens (Nat.le_refl l.length) hl ⟨a, b, c, d⟩
    refine ⟨_, Ev.step (fun k => rfl) ?_, p4⟩
    simp only [spec_l3Put.l0, if_neg (show ¬ (l.length : Int) < (l.length : Int) by omega), Option.bind_some, if_pos (show (0 : Int) ≤ (l.length : Int) by omega), if_pos (show (l.length : Int) ≤ (l.length : Int) by omega), Int.toNat_natCast, if_pos p1, if_pos p2, if_pos p3]
    exact Ev.now _
  · intro i hi ih
    obtain ⟨p1, p2, p3, p4⟩ := put_lens (show i ≤ l.length by omega) hl ⟨a, b, c, d⟩
    have b1 := spec_l3Before_eq l[i] ⟨a, b, c, d⟩
    have b2 := spec_l3Before_eq ⟨a, b, c, d⟩ l[i]
    by_cases c1 : sLt l[i] ⟨a, b, c, d⟩ = true
    · obtain ⟨r, hr, h⟩ := ih
      refine ⟨r, Ev.step (fun k => rfl) ?_, h⟩
      simp only [spec_l3Put.l0, if_pos (show (i : Int) < (l.length : Int) by omega), if_pos (nnc i), rdI_nat hi, b1, Option.bind_some, if_pos c1, w64n (show i < 9223372036854775807 by omega)]
      exact hr
    · by_cases c2 : sLt ⟨a, b, c, d⟩ l[i] = true
      · refine ⟨_, Ev.step (fun k => rfl) ?_, p4⟩
        simp only [spec_l3Put.l0, if_pos (show (i : Int) < (l.length : Int) by omega), if_pos (nnc i), rdI_nat hi, b1, b2, Option.bind_some, if_neg c1, if_pos c2, if_pos (show (i : Int) ≤ (l.length : Int) by omega), Int.toNat_natCast, if_pos p1, if_pos p2, if_pos p3]
        exact Ev.now _
      · refine ⟨l.set i ⟨l[i].f0, l[i].f1, l[i].f2, mn l[i].f3 d⟩, Ev.step (fun k => rfl) ?_, ?_⟩
        · simp only [spec_l3Put.l0, if_pos (show (i : Int) < (l.length : Int) by omega), if_pos (nnc i), rdI_nat hi, b1, b2, Option.bind_some, if_neg c1, if_neg c2, List.nil_append, List.length_nil, if_pos (show 0 + l.length < 3518437208883 by omega), Int.toNat_natCast]
          exact Ev.now _
        · simp
def kOk (r : Option (Int × List Int × List Int × List S32)) : Bool := match r with
  | some (n, l1, l2, l3) => decide (0 ≤ n ∧ n ≤ 4 ∧ l1.length ≤ 4 ∧ l2.length ≤ 4 ∧ l3.length ≤ 24)
  | none => false
theorem known_ok : ∀ v : Fin 9, kOk (spec_l3Known.f 100 (v.val : Int)) = true := by decide +kernel
theorem spec_l3Known_ev {v : Int} (h0 : 0 ≤ v) (h1 : v < 9) : ∃ n l1 l2 l3, Ev (fun k => spec_l3Known.f k v) (n, l1, l2, l3) ∧ l1.length ≤ 4 ∧ l2.length ≤ 4 ∧ l3.length ≤ 24 := by
  obtain ⟨n, rfl⟩ := Int.eq_ofNat_of_zero_le h0
  have h := known_ok ⟨n, by omega⟩
  simp only [kOk] at h
  split at h
  · rename_i n l1 l2 l3 e
    simp only [decide_eq_true_eq] at h
    exact ⟨n, l1, l2, l3, Ev.of (spec_l3Known.mono _) e, h.2.2.1, h.2.2.2.1, h.2.2.2.2⟩
  · cases h
theorem spec_l3Draw_l0 {s : List Int} (hs : Rdr s) {n : Nat} (n1 : 1 ≤ n) (n4 : n ≤ 4) (l1 l2 : List Int) {m : Nat} (hm : m ≤ 9) {p : Int} (hp : 0 ≤ p ∧ p ≤ 800000) : ∃ l3 q, Ev (fun k => spec_l3Draw.l0 k (n : Int) (m : Int) 0 s p (n : Int) l1 l2 []) ((n : Int), l1, l2, l3, q) ∧ l3.length ≤ 9 ∧ p ≤ q ∧ q ≤ p + 36 := by
  have h := down m (P := fun i => ∀ (l : List S32) (q : Int), l.length ≤ i → q = p + 4 * i → ∃ l3 q', Ev (fun k => spec_l3Draw.l0 k (n : Int) (m : Int) (i : Int) s q (n : Int) l1 l2 l) ((n : Int), l1, l2, l3, q') ∧ l3.length ≤ 9 ∧ p ≤ q' ∧ q' ≤ p + 36) ?_ ?_ 0 (by omega) [] p (by simp) (by omega)
  · simpa only [cast0] using h
  · intro l q hl hq
    refine ⟨l, q, Ev.step (fun k => rfl) ?_, by omega, by omega, by omega⟩
    simp only [spec_l3Draw.l0, if_neg (show ¬ (m : Int) < (m : Int) by omega)]
    exact Ev.now _
  · intro i hi ih l q hl hq
    obtain ⟨v1, h1, -⟩ := spec_l13Rd_pick_ev hs (p := q) (by omega) (n : Int)
    obtain ⟨v2, h2⟩ := spec_l13Rd_of_ev hs (p := q + 1) (by omega) [(⟨#[97]⟩ : ByteArray), (⟨#[98]⟩ : ByteArray)] (by simp)
    obtain ⟨v3, h3, -⟩ := spec_l13Rd_pick_ev hs (p := q + 1 + 1) (by omega) (n : Int)
    obtain ⟨v4, h4, -⟩ := spec_l13Rd_num_ev hs (p := q + 1 + 1 + 1) (by omega) [0, 1, 0, 1, 2, 0] (by simp)
    obtain ⟨r, h5, hr⟩ := spec_l3Put_ev l (by omega) v1 v2 v3 v4
    obtain ⟨l3, q', h6, a, b, c⟩ := ih r (q + 1 + 1 + 1 + 1) (by omega) (by omega)
    refine ⟨l3, q', Ev.step (fun k => rfl) ?_, a, b, c⟩
    simp only [spec_l3Draw.l0, if_pos (show (i : Int) < (m : Int) by omega), w64n (show i < 9223372036854775807 by omega)]
    exact Ev.bind h1 (Ev.bind h2 (Ev.bind h3 (Ev.bind h4 (Ev.bind h5 h6))))
theorem spec_l3Draw_j0 {s : List Int} (hs : Rdr s) {m : Int} (hm : 1 ≤ m) (hm4 : m ≤ 4) {p : Int} (hp : 0 ≤ p ∧ p ≤ 700000) : ∃ n l1 l2 l3 q, Ev (fun k => spec_l3Draw.j0 k m s p) (n, l1, l2, l3, q) ∧ l1.length ≤ 4 ∧ l2.length ≤ 4 ∧ l3.length ≤ 24 ∧ p ≤ q ∧ q ≤ p + 60 := by
  obtain ⟨v, hv, v0, v1⟩ := spec_l13Rd_pick_ev hs (p := p) (by omega) m
  have v1 := v1 (by omega)
  obtain ⟨n, hn⟩ := Int.eq_ofNat_of_zero_le (show 0 ≤ 1 + v by omega)
  have e1 : wrap64 (1 + v) = (n : Int) := by rw [w64 (by omega) (by omega)]; exact hn
  obtain ⟨l1, q1, h1, a1, b1, c1⟩ := spec_l3Some_ev hs (n := n) (by omega) (p := p + 1) (by omega)
  obtain ⟨l2, q2, h2, a2, b2, c2⟩ := spec_l3Some_ev hs (n := n) (by omega) (p := q1) (by omega)
  have e2 : wrap64 (wrap64 (2 * (n : Int)) + 1) = 2 * n + 1 := by rw [w64 (x := 2 * (n : Int)) (by omega) (by omega), w64 (by omega) (by omega)]
  obtain ⟨u, hu, u0, u1⟩ := spec_l13Rd_pick_ev hs (p := q2) (by omega) (2 * (n : Int) + 1)
  have u1 := u1 (by omega)
  obtain ⟨m', hm'⟩ := Int.eq_ofNat_of_zero_le (show 0 ≤ 1 + u by omega)
  have e3 : wrap64 (1 + u) = (m' : Int) := by rw [w64 (by omega) (by omega)]; exact hm'
  obtain ⟨l3, q3, h3, a3, b3, c3⟩ := spec_l3Draw_l0 hs (n := n) (by omega) (by omega) l1 l2 (m := m') (by omega) (p := q2 + 1) (by omega)
  refine ⟨n, l1, l2, l3, q3, Ev.step (fun k => rfl) ?_, a1, a2, by omega, by omega, by omega⟩
  simp only [spec_l3Draw.j0]
  refine Ev.bind hv ?_
  simp only [e1]
  refine Ev.bind h1 (Ev.bind h2 ?_)
  simp only [e2]
  refine Ev.bind hu ?_
  simp only [e3]
  exact h3
theorem spec_l3Draw_ev {s : List Int} (hs : Rdr s) {m : Int} (hm : 1 ≤ m) (hm4 : m ≤ 4) {p : Int} (hp : 0 ≤ p ∧ p ≤ 600000) : ∃ n l1 l2 l3 q, Ev (fun k => spec_l3Draw.f k s p m) (n, l1, l2, l3, q) ∧ l1.length ≤ 4 ∧ l2.length ≤ 4 ∧ l3.length ≤ 24 ∧ p ≤ q ∧ q ≤ p + 100 := by
  obtain ⟨v, hv, v0, v1⟩ := spec_l13Rd_pick_ev hs (p := p) (by omega) 3
  simp only [spec_l3Draw.f]
  by_cases e : v = 0
  · obtain ⟨u, hu, u0, u1⟩ := spec_l13Rd_pick_ev hs (p := p + 1) (by omega) 9
    obtain ⟨n, l1, l2, l3, hk, a, b, c⟩ := spec_l3Known_ev u0 (u1 (by omega))
    by_cases e2 : n ≤ m
    · refine ⟨n, l1, l2, l3, p + 1 + 1, Ev.bind hv ?_, a, b, c, by omega, by omega⟩
      simp only [if_pos e]
      refine Ev.bind hu (Ev.bind hk ?_)
      simp only [if_pos e2]
      exact Ev.now _
    · obtain ⟨n', l1', l2', l3', q', h, a, b, c, d, d'⟩ := spec_l3Draw_j0 hs hm hm4 (p := p + 1 + 1) (by omega)
      refine ⟨n', l1', l2', l3', q', Ev.bind hv ?_, a, b, c, by omega, by omega⟩
      simp only [if_pos e]
      refine Ev.bind hu (Ev.bind hk ?_)
      simp only [if_neg e2]
      exact h
  · obtain ⟨n', l1', l2', l3', q', h, a, b, c, d, d'⟩ := spec_l3Draw_j0 hs hm hm4 (p := p + 1) (by omega)
    refine ⟨n', l1', l2', l3', q', Ev.bind hv ?_, a, b, c, by omega, by omega⟩
    simp only [if_neg e]
    exact h
theorem spec_l3Bad_ev {s : List Int} (hs : Rdr s) (n : Int) {l1 l2 : List Int} {l3 : List S32} (h1 : l1.length ≤ 4) (h2 : l2.length ≤ 4) (h3 : l3.length ≤ 24) {p : Int} (hp : 0 ≤ p ∧ p ≤ 800000) : ∃ n' l1' l3' q, Ev (fun k => spec_l3Bad.f k s p n l1 l2 l3) (n', l1', l2, l3', q) ∧ l1'.length ≤ 5 ∧ l3'.length ≤ 25 ∧ p ≤ q ∧ q ≤ p + 5 := by
  obtain ⟨v, hv, v0, v1⟩ := spec_l13Rd_pick_ev hs (p := p) (by omega) 36
  simp only [spec_l3Bad.f]
  by_cases e0 : v = 0
  · obtain ⟨u, hu, -⟩ := spec_l13Rd_num_ev hs (p := p + 1) (by omega) [0, 5, (-1), 1, 9223372036854775807] (by simp)
    refine ⟨u, l1, l3, p + 1 + 1, Ev.bind hv ?_, by omega, by omega, by omega, by omega⟩
    simp only [if_pos e0]
    exact Ev.bind hu (Ev.now _)
  · by_cases e1 : v = 1
    · obtain ⟨u1, hu1, -⟩ := spec_l13Rd_pick_ev hs (p := p + 1) (by omega) 2
      obtain ⟨u2, hu2⟩ := spec_l13Rd_of_ev hs (p := p + 1 + 1) (by omega) [(⟨#[97]⟩ : ByteArray), (⟨#[99]⟩ : ByteArray), (⟨#[]⟩ : ByteArray)] (by simp)
      obtain ⟨u3, hu3, -⟩ := spec_l13Rd_num_ev hs (p := p + 1 + 1 + 1) (by omega) [0, 4, (-1)] (by simp)
      obtain ⟨u4, hu4, -⟩ := spec_l13Rd_num_ev hs (p := p + 1 + 1 + 1 + 1) (by omega) [0, 4, (-1)] (by simp)
      refine ⟨n, l1, l3 ++ [⟨u1, u2, u3, u4⟩], p + 1 + 1 + 1 + 1 + 1, Ev.bind hv ?_, by omega, by simp; omega, by omega, by omega⟩
      simp only [if_neg e0, if_pos e1, Option.bind_some, List.nil_append, List.length_nil, if_pos (show 0 + l3.length < 3518437208883 by omega)]
      refine Ev.bind hu1 (Ev.bind hu2 (Ev.bind hu3 (Ev.bind hu4 ?_)))
      simp only [if_pos (show l3.length < 3518437208883 by omega)]
      exact Ev.now _
    · by_cases e2 : v = 2
      · obtain ⟨u, hu, -⟩ := spec_l13Rd_num_ev hs (p := p + 1) (by omega) [0, 4, (-1)] (by simp)
        refine ⟨n, l1 ++ [u], l3, p + 1 + 1, Ev.bind hv ?_, by simp; omega, by omega, by omega, by omega⟩
        simp only [if_neg e0, if_neg e1, if_pos e2, Option.bind_some, List.nil_append, List.length_nil, if_pos (show 0 + l1.length < 17592186044416 by omega)]
        refine Ev.bind hu ?_
        simp only [if_pos (show l1.length < 17592186044416 by omega)]
        exact Ev.now _
      · refine ⟨n, l1, l3, p + 1, Ev.bind hv ?_, by omega, by omega, by omega, by omega⟩
        simp only [if_neg e0, if_neg e1, if_neg e2]
        exact Ev.now _
theorem spec_l3Any_ev {s : List Int} (hs : Rdr s) {p : Int} (hp : 0 ≤ p ∧ p ≤ 500000) : ∃ n l1 l2 l3 q, Ev (fun k => spec_l3Any.f k s p) (n, l1, l2, l3, q) ∧ l1.length ≤ 5 ∧ l2.length ≤ 4 ∧ l3.length ≤ 25 ∧ p ≤ q ∧ q ≤ p + 200 := by
  obtain ⟨n, l1, l2, l3, q, h, a, b, c, d, d'⟩ := spec_l3Draw_ev hs (m := 3) (by omega) (by omega) (p := p) (by omega)
  obtain ⟨n', l1', l3', q', h', a', c', e, e'⟩ := spec_l3Bad_ev hs n a b c (p := q) (by omega)
  refine ⟨n', l1', l2, l3', q', ?_, a', b, c', by omega, by omega⟩
  simp only [spec_l3Any.f]
  exact Ev.bind h (Ev.bind h' (Ev.now _))
theorem impl_statesOk_ev (n : Int) (l : List Int) (hl : l.length < 9223372036854775807) : Ev (fun k => impl_statesOk.f k l n) (asc n l) := by
  have h := down l.length (P := fun i => Ev (fun k => impl_statesOk.l0 k l n l (l.length : Int) (i : Int)) (allFrom (ascAt n l) l.length i)) ?_ ?_ 0 (by omega)
  · simpa only [impl_statesOk.f, asc, cast0] using h
  · refine Ev.step (fun k => rfl) ?_
    simp only [impl_statesOk.l0, if_neg (show ¬ (l.length : Int) < (l.length : Int) by omega), allFrom_end]
    exact Ev.now _
  · intro i hi ih
    refine Ev.step (fun k => rfl) ?_
    simp only [impl_statesOk.l0, if_pos (show (i : Int) < (l.length : Int) by omega), if_pos (nnc i), w64n (show i < 9223372036854775807 by omega)]
    rw [allFrom_step hi]
    by_cases ha : rd l i < 0
    · simp only [if_pos ha]
      exact ev_to (Ev.now _) (by simp [ascAt, show ¬ 0 ≤ rd l i by omega])
    · simp only [if_neg ha]
      by_cases hb : rd l i ≥ n
      · simp only [if_pos hb]
        exact ev_to (Ev.now _) (by simp [ascAt, show ¬ rd l i < n by omega])
      · simp only [if_neg hb]
        by_cases h0 : i = 0
        · subst h0
          simp only [cast0, if_neg (show ¬ (0 : Int) > 0 by omega)]
          exact ev_to ih (by simp [ascAt, show (0 : Int) ≤ rd l 0 by simp at ha; omega, show rd l 0 < n by simp at hb; omega])
        · simp only [if_pos (show (i : Int) > 0 by omega), pred_w (show 0 < i by omega) (show i < 9223372036854775807 by omega), if_pos (nnc (i - 1)), if_pos (show ((i - 1 : Nat) : Int) < (l.length : Int) by omega)]
          by_cases hc : rd l ((i - 1 : Nat) : Int) ≥ rd l i
          · simp only [if_pos hc]
            exact ev_to (Ev.now _) (by simp [ascAt, h0, show ¬ rd l ((i - 1 : Nat) : Int) < rd l i by omega])
          · simp only [if_neg hc]
            exact ev_to ih (by simp [ascAt, show 0 ≤ rd l i by omega, show rd l i < n by omega, show rd l ((i - 1 : Nat) : Int) < rd l i by omega])
theorem cmp_bytes : ∀ a b : List UInt8, Lib.compareBytes a b = if a = b then 0 else if Op.bytesLess a b then -1 else 1
  | [], [] => by simp [Lib.compareBytes]
  | [], _ :: _ => by simp [Lib.compareBytes, Op.bytesLess]
  | _ :: _, [] => by simp [Lib.compareBytes, Op.bytesLess]
  | x :: a, y :: b => by
    have ih := cmp_bytes a b
    simp only [Lib.compareBytes, Op.bytesLess]
    by_cases h1 : x < y
    · have hne : x ≠ y := fun e => by subst e; exact absurd h1 (UInt8.lt_irrefl x)
      simp [h1, hne]
    · by_cases h2 : y < x
      · have hne : x ≠ y := fun e => by subst e; exact absurd h2 (UInt8.lt_irrefl x)
        simp [h1, h2, hne]
      · have e : x = y := UInt8.le_antisymm (UInt8.not_lt.1 h2) (UInt8.not_lt.1 h1)
        subst e
        simp [h1, ih]
def cmpI (a b : Int) : Int := if a < b then -1 else if b < a then 1 else 0
theorem cmp_Compare_eq (a b : Int) : cmp_Compare_int.f a b = some (cmpI a b) := by
  simp only [cmp_Compare_int.f, cmp_isNaN_int.f, Option.bind_some, bne_self_eq_false, Bool.false_eq_true, if_false, cmpI]
  split
  · rfl
  · split <;> rfl
def ordS (s t : S32) : Int := if cmpI s.f0 t.f0 ≠ 0 then cmpI s.f0 t.f0 else if Lib.compareBytes s.f1.data.toList t.f1.data.toList ≠ 0 then Lib.compareBytes s.f1.data.toList t.f1.data.toList else cmpI s.f2 t.f2
theorem cmp_Or_ev (a b c : Int) : Ev (fun k => cmp_Or_int.f k [a, b, c]) (if a ≠ 0 then a else if b ≠ 0 then b else c) := by
  simp only [cmp_Or_int.f]
  refine Ev.step (fun k => rfl) ?_
  simp only [cmp_Or_int.l0, List.length_cons, List.length_nil, show ((0 + 1 + 1 + 1 : Nat) : Int) = 3 from rfl, if_pos (show (0 : Int) < 3 by omega), if_pos (show (0 : Int) ≤ 0 by omega), show rd [a, b, c] 0 = a from rfl, show wrap64 (0 + 1) = 1 by rw [w64 (by omega) (by omega)]; rfl]
  by_cases ha : a = 0
  · simp only [if_pos ha, ne_eq, ha, not_true_eq_false, if_false]
    refine Ev.step (fun k => rfl) ?_
    simp only [cmp_Or_int.l0, List.length_cons, List.length_nil, show ((0 + 1 + 1 + 1 : Nat) : Int) = 3 from rfl, if_pos (show (1 : Int) < 3 by omega), if_pos (show (0 : Int) ≤ 1 by omega), show rd [0, b, c] 1 = b from rfl, show wrap64 (1 + 1) = 2 by rw [w64 (by omega) (by omega)]; rfl]
    by_cases hb : b = 0
    · simp only [if_pos hb, ne_eq, hb, not_true_eq_false, if_false]
      refine Ev.step (fun k => rfl) ?_
      simp only [cmp_Or_int.l0, List.length_cons, List.length_nil, show ((0 + 1 + 1 + 1 : Nat) : Int) = 3 from rfl, if_pos (show (2 : Int) < 3 by omega), if_pos (show (0 : Int) ≤ 2 by omega), show rd [0, 0, c] 2 = c from rfl, show wrap64 (2 + 1) = 3 by rw [w64 (by omega) (by omega)]; rfl]
      by_cases hc : c = 0
      · simp only [if_pos hc]
        refine Ev.step (fun k => rfl) ?_
        simp only [cmp_Or_int.l0, List.length_cons, List.length_nil, show ((0 + 1 + 1 + 1 : Nat) : Int) = 3 from rfl, if_neg (show ¬ (3 : Int) < 3 by omega)]
        exact ev_to (Ev.now _) hc.symm
      · simp only [if_neg hc]
        exact Ev.now _
    · simp only [if_neg hb, ne_eq, hb, not_false_eq_true, if_true]
      exact Ev.now _
  · simp only [if_neg ha, ne_eq, ha, not_false_eq_true, if_true]
    exact Ev.now _
theorem impl_stepOrder_ev (s t : S32) : Ev (fun k => impl_stepOrder.f k s.f0 s.f1 s.f2 s.f3 t.f0 t.f1 t.f2 t.f3) (ordS s t) := by
  simp only [impl_stepOrder.f, cmp_Compare_eq, strings_Compare.f, Option.bind_some]
  exact Ev.bind (cmp_Or_ev _ _ _) (Ev.now _)
theorem ordS_lt (s t : S32) : (ordS s t < 0) = (sLt s t = true) := by
  simp only [ordS, sLt, cmp_bytes, cmpI, Lib.toList_data]
  by_cases h0 : s.f0 = t.f0
  · rw [h0]
    simp only [Int.lt_irrefl, if_false, ne_eq, not_true_eq_false, if_true]
    by_cases h1 : s.f1.data.toList = t.f1.data.toList
    · simp only [if_pos h1, not_true_eq_false, if_false, decide_eq_true_eq]
      apply propext
      constructor
      · intro h
        split at h
        · assumption
        · split at h <;> omega
      · intro h
        rw [if_pos h]
        omega
    · simp only [if_neg h1]
      cases hb : Op.bytesLess s.f1.data.toList t.f1.data.toList <;> simp
  · simp only [if_neg h0]
    by_cases h1 : s.f0 < t.f0
    · simp [h1]
    · simp [h1, show t.f0 < s.f0 by omega]
theorem impl_AutomatonValid_steps {n : Int} (l1 l2 : List Int) (l3 : List S32) (h3 : l3.length < 9223372036854775807) : Ev (fun k => impl_AutomatonValid.l0 k l3 (l3.length : Int) 0 n l1 l2 l3) (stepsOk n l3) := by
  have h := down l3.length (P := fun i => Ev (fun k => impl_AutomatonValid.l0 k l3 (l3.length : Int) (i : Int) n l1 l2 l3) (allFrom (sAt n l3) l3.length i)) ?_ ?_ 0 (by omega)
  · simpa only [stepsOk, cast0] using h
  · refine Ev.step (fun k => rfl) ?_
    simp only [impl_AutomatonValid.l0, if_neg (show ¬ (l3.length : Int) < (l3.length : Int) by omega), allFrom_end]
    exact Ev.now _
  · intro i hi ih
    have hno : sOk n (rd_T32 l3 (i : Int)) = false → (sAt n l3 i && allFrom (sAt n l3) l3.length (i + 1)) = false := fun e => by simp [sAt, e]
    have hlast : sOk n (rd_T32 l3 (i : Int)) = true → Ev (fun k => if (i : Int) > 0 then (if 0 ≤ wrap64 ((i : Int) - 1) then (if wrap64 ((i : Int) - 1) < (l3.length : Int) then ((impl_stepOrder.f k (rd_T32 l3 (wrap64 ((i : Int) - 1))).f0 (rd_T32 l3 (wrap64 ((i : Int) - 1))).f1 (rd_T32 l3 (wrap64 ((i : Int) - 1))).f2 (rd_T32 l3 (wrap64 ((i : Int) - 1))).f3 (rd_T32 l3 (i : Int)).f0 (rd_T32 l3 (i : Int)).f1 (rd_T32 l3 (i : Int)).f2 (rd_T32 l3 (i : Int)).f3).bind fun t => if t ≥ 0 then some false else impl_AutomatonValid.l0 k l3 (l3.length : Int) ((i + 1 : Nat) : Int) n l1 l2 l3) else none) else none) else impl_AutomatonValid.l0 k l3 (l3.length : Int) ((i + 1 : Nat) : Int) n l1 l2 l3) (sAt n l3 i && allFrom (sAt n l3) l3.length (i + 1)) := by
      intro hs
      by_cases h0 : i = 0
      · subst h0
        simp only [cast0, if_neg (show ¬ (0 : Int) > 0 by omega)]
        exact ev_to ih (by simp only [cast0] at hs; simp [sAt, hs])
      · simp only [if_pos (show (i : Int) > 0 by omega), pred_w (show 0 < i by omega) (show i < 9223372036854775807 by omega), if_pos (nnc (i - 1)), if_pos (show ((i - 1 : Nat) : Int) < (l3.length : Int) by omega)]
        refine Ev.bind (impl_stepOrder_ev _ _) ?_
        have ho := ordS_lt (rd_T32 l3 ((i - 1 : Nat) : Int)) (rd_T32 l3 (i : Int))
        cases hb : sLt (rd_T32 l3 ((i - 1 : Nat) : Int)) (rd_T32 l3 (i : Int)) with
        | false =>
          rw [hb] at ho
          simp only [if_pos (show ordS (rd_T32 l3 ((i - 1 : Nat) : Int)) (rd_T32 l3 (i : Int)) ≥ 0 by simp at ho; omega)]
          exact ev_to (Ev.now _) (by simp [sAt, h0, hb])
        | true =>
          rw [hb] at ho
          simp only [eq_self_iff_true, eq_iff_iff, iff_true] at ho
          simp only [if_neg (show ¬ ordS (rd_T32 l3 ((i - 1 : Nat) : Int)) (rd_T32 l3 (i : Int)) ≥ 0 by omega)]
          exact ev_to ih (by simp [sAt, hs, hb])
    refine Ev.step (fun k => rfl) ?_
    simp only [impl_AutomatonValid.l0, if_pos (show (i : Int) < (l3.length : Int) by omega), if_pos (nnc i), w64n (show i < 9223372036854775807 by omega)]
    rw [allFrom_step hi]
    by_cases c0 : (rd_T32 l3 (i : Int)).f0 < 0
    · simp only [if_pos c0]
      exact ev_to (Ev.now _) (hno (by simp [sOk]; omega)).symm
    simp only [if_neg c0]
    by_cases c1 : (rd_T32 l3 (i : Int)).f0 ≥ n
    · simp only [if_pos c1]
      exact ev_to (Ev.now _) (hno (by simp [sOk]; omega)).symm
    simp only [if_neg c1]
    by_cases c2 : (rd_T32 l3 (i : Int)).f2 < 0
    · simp only [if_pos c2]
      exact ev_to (Ev.now _) (hno (by simp [sOk]; omega)).symm
    simp only [if_neg c2]
    by_cases c3 : (rd_T32 l3 (i : Int)).f2 ≥ n
    · simp only [if_pos c3]
      exact ev_to (Ev.now _) (hno (by simp [sOk]; omega)).symm
    simp only [if_neg c3]
    have hcost : ∀ hl : (sA (rd_T32 l3 (i : Int)).f1 || sB (rd_T32 l3 (i : Int)).f1) = true, ∀ {g : Nat → Option Bool}, (sOk n (rd_T32 l3 (i : Int)) = true → Ev g (sAt n l3 i && allFrom (sAt n l3) l3.length (i + 1))) → Ev (fun k => if (rd_T32 l3 (i : Int)).f3 < 0 then some false else if (rd_T32 l3 (i : Int)).f3 > 3 then some false else g k) (sAt n l3 i && allFrom (sAt n l3) l3.length (i + 1)) := by
      intro hl g hg
      by_cases c4 : (rd_T32 l3 (i : Int)).f3 < 0
      · simp only [if_pos c4]
        exact ev_to (Ev.now _) (hno (by simp [sOk]; omega)).symm
      simp only [if_neg c4]
      by_cases c5 : (rd_T32 l3 (i : Int)).f3 > 3
      · simp only [if_pos c5]
        exact ev_to (Ev.now _) (hno (by simp [sOk]; omega)).symm
      simp only [if_neg c5]
      refine hg ?_
      simp only [sOk, hl, Bool.and_true, decide_eq_true_eq]
      omega
    by_cases ca : (rd_T32 l3 (i : Int)).f1.toList = [97]
    · simp only [if_pos ca]
      exact hcost (by simp [sA, ca]) hlast
    · simp only [if_neg ca]
      by_cases cb : (rd_T32 l3 (i : Int)).f1.toList = [98]
      · simp only [if_pos cb]
        exact hcost (by simp [sB, cb]) hlast
      · simp only [if_neg cb]
        exact ev_to (Ev.now _) (hno (by simp [sOk, sA, sB, ca, cb])).symm
theorem impl_AutomatonValid_ev (n : Int) (l1 l2 : List Int) (l3 : List S32) (h1 : l1.length < 9223372036854775807) (h2 : l2.length < 9223372036854775807) (h3 : l3.length < 9223372036854775807) : Ev (fun k => impl_AutomatonValid.f k n l1 l2 l3) (av n l1 l2 l3) := by
  have hno : Ev (fun k => impl_AutomatonValid.j0 k true n l1 l2 l3) false := by
    refine Ev.step (fun k => rfl) ?_
    simp only [impl_AutomatonValid.j0, if_true]
    exact Ev.now _
  simp only [impl_AutomatonValid.f]
  by_cases c0 : n < 1
  · simp only [if_pos c0]
    exact ev_to hno (by simp only [av]; rw [show decide (1 ≤ n ∧ n ≤ 4) = false by simp; omega]; rfl)
  simp only [if_neg c0]
  by_cases c1 : n > 4
  · simp only [if_pos c1]
    exact ev_to hno (by simp only [av]; rw [show decide (1 ≤ n ∧ n ≤ 4) = false by simp; omega]; rfl)
  simp only [if_neg c1]
  by_cases c3 : (l3.length : Int) > 24
  · simp only [if_pos c3]
    exact ev_to hno (by simp [av, show ¬ l3.length ≤ 24 by omega])
  simp only [if_neg c3]
  refine Ev.bind (impl_statesOk_ev n l1 h1) ?_
  cases e1 : asc n l1 with
  | false =>
    simp only [Bool.false_eq_true, if_false]
    exact ev_to hno (by simp [av, e1])
  | true =>
    simp only [if_true]
    refine Ev.bind (impl_statesOk_ev n l2 h2) ?_
    cases e2 : asc n l2 with
    | false => exact ev_to hno (by simp [av, e2])
    | true =>
      simp only [Bool.not_true]
      refine Ev.step (fun k => rfl) ?_
      simp only [impl_AutomatonValid.j0, Bool.false_eq_true, if_false]
      exact ev_to (impl_AutomatonValid_steps l1 l2 l3 h3) (by simp [av, e1, e2, show 1 ≤ n by omega, show n ≤ 4 by omega, show l3.length ≤ 24 by omega])
-- (r5) steps are in a strict order; two rows of the same steps, both in order, are the same.
theorem bl_irr : ∀ l, Op.bytesLess l l = false
  | [] => rfl
  | a :: x => by
    unfold Op.bytesLess
    simp [bl_irr x]
theorem bl_cons (a b : UInt8) (x y : List UInt8) : Op.bytesLess (a :: x) (b :: y) = true ↔ a.toNat < b.toNat ∨ (a = b ∧ Op.bytesLess x y = true) := by
  rw [show Op.bytesLess (a :: x) (b :: y) = (decide (a < b) || (a == b && Op.bytesLess x y)) from rfl]
  simp [UInt8.lt_iff_toNat_lt]
theorem bl_trans : ∀ x y z, Op.bytesLess x y = true → Op.bytesLess y z = true → Op.bytesLess x z = true
  | _, [], _, h, _ => by simp [Op.bytesLess] at h
  | _, _ :: _, [], _, h => by simp [Op.bytesLess] at h
  | [], _ :: _, _ :: _, _, _ => rfl
  | a :: x, b :: y, c :: z, h, k => by
    rw [bl_cons] at h k ⊢
    rcases h with h | ⟨rfl, h⟩
    · rcases k with k | ⟨rfl, k⟩
      · exact .inl (by omega)
      · exact .inl h
    · rcases k with k | ⟨rfl, k⟩
      · exact .inl k
      · exact .inr ⟨rfl, bl_trans x y z h k⟩
theorem bl_tri : ∀ x y, x = y ∨ Op.bytesLess x y = true ∨ Op.bytesLess y x = true
  | [], [] => .inl rfl
  | [], _ :: _ => .inr (.inl rfl)
  | _ :: _, [] => .inr (.inr rfl)
  | a :: x, b :: y => by
    rw [bl_cons, bl_cons]
    rcases Nat.lt_trichotomy a.toNat b.toNat with h | h | h
    · exact .inr (.inl (.inl h))
    · have e : a = b := UInt8.toNat_inj.1 h
      subst e
      rcases bl_tri x y with h | h | h
      · exact .inl (by rw [h])
      · exact .inr (.inl (.inr ⟨rfl, h⟩))
      · exact .inr (.inr (.inr ⟨rfl, h⟩))
    · exact .inr (.inr (.inl h))
/-- What two steps are told apart by. -/
def sameKey (s t : S32) : Prop := s.f0 = t.f0 ∧ s.f1.toList = t.f1.toList ∧ s.f2 = t.f2
theorem sLt_iff (s t : S32) : sLt s t = true ↔ s.f0 < t.f0 ∨ (s.f0 = t.f0 ∧ (Op.bytesLess s.f1.toList t.f1.toList = true ∨ (s.f1.toList = t.f1.toList ∧ s.f2 < t.f2))) := by
  unfold sLt
  by_cases h0 : s.f0 = t.f0
  · rw [if_pos h0]
    by_cases h1 : s.f1.toList = t.f1.toList
    · rw [if_pos h1, h1, bl_irr, decide_eq_true_iff]
      simp [h0]
    · rw [if_neg h1]
      simp [h0, h1]
  · rw [if_neg h0, decide_eq_true_iff]
    simp [h0]
theorem sLt_irr (s : S32) : sLt s s = false := by
  rw [Bool.eq_false_iff, ne_eq, sLt_iff, bl_irr]
  simp
theorem sLt_trans (s t u : S32) (h : sLt s t = true) (k : sLt t u = true) : sLt s u = true := by
  rw [sLt_iff] at h k ⊢
  rcases h with h | ⟨e, h⟩
  · rcases k with k | ⟨e', k⟩
    · exact .inl (by omega)
    · exact .inl (by omega)
  · rcases k with k | ⟨e', k⟩
    · exact .inl (by omega)
    · refine .inr ⟨e.trans e', ?_⟩
      rcases h with h | ⟨f, h⟩
      · rcases k with k | ⟨f', k⟩
        · exact .inl (bl_trans _ _ _ h k)
        · exact .inl (f' ▸ h)
      · rcases k with k | ⟨f', k⟩
        · exact .inl (f ▸ k)
        · exact .inr ⟨f.trans f', by omega⟩
theorem sLt_tri (s t : S32) : sameKey s t ∨ sLt s t = true ∨ sLt t s = true := by
  rw [sLt_iff, sLt_iff]
  rcases Int.lt_trichotomy s.f0 t.f0 with h | h | h
  · exact .inr (.inl (.inl h))
  · rcases bl_tri s.f1.toList t.f1.toList with k | k | k
    · rcases Int.lt_trichotomy s.f2 t.f2 with j | j | j
      · exact .inr (.inl (.inr ⟨h, .inr ⟨k, j⟩⟩))
      · exact .inl ⟨h, k, j⟩
      · exact .inr (.inr (.inr ⟨h.symm, .inr ⟨k.symm, j⟩⟩))
    · exact .inr (.inl (.inr ⟨h, .inl k⟩))
    · exact .inr (.inr (.inr ⟨h.symm, .inl k⟩))
  · exact .inr (.inr (.inl h))
theorem sLt_same {s t u v : S32} (h : sameKey s t) (k : sameKey u v) : sLt s u = sLt t v := by
  unfold sLt
  rw [h.1, h.2.1, h.2.2, k.1, k.2.1, k.2.2]
theorem sameKey.symm {s t : S32} (h : sameKey s t) : sameKey t s := ⟨h.1.symm, h.2.1.symm, h.2.2.symm⟩
theorem sLt_swo : Sort.SWO sLt where
  irrefl := sLt_irr
  trans := sLt_trans
  ntrans := fun x y z h k => by
    rcases sLt_tri x z with e | e | e
    · rw [sLt_same e ⟨rfl, rfl, rfl⟩]
      exact sLt_irr z
    · rcases sLt_tri x y with f | f | f
      · rw [sLt_same f ⟨rfl, rfl, rfl⟩] at e
        rw [e] at k
        cases k
      · rw [f] at h
        cases h
      · have := sLt_trans _ _ _ f e
        rw [this] at k
        cases k
    · rw [Bool.eq_false_iff]
      intro f
      have := sLt_trans _ _ _ e f
      rw [sLt_irr] at this
      cases this
/-- Strictly in order. -/
def inOrder (l : List S32) : Prop := l.Pairwise fun s t => sLt s t = true
theorem order_unique : ∀ (l m : List S32), inOrder l → inOrder m → (∀ x, x ∈ l ↔ x ∈ m) → l = m
  | [], [], _, _, _ => rfl
  | [], y :: m, _, _, h => absurd ((h y).2 List.mem_cons_self) List.not_mem_nil
  | x :: l, [], _, _, h => absurd ((h x).1 List.mem_cons_self) List.not_mem_nil
  | x :: l, y :: m, hl, hm, h => by
    obtain ⟨hx, hl'⟩ := List.pairwise_cons.1 hl
    obtain ⟨hy, hm'⟩ := List.pairwise_cons.1 hm
    have e : x = y := by
      rcases List.mem_cons.1 ((h x).1 List.mem_cons_self) with e | hxm
      · exact e
      · rcases List.mem_cons.1 ((h y).2 List.mem_cons_self) with e | hyl
        · exact e.symm
        · have := sLt_trans _ _ _ (hx y hyl) (hy x hxm)
          rw [sLt_irr] at this
          cases this
    subst e
    refine congrArg _ (order_unique l m hl' hm' fun z => ⟨fun hz => ?_, fun hz => ?_⟩)
    · rcases List.mem_cons.1 ((h z).1 (List.mem_cons_of_mem _ hz)) with e | hz'
      · subst e
        have := hx z hz
        rw [sLt_irr] at this
        cases this
      · exact hz'
    · rcases List.mem_cons.1 ((h z).2 (List.mem_cons_of_mem _ hz)) with e | hz'
      · subst e
        have := hy z hz
        rw [sLt_irr] at this
        cases this
      · exact hz'
/-- A step put into steps that are in order. -/
def insS (s : S32) : List S32 → List S32
  | [] => [s]
  | t :: l => if sLt t s = true then t :: insS s l else s :: t :: l
theorem insS_mem (s : S32) : ∀ (l : List S32) (x : S32), x ∈ insS s l ↔ x = s ∨ x ∈ l
  | [], x => by simp [insS]
  | t :: l, x => by
    unfold insS
    split
    · rw [List.mem_cons, insS_mem s l x, List.mem_cons]
      constructor
      · rintro (h | h | h)
        · exact .inr (.inl h)
        · exact .inl h
        · exact .inr (.inr h)
      · rintro (h | h | h)
        · exact .inr (.inl h)
        · exact .inl h
        · exact .inr (.inr h)
    · rw [List.mem_cons]
theorem insS_order {s : S32} : ∀ {l : List S32}, inOrder l → (∀ t ∈ l, ¬ sameKey s t) → inOrder (insS s l)
  | [], _, _ => List.pairwise_singleton _ _
  | t :: l, h, hn => by
    obtain ⟨ht, hl⟩ := List.pairwise_cons.1 h
    unfold insS
    split
    · rename_i c
      refine List.pairwise_cons.2 ⟨fun x hx => ?_, insS_order hl fun u hu => hn u (List.mem_cons_of_mem _ hu)⟩
      rcases (insS_mem s l x).1 hx with rfl | hx
      · exact c
      · exact ht x hx
    · rename_i c
      have hst : sLt s t = true := by
        rcases sLt_tri s t with e | e | e
        · exact absurd e (hn t List.mem_cons_self)
        · exact e
        · exact absurd e c
      refine List.pairwise_cons.2 ⟨fun x hx => ?_, h⟩
      rcases List.mem_cons.1 hx with rfl | hx
      · exact hst
      · exact sLt_trans _ _ _ hst (ht x hx)
theorem key_apart {l : List S32} (h : inOrder l) : l.Pairwise fun s t => ¬ sameKey s t := by
  refine h.imp fun {s t} hst hk => ?_
  rw [sLt_same hk ⟨rfl, rfl, rfl⟩, sLt_irr] at hst
  cases hst
/-- What a sort hands back, of steps that no two have the same key: the one row of them that is in order. -/
theorem sorted_eq [Inhabited S32] {l : List S32} {d : Array S32} (hn : l.Pairwise fun s t => ¬ sameKey s t) (hp : Sort.PermIn 0 l.length l.toArray d) (hs : Sort.SortedIn sLt 0 l.length d) {m : List S32} (hm : inOrder m) (hmem : ∀ x, x ∈ m ↔ x ∈ l) : d.toList = m := by
  obtain ⟨hz, _, hperm⟩ := hp
  have hz' : d.size = l.length := by simpa using hz
  have e1 : (d.extract 0 l.length).toList = d.toList := by
    rw [← hz', Array.extract_size]
  have e2 : (l.toArray.extract 0 l.length).toList = l := by simp
  rw [e1, e2] at hperm
  have hk : d.toList.Pairwise fun s t => ¬ sameKey s t := (hperm.pairwise_iff (fun h k => h k.symm)).2 hn
  refine order_unique _ _ ?_ hm fun x => by rw [hmem, hperm.mem_iff]
  refine List.pairwise_iff_getElem.2 fun i j hi hj hij => ?_
  have hi' : i < d.size := by simpa using hi
  have hj' : j < d.size := by simpa using hj
  have h1 := hs i j (Nat.zero_le _) hij (by omega)
  rw [getElem!_pos d j hj', getElem!_pos d i hi'] at h1
  have h2 := List.pairwise_iff_getElem.1 hk i j hi hj hij
  rw [Array.getElem_toList, Array.getElem_toList] at h2 ⊢
  rcases sLt_tri d[i] d[j] with e | e | e
  · exact absurd e h2
  · exact e
  · rw [e] at h1
    cases h1
/-- A step turned. -/
def revS (s : S32) : S32 := ⟨s.f2, s.f1, s.f0, s.f3⟩
theorem rev_key {s t : S32} (h : sameKey (revS s) (revS t)) : sameKey s t := ⟨h.2.2, h.2.1, h.1⟩
theorem rev_rev (s : S32) : revS (revS s) = s := rfl
/-- Steps put one by one into a row. -/
def insAll (l : List S32) (m : List S32) : List S32 := l.foldl (fun acc s => insS s acc) m
theorem insAll_mem : ∀ (l m : List S32) (x : S32), x ∈ insAll l m ↔ x ∈ l ∨ x ∈ m
  | [], m, x => by simp [insAll]
  | s :: l, m, x => by
    show x ∈ insAll l (insS s m) ↔ _
    rw [insAll_mem l, insS_mem, List.mem_cons]
    constructor
    · rintro (h | h | h)
      · exact .inl (.inr h)
      · exact .inl (.inl h)
      · exact .inr h
    · rintro ((h | h) | h)
      · exact .inr (.inl h)
      · exact .inl h
      · exact .inr (.inr h)
theorem insAll_order : ∀ (l m : List S32), inOrder m → (l.Pairwise fun s t => ¬ sameKey s t) → (∀ s ∈ l, ∀ t ∈ m, ¬ sameKey s t) → inOrder (insAll l m)
  | [], m, h, _, _ => h
  | s :: l, m, h, hl, hm => by
    obtain ⟨h1, h2⟩ := List.pairwise_cons.1 hl
    show inOrder (insAll l (insS s m))
    refine insAll_order l (insS s m) (insS_order h fun t ht => hm s List.mem_cons_self t ht) h2 fun u hu t ht => ?_
    rcases (insS_mem s m t).1 ht with rfl | ht
    · exact fun k => h1 u hu k.symm
    · exact hm u (List.mem_cons_of_mem _ hu) t ht
/-- The steps of the automaton turned, in order. -/
def revL (l : List S32) : List S32 := insAll (l.map revS) []
theorem rev_apart {l : List S32} (h : inOrder l) : (l.map revS).Pairwise fun s t => ¬ sameKey s t :=
  List.pairwise_map.2 ((key_apart h).imp fun {s t} hn hk => hn (rev_key hk))
theorem revL_order {l : List S32} (h : inOrder l) : inOrder (revL l) := insAll_order _ _ List.Pairwise.nil (rev_apart h) fun _ _ _ ht => (List.not_mem_nil ht).elim
theorem revL_mem (l : List S32) (x : S32) : x ∈ revL l ↔ revS x ∈ l := by
  unfold revL
  rw [insAll_mem, List.mem_map]
  constructor
  · rintro (⟨y, hy, rfl⟩ | h)
    · exact hy
    · exact (List.not_mem_nil h).elim
  · intro h
    exact .inl ⟨revS x, h, rfl⟩
theorem revL_sort [Inhabited S32] {l : List S32} {d : Array S32} (h : inOrder l) (hp : Sort.PermIn 0 (l.map revS).length (l.map revS).toArray d) (hs : Sort.SortedIn sLt 0 (l.map revS).length d) : d.toList = revL l :=
  sorted_eq (rev_apart h) hp hs (revL_order h) fun x => by
    rw [revL_mem, List.mem_map]
    exact ⟨fun hx => ⟨revS x, hx, rfl⟩, fun ⟨y, hy, e⟩ => by rw [← e]; exact hy⟩
/-- Turned twice it is what it was. -/
theorem revL_revL {l : List S32} (h : inOrder l) : revL (revL l) = l :=
  order_unique _ _ (revL_order (revL_order h)) h fun x => by rw [revL_mem, revL_mem, rev_rev]
/-- Steps in order that are sorted stay. -/
theorem sort_same [Inhabited S32] {l : List S32} {d : Array S32} (h : inOrder l) (hp : Sort.PermIn 0 l.length l.toArray d) (hs : Sort.SortedIn sLt 0 l.length d) : d.toList = l := sorted_eq (key_apart h) hp hs h fun _ => Iff.rfl
theorem filter_order {l : List S32} (h : inOrder l) (p : S32 → Bool) : inOrder (l.filter p) := h.filter p
/-- A cost: between 0 and 1000000. -/
def cv (a : Int) : Bool := decide (0 ≤ a ∧ a ≤ 1000000)
theorem cv_iff {a : Int} : cv a = true ↔ 0 ≤ a ∧ a ≤ 1000000 := by simp [cv]
/-- The sum of two costs, at most 1000000. -/
def addc (s a : Int) : Int := min (s + a) 1000000
theorem addc_bd {s a : Int} (h0 : 0 ≤ s) (h1 : 0 ≤ a) : 0 ≤ addc s a ∧ addc s a ≤ 1000000 := by unfold addc; omega
/-- A matrix: 1 to 4 rows, as many costs in each. -/
def mv (n : Int) (l : List Int) : Bool := decide (1 ≤ n ∧ n ≤ 4 ∧ (l.length : Int) = n * n) && l.all cv
theorem mv_iff {n : Int} {l : List Int} : mv n l = true ↔ (1 ≤ n ∧ n ≤ 4 ∧ (l.length : Int) = n * n) ∧ l.all cv = true := by simp [mv]
theorem sq_le {n : Int} (h1 : 1 ≤ n) (h2 : n ≤ 4) : 1 ≤ n * n ∧ n * n ≤ 16 := by
  obtain h | h | h | h : n = 1 ∨ n = 2 ∨ n = 3 ∨ n = 4 := by omega
  all_goals subst h; omega
/-- The cost in row i, column j. -/
def ent (n : Nat) (l : List Int) (i j : Nat) : Int := l.getD (i * n + j) 0
theorem rd_ent (n : Nat) (l : List Int) (i j : Nat) : rd l ((i * n + j : Nat) : Int) = ent n l i j := by
  show l.getD ((i * n + j : Nat) : Int).toNat 0 = _
  rw [Int.toNat_natCast]
  rfl
theorem idx_lt {n i j : Nat} (hi : i < n) (hj : j < n) : i * n + j < n * n := by
  have := Nat.mul_le_mul_right n (show i + 1 ≤ n from hi)
  rw [Nat.add_mul] at this
  omega
theorem sq16 {n : Nat} (h : n ≤ 4) : n * n ≤ 16 := Nat.mul_le_mul h h
theorem idx_wrap {n i j : Nat} (hn : n ≤ 4) (hi : i < n) (hj : j < n) : wrap64 ((wrap64 ((i : Int) * (n : Int))) + (j : Int)) = ((i * n + j : Nat) : Int) := by
  have h1 := idx_lt hi hj
  have h2 := sq16 hn
  have e : ((i * n + j : Nat) : Int) = (i : Int) * (n : Int) + (j : Int) := by rw [Int.natCast_add, Int.natCast_mul]
  have e2 : ((i * n : Nat) : Int) = (i : Int) * (n : Int) := Int.natCast_mul _ _
  rw [w64 (x := (i : Int) * (n : Int)) (by omega) (by omega), w64 (by omega) (by omega), e]
theorem div_idx {n i k : Nat} (hk : k < n) : (i * n + k) / n = i ∧ (i * n + k) % n = k := by
  constructor
  · rw [Nat.mul_comm, Nat.mul_add_div (by omega), Nat.div_eq_of_lt hk]; omega
  · rw [Nat.mul_comm, Nat.mul_add_mod, Nat.mod_eq_of_lt hk]
/-- The cells of a matrix, of what a function tells for each place. -/
def cells (n : Nat) (f : Nat → Nat → Int) : List Int := (List.range (n * n)).map fun t => f (t / n) (t % n)
/-- The first so many of them. -/
def cellsTo (n : Nat) (f : Nat → Nat → Int) (m : Nat) : List Int := (List.range m).map fun t => f (t / n) (t % n)
theorem cellsTo_len (n : Nat) (f : Nat → Nat → Int) (m : Nat) : (cellsTo n f m).length = m := by simp [cellsTo]
theorem cells_len (n : Nat) (f : Nat → Nat → Int) : (cells n f).length = n * n := by simp [cells]
theorem cellsTo_next (n : Nat) (f : Nat → Nat → Int) (m : Nat) : cellsTo n f m ++ [f (m / n) (m % n)] = cellsTo n f (m + 1) := by simp [cellsTo, List.range_succ]
theorem ent_cells {n : Nat} (f : Nat → Nat → Int) {i j : Nat} (hi : i < n) (hj : j < n) : ent n (cells n f) i j = f i j := by
  have h := idx_lt hi hj
  have hd := div_idx (i := i) hj
  rw [ent, cells, List.getD_eq_getElem?_getD, List.getElem?_map, List.getElem?_range h]
  simp [hd.1, hd.2]
theorem cells_ent {n : Nat} {l : List Int} (h : l.length = n * n) : cells n (ent n l) = l := by
  apply List.ext_getElem
  · rw [cells_len, h]
  · intro i h1 h2
    have e : i / n * n + i % n = i := by rw [Nat.mul_comm]; exact Nat.div_add_mod i n
    simp [cells, ent, e, h2]
theorem cells_congr {n : Nat} {f g : Nat → Nat → Int} (h : ∀ i j, i < n → j < n → f i j = g i j) : cells n f = cells n g := by
  apply List.map_congr_left
  intro t ht
  have ht : t < n * n := by simpa using ht
  have hn : 0 < n := by
    cases n with
    | zero => simp at ht
    | succ n => omega
  exact h _ _ (Nat.div_lt_of_lt_mul ht) (Nat.mod_lt _ hn)
theorem cells_all {n : Nat} {f : Nat → Nat → Int} (h : ∀ i j, i < n → j < n → cv (f i j) = true) : (cells n f).all cv = true := by
  rw [List.all_eq_true]
  intro x hx
  obtain ⟨t, ht, rfl⟩ := List.mem_map.1 hx
  have ht : t < n * n := by simpa using ht
  have hn : 0 < n := by
    cases n with
    | zero => simp at ht
    | succ n => omega
  exact h _ _ (Nat.div_lt_of_lt_mul ht) (Nat.mod_lt _ hn)
theorem mv_cells {n : Nat} (h0 : 1 ≤ n) (h1 : n ≤ 4) {f : Nat → Nat → Int} (h : ∀ i j, i < n → j < n → cv (f i j) = true) : mv (n : Int) (cells n f) = true := by
  rw [mv_iff]
  refine ⟨⟨by omega, by omega, ?_⟩, cells_all h⟩
  rw [cells_len, Int.natCast_mul]
theorem mv_nat {n : Int} {l : List Int} (h : mv n l = true) : ∃ m : Nat, n = (m : Int) ∧ 1 ≤ m ∧ m ≤ 4 ∧ l.length = m * m ∧ ∀ x ∈ l, cv x = true := by
  rw [mv_iff] at h
  obtain ⟨m, rfl⟩ := Int.eq_ofNat_of_zero_le (show 0 ≤ n by omega)
  have e := Int.natCast_mul m m
  exact ⟨m, rfl, by omega, by omega, by omega, by simpa using h.2⟩
theorem cv_ent {n : Nat} {l : List Int} (hl : l.length = n * n) (h : ∀ x ∈ l, cv x = true) {i j : Nat} (hi : i < n) (hj : j < n) : cv (ent n l i j) = true := by
  have hb := idx_lt hi hj
  have : ent n l i j = l[i * n + j]'(by omega) := by
    rw [ent, List.getD_eq_getElem?_getD, List.getElem?_eq_getElem (by omega)]
    rfl
  rw [this]
  exact h _ (List.getElem_mem _)
/-- The least of so many costs. -/
def dotTo (f : Nat → Int) (m : Nat) : Int := (List.range m).foldl (fun acc x => min acc (f x)) 1000000
theorem dotTo_next (f : Nat → Int) (m : Nat) : dotTo f (m + 1) = min (dotTo f m) (f m) := by simp [dotTo, List.range_succ]
theorem dotTo_zero (f : Nat → Int) : dotTo f 0 = 1000000 := rfl
theorem dotTo_bd {f : Nat → Int} : ∀ {m : Nat}, (∀ l, l < m → 0 ≤ f l) → 0 ≤ dotTo f m ∧ dotTo f m ≤ 1000000 := by
  intro m
  induction m with
  | zero => intro _; rw [dotTo_zero]; omega
  | succ m ih =>
    intro h
    have h1 := ih (fun l hl => h l (by omega))
    have h2 := h m (by omega)
    rw [dotTo_next]
    omega
def unitm (n : Nat) : List Int := cells n fun i j => if i = j then 0 else 1000000
def turnm (n : Nat) (a : List Int) : List Int := cells n fun i j => ent n a j i
def minm (n : Nat) (a b : List Int) : List Int := cells n fun i j => min (ent n a i j) (ent n b i j)
def mulm (n : Nat) (a b : List Int) : List Int := cells n fun i j => dotTo (fun l => addc (ent n a i l) (ent n b l j)) n
def two (n : Int) (a : List Int) (m : Int) (b : List Int) : Bool := mv n a && (mv m b && decide (n = m))
def unitR (n : Int) : Int × List Int × Bool := if 1 ≤ n ∧ n ≤ 4 then (n, unitm n.toNat, true) else (0, [], false)
def turnR (n : Int) (a : List Int) : Int × List Int × Bool := if mv n a then (n, turnm n.toNat a, true) else (0, [], false)
def minR (n : Int) (a : List Int) (m : Int) (b : List Int) : Int × List Int × Bool := if two n a m b then (n, minm n.toNat a b, true) else (0, [], false)
def mulR (n : Int) (a : List Int) (m : Int) (b : List Int) : Int × List Int × Bool := if two n a m b then (n, mulm n.toNat a b, true) else (0, [], false)
theorem two_iff {n m : Int} {a b : List Int} : two n a m b = true ↔ mv n a = true ∧ mv m b = true ∧ n = m := by simp [two]
theorem cv_bd {a : Int} (h : cv a = true) : 0 ≤ a ∧ a ≤ 1000000 := cv_iff.1 h
theorem cv_dot {n : Nat} {f : Nat → Int} (h : ∀ l, l < n → 0 ≤ f l) : cv (dotTo f n) = true := cv_iff.2 (dotTo_bd h)
theorem mv_mulm {n : Nat} (h1 : 1 ≤ n) (h4 : n ≤ 4) {a b : List Int} (hla : a.length = n * n) (hlb : b.length = n * n) (hca : ∀ x ∈ a, cv x = true) (hcb : ∀ x ∈ b, cv x = true) : mv (n : Int) (mulm n a b) = true :=
  mv_cells h1 h4 fun i j hi hj => cv_dot fun l hl => (addc_bd (cv_iff.1 (cv_ent hla hca hi hl)).1 (cv_iff.1 (cv_ent hlb hcb hl hj)).1).1
theorem mv_minm {n : Nat} (h1 : 1 ≤ n) (h4 : n ≤ 4) {a b : List Int} (hla : a.length = n * n) (hlb : b.length = n * n) (hca : ∀ x ∈ a, cv x = true) (hcb : ∀ x ∈ b, cv x = true) : mv (n : Int) (minm n a b) = true :=
  mv_cells h1 h4 fun i j hi hj => by
    have c1 := cv_iff.1 (cv_ent hla hca hi hj)
    have c2 := cv_iff.1 (cv_ent hlb hcb hi hj)
    rw [cv_iff]
    omega
theorem mv_turnm {n : Nat} (h1 : 1 ≤ n) (h4 : n ≤ 4) {a : List Int} (hla : a.length = n * n) (hca : ∀ x ∈ a, cv x = true) : mv (n : Int) (turnm n a) = true :=
  mv_cells h1 h4 fun i j hi hj => cv_ent hla hca hj hi
theorem mv_unitm {n : Nat} (h1 : 1 ≤ n) (h4 : n ≤ 4) : mv (n : Int) (unitm n) = true :=
  mv_cells h1 h4 fun i j hi hj => by
    by_cases e : i = j <;> simp [e, cv]
/-- A matrix of so many rows that is valid. -/
structure Ok (n : Nat) (l : List Int) : Prop where
  h1 : 1 ≤ n
  h4 : n ≤ 4
  len : l.length = n * n
  all : ∀ x ∈ l, cv x = true
theorem ok_of {n : Nat} {l : List Int} (h : mv (n : Int) l = true) : Ok n l := by
  obtain ⟨m, hm, h1, h4, hl, hc⟩ := mv_nat h
  obtain rfl : n = m := by omega
  exact ⟨h1, h4, hl, hc⟩
theorem Ok.mv {n : Nat} {l : List Int} (h : Ok n l) : mv (n : Int) l = true := by
  rw [mv_iff]
  refine ⟨⟨by have := h.h1; omega, by have := h.h4; omega, ?_⟩, by simpa using h.all⟩
  rw [h.len, Int.natCast_mul]
theorem Ok.two {n : Nat} {a b : List Int} (ha : Ok n a) (hb : Ok n b) : two (n : Int) a (n : Int) b = true := two_iff.2 ⟨ha.mv, hb.mv, rfl⟩
theorem Ok.mul {n : Nat} {a b : List Int} (ha : Ok n a) (hb : Ok n b) : Ok n (mulm n a b) := ok_of (mv_mulm ha.h1 ha.h4 ha.len hb.len ha.all hb.all)
theorem Ok.min {n : Nat} {a b : List Int} (ha : Ok n a) (hb : Ok n b) : Ok n (minm n a b) := ok_of (mv_minm ha.h1 ha.h4 ha.len hb.len ha.all hb.all)
theorem Ok.turn {n : Nat} {a : List Int} (ha : Ok n a) : Ok n (turnm n a) := ok_of (mv_turnm ha.h1 ha.h4 ha.len ha.all)
theorem Ok.unit {n : Nat} (h1 : 1 ≤ n) (h4 : n ≤ 4) : Ok n (unitm n) := ok_of (mv_unitm h1 h4)
theorem Ok.short {n : Nat} {a : List Int} (ha : Ok n a) : a.length ≤ 16 := by rw [ha.len]; exact sq16 ha.h4
theorem mulR_ok {n : Nat} {a b : List Int} (ha : Ok n a) (hb : Ok n b) : mulR (n : Int) a (n : Int) b = ((n : Int), mulm n a b, true) := by rw [mulR, if_pos (ha.two hb), Int.toNat_natCast]
theorem minR_ok {n : Nat} {a b : List Int} (ha : Ok n a) (hb : Ok n b) : minR (n : Int) a (n : Int) b = ((n : Int), minm n a b, true) := by rw [minR, if_pos (ha.two hb), Int.toNat_natCast]
theorem turnR_ok {n : Nat} {a : List Int} (ha : Ok n a) : turnR (n : Int) a = ((n : Int), turnm n a, true) := by rw [turnR, if_pos ha.mv, Int.toNat_natCast]
theorem unitR_ok {n : Nat} (h1 : 1 ≤ n) (h4 : n ≤ 4) : unitR (n : Int) = ((n : Int), unitm n, true) := by rw [unitR, if_pos (by omega), Int.toNat_natCast]
theorem mv_ok {n : Int} {l : List Int} (h : _root_.Go.Proofs.Ytojfbgegankddaa.Pure.mv n l = true) : ∃ m : Nat, n = (m : Int) ∧ Ok m l := by
  obtain ⟨m, hm, h1, h4, hl, hc⟩ := mv_nat h
  exact ⟨m, hm, h1, h4, hl, hc⟩
theorem sOk_iff {n : Int} {s : S32} : sOk n s = true ↔ (0 ≤ s.f0 ∧ s.f0 < n ∧ 0 ≤ s.f2 ∧ s.f2 < n ∧ 0 ≤ s.f3 ∧ s.f3 ≤ 3) ∧ (s.f1.toList = [97] ∨ s.f1.toList = [98]) := by
  simp [sOk, sA, sB]
theorem stepsOk_mem {n : Int} {l : List S32} (h : stepsOk n l = true) {s : S32} (hs : s ∈ l) : sOk n s = true := by
  obtain ⟨i, hi, rfl⟩ := List.mem_iff_getElem.1 hs
  have := allFrom_iff.1 h i (by omega) hi
  simp only [sAt, Bool.and_eq_true, rdI_nat hi] at this
  exact this.1
theorem av_nat {n : Int} {l1 l2 : List Int} {l3 : List S32} (h : av n l1 l2 l3 = true) : ∃ m : Nat, n = (m : Int) ∧ 1 ≤ m ∧ m ≤ 4 ∧ asc n l1 = true ∧ asc n l2 = true ∧ l3.length ≤ 24 ∧ stepsOk n l3 = true := by
  simp only [av, Bool.and_eq_true, decide_eq_true_eq] at h
  obtain ⟨⟨h1, h4⟩, ha, hb, hl, hs⟩ := h
  obtain ⟨m, rfl⟩ := Int.eq_ofNat_of_zero_le (show 0 ≤ n by omega)
  exact ⟨m, rfl, by omega, by omega, ha, hb, hl, hs⟩
/-- A step's cost put into a matrix. -/
def putS (n : Nat) (c : ByteArray) (m : List Int) (s : S32) : List Int := if s.f1.toList = c.toList then m.set (s.f0 * (n : Int) + s.f2).toNat s.f3 else m
/-- The matrix of the steps by a letter. -/
def stepmat (n : Nat) (c : ByteArray) (l : List S32) : List Int := l.foldl (putS n c) (List.replicate (n * n) 1000000)
theorem putS_len (n : Nat) (c : ByteArray) (m : List Int) (s : S32) : (putS n c m s).length = m.length := by
  unfold putS
  split <;> simp
theorem foldS_len (n : Nat) (c : ByteArray) (l : List S32) : ∀ m : List Int, (l.foldl (putS n c) m).length = m.length := by
  induction l with
  | nil => intro m; rfl
  | cons s l ih => intro m; rw [List.foldl_cons, ih, putS_len]
theorem stepmat_len (n : Nat) (c : ByteArray) (l : List S32) : (stepmat n c l).length = n * n := by rw [stepmat, foldS_len]; simp
theorem foldS_cv {n : Nat} (c : ByteArray) (l : List S32) (hl : ∀ s ∈ l, sOk (n : Int) s = true) : ∀ m : List Int, (∀ x ∈ m, cv x = true) → ∀ x ∈ l.foldl (putS n c) m, cv x = true := by
  induction l with
  | nil => intro m h; exact h
  | cons s l ih =>
    intro m h
    rw [List.foldl_cons]
    refine ih (fun s hs => hl s (List.mem_cons_of_mem _ hs)) _ ?_
    intro x hx
    unfold putS at hx
    split at hx
    · rcases List.mem_or_eq_of_mem_set hx with e | e
      · exact h x e
      · have := (sOk_iff.1 (hl s List.mem_cons_self)).1
        subst e
        exact cv_iff.2 (by omega)
    · exact h x hx
theorem stepmat_ok {n : Nat} (h1 : 1 ≤ n) (h4 : n ≤ 4) (c : ByteArray) {l : List S32} (hl : ∀ s ∈ l, sOk (n : Int) s = true) : Ok n (stepmat n c l) :=
  ⟨h1, h4, stepmat_len n c l, foldS_cv c l hl _ fun x hx => by rw [(List.mem_replicate.1 hx).2]; rfl⟩
def stepR (n : Int) (l1 l2 : List Int) (l3 : List S32) (c : ByteArray) : Int × List Int × Bool := if av n l1 l2 l3 && (sA c || sB c) then (n, stepmat n.toNat c l3, true) else (0, [], false)
theorem step_at {n : Nat} (h4 : n ≤ 4) {s : S32} (h : sOk (n : Int) s = true) : ∃ q : Nat, q < n * n ∧ wrap64 ((wrap64 (s.f0 * (n : Int))) + s.f2) = (q : Int) ∧ (s.f0 * (n : Int) + s.f2).toNat = q := by
  have hb := (sOk_iff.1 h).1
  obtain ⟨i, hi⟩ := Int.eq_ofNat_of_zero_le hb.1
  obtain ⟨j, hj⟩ := Int.eq_ofNat_of_zero_le hb.2.2.1
  have hi4 : i < n := by omega
  have hj4 : j < n := by omega
  refine ⟨i * n + j, idx_lt hi4 hj4, ?_, ?_⟩
  · rw [hi, hj]; exact idx_wrap h4 hi4 hj4
  · rw [hi, hj, ← Int.natCast_mul, ← Int.natCast_add, Int.toNat_natCast]
theorem stepsOk_iff {n : Int} {l : List S32} : stepsOk n l = true ↔ (∀ s ∈ l, sOk n s = true) ∧ inOrder l := by
  constructor
  · intro h
    refine ⟨fun s hs => stepsOk_mem h hs, ?_⟩
    have adj : ∀ j (hj : j + 1 < l.length), sLt l[j] l[j + 1] = true := fun j hj => by
      have := allFrom_iff.1 h (j + 1) (by omega) hj
      simp only [sAt, Bool.and_eq_true, Bool.or_eq_true, decide_eq_true_eq] at this
      rcases this.2 with h0 | h0
      · omega
      · rw [show j + 1 - 1 = j by omega, rdI_nat (show j < l.length by omega), rdI_nat hj] at h0
        exact h0
    refine List.pairwise_iff_getElem.2 fun i j hi hj hij => ?_
    have key : ∀ d (hd : i + d + 1 < l.length), sLt l[i] l[i + d + 1] = true := by
      intro d
      induction d with
      | zero => intro hd; exact adj i hd
      | succ d ih => intro hd; exact sLt_trans _ _ _ (ih (by omega)) (adj (i + d + 1) hd)
    obtain ⟨d, rfl⟩ : ∃ d, j = i + d + 1 := ⟨j - i - 1, by omega⟩
    exact key d hj
  · rintro ⟨h1, h2⟩
    refine allFrom_iff.2 fun j _ hj => ?_
    simp only [sAt, Bool.and_eq_true, Bool.or_eq_true, decide_eq_true_eq, rdI_nat hj]
    refine ⟨h1 _ (List.getElem_mem hj), ?_⟩
    by_cases h0 : j = 0
    · exact .inl h0
    · right
      rw [rdI_nat (show j - 1 < l.length by omega)]
      exact List.pairwise_iff_getElem.1 h2 (j - 1) j (by omega) hj (by omega)
theorem sOk_rev {n : Int} {s : S32} : sOk n (revS s) = true ↔ sOk n s = true := by
  rw [sOk_iff, sOk_iff]
  show (0 ≤ s.f2 ∧ s.f2 < n ∧ 0 ≤ s.f0 ∧ s.f0 < n ∧ 0 ≤ s.f3 ∧ s.f3 ≤ 3) ∧ _ ↔ _
  constructor
  · rintro ⟨⟨a, b, c, d, e, f⟩, g⟩
    exact ⟨⟨c, d, a, b, e, f⟩, g⟩
  · rintro ⟨⟨a, b, c, d, e, f⟩, g⟩
    exact ⟨⟨c, d, a, b, e, f⟩, g⟩
theorem insS_len (s : S32) : ∀ l : List S32, (insS s l).length = l.length + 1
  | [] => rfl
  | t :: l => by
    unfold insS
    split
    · rw [List.length_cons, insS_len s l, List.length_cons]
    · rfl
theorem insAll_len : ∀ (l m : List S32), (insAll l m).length = l.length + m.length
  | [], m => by simp [insAll]
  | s :: l, m => by
    show (insAll l (insS s m)).length = _
    rw [insAll_len l, insS_len, List.length_cons]
    omega
theorem revL_len (l : List S32) : (revL l).length = l.length := by
  unfold revL
  rw [insAll_len, List.length_map]
  rfl
theorem av_rev {n : Int} {l1 l2 : List Int} {l3 : List S32} (h : av n l1 l2 l3 = true) : av n l2 l1 (revL l3) = true := by
  simp only [av, Bool.and_eq_true, decide_eq_true_eq] at h ⊢
  obtain ⟨h1, ha, hb, hl, hs⟩ := h
  obtain ⟨hk, ho⟩ := stepsOk_iff.1 hs
  refine ⟨h1, hb, ha, by rw [revL_len]; exact hl, stepsOk_iff.2 ⟨fun s hs => ?_, revL_order ho⟩⟩
  exact sOk_rev.1 (hk _ ((revL_mem l3 s).1 hs))
theorem av_free {n : Int} {l1 l2 : List Int} {l3 : List S32} (h : av n l1 l2 l3 = true) (p : S32 → Bool) : av n l1 l2 (l3.filter p) = true := by
  simp only [av, Bool.and_eq_true, decide_eq_true_eq] at h ⊢
  obtain ⟨h1, ha, hb, hl, hs⟩ := h
  obtain ⟨hk, ho⟩ := stepsOk_iff.1 hs
  refine ⟨h1, ha, hb, Nat.le_trans (List.length_filter_le _ _) hl, stepsOk_iff.2 ⟨fun s hs => hk s (List.mem_filter.1 hs).1, filter_order ho p⟩⟩
theorem asc_lt {n : Int} {l : List Int} (h : asc n l = true) : ∀ i j (hi : i < l.length) (hj : j < l.length), i < j → l[i] < l[j] := by
  have adj : ∀ j (hj : j + 1 < l.length), l[j] < l[j + 1] := fun j hj => by
    have := (asc_iff.1 h (j + 1) hj).2.2 (by omega)
    rw [show j + 1 - 1 = j by omega, rd_nat (show j < l.length by omega), rd_nat hj] at this
    exact this
  have key : ∀ d i (hd : i + d + 1 < l.length), l[i] < l[i + d + 1] := by
    intro d
    induction d with
    | zero => intro i hd; exact adj i hd
    | succ d ih => intro i hd; exact Int.lt_trans (ih i (by omega)) (adj (i + d + 1) hd)
  intro i j hi hj hij
  obtain ⟨d, rfl⟩ : ∃ d, j = i + d + 1 := ⟨j - i - 1, by omega⟩
  exact key d i hj
theorem asc_pair {n : Int} {l : List Int} (h : asc n l = true) : l.Pairwise fun x y => decide (x ≤ y) = true :=
  List.pairwise_iff_getElem.2 fun i j hi hj hij => decide_eq_true (Int.le_of_lt (asc_lt h i j hi hj hij))
theorem asc_short {n : Int} (hn : n ≤ 4) {l : List Int} (h : asc n l = true) : l.length ≤ 4 := by
  have key : ∀ j (hj : j < l.length), (j : Int) ≤ l[j] := by
    intro j
    induction j with
    | zero => intro hj; have := (asc_iff.1 h 0 hj).1; rw [rd_nat hj] at this; simpa using this
    | succ j ih => intro hj; have h1 := ih (by omega); have h2 := asc_lt h j (j + 1) (by omega) hj (by omega); omega
  rcases Nat.lt_or_ge 4 l.length with h4 | h4
  · have h1 := key 4 h4
    have h2 := (asc_iff.1 h 4 h4).2.1
    rw [rd_nat h4] at h2
    omega
  · exact h4
theorem so_is : Go.Proofs.ltOf so_ordS = sLt := so_ltOf
theorem srt_eq {l m : List S32} (hn : l.Pairwise fun s t => ¬ sameKey s t) (hm : inOrder m) (hmem : ∀ x, x ∈ m ↔ x ∈ l) : slices_SortFunc_Step_at_impl_stepOrder.srt l = m := by
  obtain ⟨hp, hs⟩ := slices_SortFunc_Step_at_impl_stepOrder.perm l
  rw [so_is] at hs
  rw [List.size_toArray] at hp hs
  have := sorted_eq hn hp hs hm hmem
  simpa using this
theorem impl_made_ev {n : Int} {l1 l2 : List Int} {l3 m : List S32} (h : av n l1 l2 m = true) (hl : l3.length ≤ 24) (hn : l3.Pairwise fun s t => ¬ sameKey s t) (hmem : ∀ x, x ∈ m ↔ x ∈ l3) : Ev (fun k => impl_made.f k n l1 l2 l3) (n, l1, l2, m, true) := by
  have h0 := h
  simp only [av, Bool.and_eq_true, decide_eq_true_eq] at h
  obtain ⟨⟨h1, h4⟩, ha, hb, hm, hs⟩ := h
  have c1 := asc_short h4 ha
  have c2 := asc_short h4 hb
  have e3 := srt_eq hn (stepsOk_iff.1 hs).2 hmem
  simp only [impl_made.f, slices_Clone_int_int.f, slices_Clone_Step.f, slices_Sort_int_int.f, slices_SortFunc_Step_at_impl_stepOrder.f, if_pos (show l1.length ≤ 1000 by omega), if_pos (show l2.length ≤ 1000 by omega), if_pos (show l3.length ≤ 1000 by omega), Option.bind_some, List.mergeSort_of_pairwise (asc_pair ha), List.mergeSort_of_pairwise (asc_pair hb), e3]
  have hv := impl_AutomatonValid_ev n l1 l2 m (by omega) (by omega) (by omega)
  rw [h0] at hv
  refine Ev.bind hv ?_
  simp only [if_true]
  exact Ev.now _
theorem av_len {n : Int} {l1 l2 : List Int} {l3 : List S32} (h : av n l1 l2 l3 = true) : 1 ≤ n ∧ n ≤ 4 ∧ l1.length ≤ 4 ∧ l2.length ≤ 4 ∧ l3.length ≤ 24 ∧ inOrder l3 := by
  simp only [av, Bool.and_eq_true, decide_eq_true_eq] at h
  obtain ⟨⟨h1, h4⟩, ha, hb, hm, hs⟩ := h
  exact ⟨h1, h4, asc_short h4 ha, asc_short h4 hb, hm, (stepsOk_iff.1 hs).2⟩
theorem spec_l3Marks_ev (n : Int) (h1 : 1 ≤ n) (h4 : n ≤ 4) (l : List Int) (hl : l.length < 9223372036854775807) : Ev (fun k => spec_l3Marks.f k n l) (asc n l) := by
  have h := down l.length (P := fun i => Ev (fun k => spec_l3Marks.l0 k n l l (l.length : Int) (i : Int)) (allFrom (ascAt n l) l.length i)) ?_ ?_ 0 (by omega)
  · simpa only [spec_l3Marks.f, asc, cast0] using h
  · refine Ev.step (fun k => rfl) ?_
    simp only [spec_l3Marks.l0, if_neg (show ¬ (l.length : Int) < (l.length : Int) by omega), allFrom_end]
    exact Ev.now _
  · intro i hi ih
    refine Ev.step (fun k => rfl) ?_
    simp only [spec_l3Marks.l0, if_pos (show (i : Int) < (l.length : Int) by omega), if_pos (nnc i), spec_l1In_eq, Option.bind_some, w64n (show i < 9223372036854775807 by omega), w64 (show -9223372036854775808 ≤ n - 1 by omega) (show n - 1 ≤ 9223372036854775807 by omega)]
    rw [allFrom_step hi]
    by_cases hc : 0 ≤ rd l i ∧ rd l i ≤ n - 1
    · simp only [show decide (0 ≤ rd l i ∧ rd l i ≤ n - 1) = true by simpa using hc, if_true]
      by_cases h0 : i = 0
      · subst h0
        simp only [cast0, if_neg (show ¬ (0 : Int) > 0 by omega)]
        exact ev_to ih (by simp [ascAt, show (0 : Int) ≤ rd l 0 from hc.1, show rd l 0 < n by have := hc.2; simp at this; omega])
      · simp only [if_pos (show (i : Int) > 0 by omega), pred_w (show 0 < i by omega) (show i < 9223372036854775807 by omega), if_pos (nnc (i - 1)), if_pos (show ((i - 1 : Nat) : Int) < (l.length : Int) by omega)]
        by_cases hb : rd l ((i - 1 : Nat) : Int) ≥ rd l i
        · simp only [if_pos hb]
          exact ev_to (Ev.now _) (by simp [ascAt, h0, show ¬ rd l ((i - 1 : Nat) : Int) < rd l i by omega])
        · simp only [if_neg hb]
          exact ev_to ih (by simp [ascAt, hc.1, show rd l i < n by omega, show rd l ((i - 1 : Nat) : Int) < rd l i by omega])
    · simp only [show decide (0 ≤ rd l i ∧ rd l i ≤ n - 1) = false by simpa using hc, Bool.false_eq_true, if_false]
      refine ev_to (Ev.now _) ?_
      by_cases ha : 0 ≤ rd l i
      · simp [ascAt, show ¬ rd l i < n by omega]
      · simp [ascAt, ha]
theorem spec_AutomatonValid_steps {n : Int} (h1 : 1 ≤ n) (h4 : n ≤ 4) (l1 l2 : List Int) (l3 : List S32) (h3 : l3.length < 9223372036854775807) : Ev (fun k => spec_AutomatonValid.l0 k l3 (l3.length : Int) 0 n l1 l2 l3) (stepsOk n l3) := by
  have h := down l3.length (P := fun i => Ev (fun k => spec_AutomatonValid.l0 k l3 (l3.length : Int) (i : Int) n l1 l2 l3) (allFrom (sAt n l3) l3.length i)) ?_ ?_ 0 (by omega)
  · simpa only [stepsOk, cast0] using h
  · refine Ev.step (fun k => rfl) ?_
    simp only [spec_AutomatonValid.l0, if_neg (show ¬ (l3.length : Int) < (l3.length : Int) by omega), allFrom_end]
    exact Ev.now _
  · intro i hi ih
    refine Ev.step (fun k => rfl) ?_
    simp only [spec_AutomatonValid.l0, if_pos (show (i : Int) < (l3.length : Int) by omega), if_pos (nnc i), spec_l3Step_eq h1 h4, spec_l3Before_eq, Option.bind_some, w64n (show i < 9223372036854775807 by omega)]
    rw [allFrom_step hi]
    cases hs : sOk n (rd_T32 l3 (i : Int)) with
    | false =>
      simp only [Bool.false_eq_true, if_false]
      exact ev_to (Ev.now _) (by simp [sAt, hs])
    | true =>
      simp only [if_true]
      by_cases h0 : i = 0
      · subst h0
        simp only [cast0, if_neg (show ¬ (0 : Int) > 0 by omega)]
        exact ev_to ih (by simp only [cast0] at hs; simp [sAt, hs])
      · simp only [if_pos (show (i : Int) > 0 by omega), pred_w (show 0 < i by omega) (show i < 9223372036854775807 by omega), if_pos (nnc (i - 1)), if_pos (show ((i - 1 : Nat) : Int) < (l3.length : Int) by omega)]
        cases hb : sLt (rd_T32 l3 ((i - 1 : Nat) : Int)) (rd_T32 l3 (i : Int)) with
        | false =>
          simp only [Bool.false_eq_true, if_false]
          exact ev_to (Ev.now _) (by simp [sAt, h0, hb])
        | true =>
          simp only [if_true]
          exact ev_to ih (by simp [sAt, hs, hb])
theorem spec_AutomatonValid_ev (n : Int) (l1 l2 : List Int) (l3 : List S32) (h1 : l1.length < 9223372036854775807) (h2 : l2.length < 9223372036854775807) (h3 : l3.length < 9223372036854775807) : Ev (fun k => spec_AutomatonValid.f k n l1 l2 l3) (av n l1 l2 l3) := by
  have hno : Ev (fun k => spec_AutomatonValid.j0 k true n l1 l2 l3) false := by
    refine Ev.step (fun k => rfl) ?_
    simp only [spec_AutomatonValid.j0, if_true]
    exact Ev.now _
  simp only [spec_AutomatonValid.f, spec_l1In_eq, Option.bind_some]
  by_cases c0 : 1 ≤ n ∧ n ≤ 4
  · simp only [show decide (1 ≤ n ∧ n ≤ 4) = true by simpa using c0, if_true]
    refine Ev.bind (spec_l3Marks_ev n c0.1 c0.2 l1 h1) ?_
    cases e1 : asc n l1 with
    | false =>
      simp only [Bool.false_eq_true, if_false]
      exact ev_to hno (by simp [av, e1])
    | true =>
      simp only [if_true]
      refine Ev.bind (spec_l3Marks_ev n c0.1 c0.2 l2 h2) ?_
      cases e2 : asc n l2 with
      | false =>
        simp only [Bool.false_eq_true, if_false]
        exact ev_to hno (by simp [av, e2])
      | true =>
        simp only [if_true]
        by_cases c3 : (l3.length : Int) > 24
        · simp only [c3, decide_true]
          exact ev_to hno (by simp [av, show ¬ l3.length ≤ 24 by omega])
        · simp only [c3, decide_false]
          refine Ev.step (fun k => rfl) ?_
          simp only [spec_AutomatonValid.j0, Bool.false_eq_true, if_false]
          exact ev_to (spec_AutomatonValid_steps c0.1 c0.2 l1 l2 l3 h3) (by simp [av, e1, e2, c0.1, c0.2, show l3.length ≤ 24 by omega])
  · simp only [show decide (1 ≤ n ∧ n ≤ 4) = false by simpa using c0, Bool.false_eq_true, if_false]
    exact ev_to hno (by simp only [av]; rw [show decide (1 ≤ n ∧ n ≤ 4) = false by simpa using c0]; rfl)
theorem spec_Own_eq (n : Int) (l1 l2 : List Int) (l3 : List S32) (h1 : l1.length ≤ 1000000000) (h2 : l2.length ≤ 1000000000) (h3 : l3.length ≤ 1000000000) : spec_l13OwnAutomaton.f n l1 l2 l3 = some (n, l1, l2, l3) := by
  simp only [spec_l13OwnAutomaton.f, Option.bind_some, List.length_nil, List.nil_append]
  rw [if_pos (by omega), if_pos (by omega), if_pos (by omega)]
def free0 (s : S32) : Bool := decide (s.f3 = 0)
theorem idx_free (l : List S32) (hl : l.length ≤ 1000000) : ∃ r, Ev (fun k => slices_IndexFunc_Step_at_impl_FreeAutomaton_1.f k l) r ∧ ((r = -1 ∧ ∀ s ∈ l, free0 s = true) ∨ ∃ (j : Nat) (hj : j < l.length), r = (j : Int) ∧ free0 l[j] = false ∧ ∀ s ∈ l.take j, free0 s = true) := by
  have h := down l.length (P := fun i => (∀ s ∈ l.take i, free0 s = true) → ∃ r, Ev (fun k => slices_IndexFunc_Step_at_impl_FreeAutomaton_1.l0 k l (l.length : Int) (i : Int)) r ∧ ((r = -1 ∧ ∀ s ∈ l, free0 s = true) ∨ ∃ (j : Nat) (hj : j < l.length), r = (j : Int) ∧ free0 l[j] = false ∧ ∀ s ∈ l.take j, free0 s = true)) ?_ ?_ 0 (by omega) (by simp)
  · simpa only [slices_IndexFunc_Step_at_impl_FreeAutomaton_1.f, cast0] using h
  · intro ha
    refine ⟨-1, Ev.step (fun k => rfl) ?_, .inl ⟨rfl, by rwa [List.take_length] at ha⟩⟩
    simp only [slices_IndexFunc_Step_at_impl_FreeAutomaton_1.l0, if_neg (show ¬ (l.length : Int) < (l.length : Int) by omega)]
    exact Ev.now _
  · intro i hi ih ha
    by_cases c : l[i].f3 = 0
    · obtain ⟨r, hr, hq⟩ := ih (fun s hs => by
        rw [List.take_succ_eq_append_getElem hi, List.mem_append, List.mem_singleton] at hs
        rcases hs with hs | rfl
        · exact ha s hs
        · exact decide_eq_true c)
      refine ⟨r, Ev.step (fun k => rfl) ?_, hq⟩
      simp only [slices_IndexFunc_Step_at_impl_FreeAutomaton_1.l0, if_pos (show (i : Int) < (l.length : Int) by omega), if_pos (nnc i), rdI_nat hi, impl_FreeAutomaton_1.f, Option.bind_some, c, bne_self_eq_false, Bool.false_eq_true, if_false, w64n (show i < 9223372036854775807 by omega)]
      exact hr
    · refine ⟨(i : Int), Ev.step (fun k => rfl) ?_, .inr ⟨i, hi, rfl, decide_eq_false c, ha⟩⟩
      simp only [slices_IndexFunc_Step_at_impl_FreeAutomaton_1.l0, if_pos (show (i : Int) < (l.length : Int) by omega), if_pos (nnc i), rdI_nat hi, impl_FreeAutomaton_1.f, Option.bind_some, bne_iff_ne.2 c, if_true]
      exact Ev.now _
theorem del_free (l : List S32) (hl : l.length ≤ 1000000) : Ev (fun k => slices_DeleteFunc_Step_at_impl_FreeAutomaton_1.f k l) (l.filter free0) := by
  obtain ⟨r, hr, hq⟩ := idx_free l hl
  simp only [slices_DeleteFunc_Step_at_impl_FreeAutomaton_1.f]
  refine Ev.bind hr ?_
  rcases hq with ⟨rfl, ha⟩ | ⟨j0, hj0, rfl, hf, ha⟩
  · simp only [if_true]
    exact ev_to (Ev.now _) (List.filter_eq_self.2 ha).symm
  · simp only [if_neg (show ¬ (j0 : Int) = -1 by omega), w64n (show j0 < 9223372036854775807 by omega)]
    have h := down l.length (P := fun j => ∀ (x : List S32) (i : Nat), x.length = l.length → i ≤ j → x.take i = (l.take j).filter free0 → x.drop j = l.drop j → Ev (fun k => slices_DeleteFunc_Step_at_impl_FreeAutomaton_1.l0 k x (i : Int) (j : Int)) (l.filter free0)) ?_ ?_ (j0 + 1) (by omega) l j0 rfl (by omega) ?_ rfl
    · exact h
    · intro x i hx hi ht _
      refine Ev.step (fun k => rfl) ?_
      simp only [slices_DeleteFunc_Step_at_impl_FreeAutomaton_1.l0, hx, if_neg (show ¬ (l.length : Int) < (l.length : Int) by omega), if_pos (nnc i), if_pos (show (i : Int) ≤ (l.length : Int) by omega), Int.toNat_natCast]
      rw [List.take_length] at ht
      exact ev_to (Ev.now _) ht
    · intro j hj ih x i hx hi ht hd
      have hjx : j < x.length := by omega
      have e : x[j] = l[j] := by
        have h0 := congrArg (fun z => z[0]?) hd
        simp only [List.getElem?_drop, Nat.add_zero, List.getElem?_eq_getElem hj, List.getElem?_eq_getElem hjx, Option.some.injEq] at h0
        exact h0
      have hd' : x.drop (j + 1) = l.drop (j + 1) := by
        have h0 := congrArg (fun z => z.drop 1) hd
        simpa only [List.drop_drop] using h0
      refine Ev.step (fun k => rfl) ?_
      by_cases c : l[j].f3 = 0
      · simp only [slices_DeleteFunc_Step_at_impl_FreeAutomaton_1.l0, if_pos (show (j : Int) < (x.length : Int) by omega), if_pos (nnc j), rdI_nat hjx, e, impl_FreeAutomaton_1.f, Option.bind_some, c, bne_self_eq_false, Bool.false_eq_true, if_false, if_pos (nnc i), if_pos (show (i : Int) < (x.length : Int) by omega), Int.toNat_natCast, w64n (show j < 9223372036854775807 by omega), w64n (show i < 9223372036854775807 by omega)]
        have ev : (⟨l[j].f0, l[j].f1, l[j].f2, 0⟩ : S32) = l[j] := by rw [← c]
        rw [ev]
        refine ih _ _ (by rw [List.length_set]; exact hx) (by omega) ?_ ?_
        · rw [List.take_succ_eq_append_getElem (l := x.set i l[j]) (by rw [List.length_set]; omega), List.getElem_set_self, List.take_set, List.set_eq_of_length_le (by rw [List.length_take]; omega), ht, List.take_succ_eq_append_getElem hj, List.filter_append]
          congr 1
          simp [List.filter, free0, c]
        · rw [List.drop_set_of_lt (by omega)]
          exact hd'
      · simp only [slices_DeleteFunc_Step_at_impl_FreeAutomaton_1.l0, if_pos (show (j : Int) < (x.length : Int) by omega), if_pos (nnc j), rdI_nat hjx, e, impl_FreeAutomaton_1.f, Option.bind_some, bne_iff_ne.2 c, if_true, w64n (show j < 9223372036854775807 by omega)]
        refine ih _ _ hx (by omega) ?_ hd'
        rw [ht, List.take_succ_eq_append_getElem hj, List.filter_append]
        simp [List.filter, free0, c]
    · rw [List.take_succ_eq_append_getElem hj0, List.filter_append, List.filter_eq_self.2 ha]
      simp [List.filter, hf]
/-- The steps that cost nothing, or no automaton. -/
def freeR (n : Int) (l1 l2 : List Int) (l3 : List S32) : Int × List Int × List Int × List S32 × Bool := if av n l1 l2 l3 = true then (n, l1, l2, l3.filter free0, true) else (0, [], [], [], false)
theorem impl_FreeAutomaton_ev (n : Int) (l1 l2 : List Int) (l3 : List S32) (h1 : l1.length < 9223372036854775807) (h2 : l2.length < 9223372036854775807) (h3 : l3.length < 9223372036854775807) : Ev (fun k => impl_FreeAutomaton.f k n l1 l2 l3) (freeR n l1 l2 l3) := by
  simp only [impl_FreeAutomaton.f]
  refine Ev.bind (impl_AutomatonValid_ev n l1 l2 l3 h1 h2 h3) ?_
  unfold freeR
  cases hv : av n l1 l2 l3 with
  | false =>
    simp only [Bool.false_eq_true, if_false]
    exact Ev.now _
  | true =>
    obtain ⟨_, _, _, _, hl, ho⟩ := av_len hv
    simp only [if_true, slices_Clone_Step.f, if_pos (show l3.length ≤ 1000 by omega), Option.bind_some]
    exact Ev.bind (del_free l3 (by omega)) (Ev.bind (impl_made_ev (av_free hv free0) (Nat.le_trans (List.length_filter_le _ _) hl) (key_apart (filter_order ho free0)) fun _ => Iff.rfl) (Ev.now _))
theorem spec_FreeAutomaton_ev (n : Int) (l1 l2 : List Int) (l3 : List S32) (h1 : l1.length ≤ 1000000000) (h2 : l2.length ≤ 1000000000) (h3 : l3.length ≤ 1000000000) : Ev (fun k => spec_FreeAutomaton.f k n l1 l2 l3) (freeR n l1 l2 l3) := by
  simp only [spec_FreeAutomaton.f, spec_Own_eq n l1 l2 l3 h1 h2 h3, Option.bind_some]
  refine Ev.bind (spec_AutomatonValid_ev n l1 l2 l3 (by omega) (by omega) (by omega)) ?_
  unfold freeR
  cases hv : av n l1 l2 l3 with
  | false =>
    simp only [Bool.false_eq_true, if_false]
    exact Ev.now _
  | true =>
    simp only [if_true]
    have h := down l3.length (P := fun i => Ev (fun k => spec_FreeAutomaton.l0 k l3 (l3.length : Int) (i : Int) n l1 l2 ((l3.take i).filter free0)) (n, l1, l2, l3.filter free0, true)) ?_ ?_ 0 (by omega)
    · simpa only [cast0, List.take_zero, List.filter_nil] using h
    · refine Ev.step (fun k => rfl) ?_
      simp only [spec_FreeAutomaton.l0, if_neg (show ¬ (l3.length : Int) < (l3.length : Int) by omega), List.take_length]
      exact Ev.now _
    · intro i hi ih
      refine Ev.step (fun k => rfl) ?_
      have hlen : ((l3.take i).filter free0).length < 3518437208883 := by
        have := List.length_filter_le free0 (l3.take i)
        rw [List.length_take] at this
        omega
      rw [List.take_succ_eq_append_getElem hi, List.filter_append] at ih
      by_cases c : l3[i].f3 = 0
      · simp only [spec_FreeAutomaton.l0, if_pos (show (i : Int) < (l3.length : Int) by omega), if_pos (nnc i), rdI_nat hi, if_pos c, if_pos hlen, w64n (show i < 9223372036854775807 by omega)]
        rw [show [l3[i]].filter free0 = [l3[i]] by simp [List.filter, free0, c]] at ih
        exact ih
      · simp only [spec_FreeAutomaton.l0, if_pos (show (i : Int) < (l3.length : Int) by omega), if_pos (nnc i), rdI_nat hi, if_neg c, w64n (show i < 9223372036854775807 by omega)]
        rw [show [l3[i]].filter free0 = [] by simp [List.filter, free0, c], List.append_nil] at ih
        exact ih
theorem laws_daSame_ev (a b : List Int) (ha : a.length < 9223372036854775807) : Ev (fun k => laws_daSame.f k a b) (decide (a = b)) := by
  have hm : mn (a.length : Int) (b.length : Int) = ((min a.length b.length : Nat) : Int) := by rw [mn_eq]; omega
  have h := down (min a.length b.length) (P := fun i => Ev (fun k => laws_daSame.l0 k a b ((min a.length b.length : Nat) : Int) (i : Int)) (decide (a.drop i = b.drop i))) ?_ ?_ 0 (by omega)
  · simpa only [laws_daSame.f, hm, List.drop_zero, cast0] using h
  · refine Ev.step (fun k => rfl) ?_
    simp only [laws_daSame.l0, if_neg (show ¬ ((min a.length b.length : Nat) : Int) < ((min a.length b.length : Nat) : Int) by omega)]
    refine ev_to (Ev.now _) ?_
    by_cases e : a.length = b.length
    · have e1 : min a.length b.length = a.length := by omega
      rw [e1, dropn, e, dropn]
      simp
    · rw [beq_eq_false_iff_ne.2 (by omega)]
      symm
      rw [decide_eq_false_iff_not]
      intro h
      have := congrArg List.length h
      simp at this
      omega
  · intro i hi ih
    have h1 : i < a.length := by omega
    have h2 : i < b.length := by omega
    refine Ev.step (fun k => rfl) ?_
    simp only [laws_daSame.l0, if_pos (show (i : Int) < ((min a.length b.length : Nat) : Int) by omega), if_pos (show (0 : Int) ≤ (i : Int) by omega), if_pos (show (i : Int) < (a.length : Int) by omega), if_pos (show (i : Int) < (b.length : Int) by omega), rd_nat h1, rd_nat h2, w64n (show i < 9223372036854775807 by omega)]
    by_cases e : a[i] = b[i]
    · simp only [if_pos e]
      exact ev_to ih (by rw [dropc h1, dropc h2]; simp only [List.cons.injEq, e, true_and])
    · simp only [if_neg e]
      exact ev_to (Ev.now false) (by rw [dropc h1, dropc h2]; simp only [List.cons.injEq, e, false_and, decide_false])
theorem laws_daAutomaton_self (n : Int) (l1 l2 : List Int) (l3 : List S32) (h1 : l1.length < 9223372036854775807) (h2 : l2.length < 9223372036854775807) (h3 : l3.length < 9223372036854775807) : Ev (fun k => laws_daAutomaton.f k n l1 l2 l3 n l1 l2 l3) true := by
  have hm : mn (l3.length : Int) (l3.length : Int) = (l3.length : Int) := by rw [mn_eq]; omega
  have h := down l3.length (P := fun i => Ev (fun k => laws_daAutomaton.l0 k (l3.length : Int) (i : Int) n l1 l2 l3 n l1 l2 l3) true) ?_ ?_ 0 (by omega)
  · simpa only [laws_daAutomaton.f, hm, cast0] using h
  · refine Ev.step (fun k => rfl) ?_
    simp only [laws_daAutomaton.l0, if_neg (show ¬ (l3.length : Int) < (l3.length : Int) by omega), if_true]
    refine Ev.bind (laws_daSame_ev l1 l1 h1) ?_
    simp only [decide_true, if_true]
    refine Ev.bind (laws_daSame_ev l2 l2 h2) ?_
    simp only [decide_true, if_true, beq_self_eq_true]
    exact Ev.now _
  · intro i hi ih
    refine Ev.step (fun k => rfl) ?_
    simp only [laws_daAutomaton.l0, if_pos (show (i : Int) < (l3.length : Int) by omega), if_pos (nnc i), beq_self_eq_true, Bool.not_true, Bool.or_self, Bool.false_eq_true, if_false, w64n (show i < 9223372036854775807 by omega)]
    exact ih
theorem spec_DrawFreeAutomaton_ev (l : List Int) (hl : ∀ x ∈ l, (Lit.int .u8 x).wf = true) : ∃ n l1 l2 l3, Ev (fun k => spec_DrawFreeAutomaton.f k l) (n, l1, l2, l3) ∧ l1.length ≤ 5 ∧ l2.length ≤ 4 ∧ l3.length ≤ 25 := by
  obtain ⟨s, hs, hr⟩ := spec_l13Open_ev l hl
  obtain ⟨n, l1, l2, l3, q, h, a, b, c, d, d'⟩ := spec_l3Any_ev hr (p := 0) (by omega)
  refine ⟨n, l1, l2, l3, ?_, a, b, c⟩
  simp only [spec_DrawFreeAutomaton.f, hs, Option.bind_some]
  exact Ev.bind h (Ev.now _)
theorem FF_l0 {n : Int} {l1 l2 : List Int} {l3 : List S32} (hv : av n l1 l2 l3 = true) (h1 : l1.length ≤ 5) (h2 : l2.length ≤ 4) (hl : l3.length ≤ 25) : Ev (fun k => laws_FnFree.l0 k 0 l3 (l3.length : Int) 0 n l1 l2 l3 n l1 l2 (l3.filter free0)) true := by
  have hfl : ∀ l : List S32, (l.filter free0).length ≤ l.length := fun l => List.length_filter_le _ _
  have hF := hfl l3
  have h := down l3.length (P := fun i => Ev (fun k => laws_FnFree.l0 k (((l3.take i).filter free0).length : Int) l3 (l3.length : Int) (i : Int) n l1 l2 l3 n l1 l2 (l3.filter free0)) true) ?_ ?_ 0 (by omega)
  · simpa only [cast0, List.take_zero, List.filter_nil, List.length_nil] using h
  · refine Ev.step (fun k => rfl) ?_
    have hff : (l3.filter free0).filter free0 = l3.filter free0 := by rw [List.filter_filter]; simp
    have hi := impl_FreeAutomaton_ev n l1 l2 (l3.filter free0) (by omega) (by omega) (by omega)
    rw [freeR, if_pos (av_free hv free0), hff] at hi
    simp only [laws_FnFree.l0, if_neg (show ¬ (l3.length : Int) < (l3.length : Int) by omega), List.take_length, if_true]
    refine Ev.bind hi (Ev.bind (laws_daAutomaton_self n l1 l2 (l3.filter free0) (by omega) (by omega) (by omega)) ?_)
    simp only [if_true]
    refine Ev.bind (laws_daSame_ev l1 l1 (by omega)) ?_
    simp only [decide_true, if_true]
    exact Ev.bind (ev_to (laws_daSame_ev l2 l2 (by omega)) (decide_eq_true rfl)) (Ev.now _)
  · intro i hi ih
    have ht := hfl (l3.take i)
    rw [List.length_take] at ht
    refine Ev.step (fun k => rfl) ?_
    rw [List.take_succ_eq_append_getElem hi, List.filter_append] at ih
    by_cases c : l3[i].f3 = 0
    · have hc : free0 l3[i] = true := decide_eq_true c
      have hsp : l3.filter free0 = (l3.take i).filter free0 ++ (l3[i] :: (l3.drop (i + 1)).filter free0) := by
        conv => lhs; rw [← List.take_append_drop i l3]
        rw [List.filter_append, List.drop_eq_getElem_cons hi, List.filter_cons_of_pos hc]
      have hlt : ((l3.take i).filter free0).length < (l3.filter free0).length := by rw [hsp, List.length_append, List.length_cons]; omega
      have hget : rd_T32 (l3.filter free0) (((l3.take i).filter free0).length : Int) = l3[i] := by
        rw [rdI_nat hlt]
        simp only [hsp, List.getElem_append_right (Nat.le_refl _), Nat.sub_self, List.getElem_cons_zero]
      rw [show [l3[i]].filter free0 = [l3[i]] by simp [List.filter, hc], List.length_append, List.length_cons, List.length_nil] at ih
      simp only [laws_FnFree.l0, if_pos (show (i : Int) < (l3.length : Int) by omega), if_pos (nnc i), rdI_nat hi, if_pos c, if_neg (show ¬ (((l3.take i).filter free0).length : Int) ≥ ((l3.filter free0).length : Int) by omega), if_pos (nnc _), if_pos (show (((l3.take i).filter free0).length : Int) < ((l3.filter free0).length : Int) by omega), hget, beq_self_eq_true, Bool.not_true, Bool.or_self, Bool.false_eq_true, if_false, w64n (show i < 9223372036854775807 by omega), w64n (show ((l3.take i).filter free0).length < 9223372036854775807 by omega)]
      exact ih
    · have hc : free0 l3[i] = false := decide_eq_false c
      rw [show [l3[i]].filter free0 = [] by simp [List.filter, hc], List.append_nil] at ih
      simp only [laws_FnFree.l0, if_pos (show (i : Int) < (l3.length : Int) by omega), if_pos (nnc i), rdI_nat hi, if_neg c, w64n (show i < 9223372036854775807 by omega)]
      exact ih
theorem FnFree : laws_FnFree.Pure := by
  intro l0 _ _ h0
  refine Ev.rounds ?_
  simp only [laws_FnFree.f]
  by_cases c : (l0.length : Int) > 1048576
  · simp only [if_pos c]
    exact Ev.now _
  simp only [if_neg c]
  obtain ⟨n, l1, l2, l3, hd, b1, b2, b3⟩ := spec_DrawFreeAutomaton_ev l0 h0
  have hs := spec_FreeAutomaton_ev n l1 l2 l3 (by omega) (by omega) (by omega)
  have hi := impl_FreeAutomaton_ev n l1 l2 l3 (by omega) (by omega) (by omega)
  refine Ev.bind hd ?_
  cases hv : av n l1 l2 l3 with
  | true =>
    rw [freeR, if_pos hv] at hs hi
    have hF : (l3.filter free0).length ≤ l3.length := List.length_filter_le _ _
    refine Ev.bind hi (Ev.bind hs (Ev.bind (laws_daAutomaton_self n l1 l2 (l3.filter free0) (by omega) (by omega) (by omega)) ?_))
    simp only [if_true, bne_self_eq_false, Bool.false_eq_true, if_false, Bool.not_true]
    refine Ev.step (fun k => rfl) ?_
    simp only [laws_FnFree.j0, Bool.false_eq_true, if_false]
    exact FF_l0 hv b1 b2 b3
  | false =>
    rw [freeR, if_neg (by rw [hv]; decide)] at hs hi
    have hda := laws_daAutomaton_self 0 [] [] [] (by decide) (by decide) (by decide)
    refine Ev.bind hi (Ev.bind hs (Ev.bind hda ?_))
    simp only [if_true, bne_self_eq_false, Bool.false_eq_true, if_false, Bool.not_false]
    refine Ev.step (fun k => rfl) ?_
    simp only [laws_FnFree.j0, if_true]
    refine Ev.bind hda ?_
    simp only [if_true, beq_self_eq_true]
    exact Ev.now _

end Go.Proofs.Ytojfbgegankddaa.Pure
