/- The pure statement of FnStepMatrix: the printed functions answer true at every input that can be read. -/
import Derived.Test.YtejnpldoakgadaaPG8x8
set_option linter.unusedVariables false
set_option linter.unusedSimpArgs false
namespace Go.Proofs.Ytejnpldoakgadaa.Pure
open Go.RowKit Go.Proofs.Ytejnpldoakgadaa.PG8 Go.Proofs.YtejnpldoakgadaaW.PrintWords Go.Proofs.YtejnpldoakgadaaW.PrintLast Go.Proofs.YtejnpldoakgadaaW.PrintMore

theorem w64 {x : Int} (h0 : -9223372036854775808 ≤ x) (h1 : x ≤ 9223372036854775807) : wrap64 x = x := by unfold wrap64; omega
theorem cast0 : ((0 : Nat) : Int) = 0 := rfl
theorem w64n {i : Nat} (h : i < 9223372036854775807) : wrap64 ((i : Int) + 1) = ((i + 1 : Nat) : Int) := by rw [w64 (by omega) (by omega)]; omega
theorem rd_nat {l : List Int} {i : Nat} (h : i < l.length) : rd l (i : Int) = l[i] := by simp [rd, List.getD_eq_getElem?_getD, h]
theorem mn_eq (a b : Int) : mn a b = min a b := by unfold mn; split <;> omega
theorem mx_eq (a b : Int) : mx a b = max a b := by unfold mx; split <;> omega
theorem down (n : Nat) {P : Nat → Prop} (h0 : P n) (hs : ∀ i, i < n → P (i + 1) → P i) : ∀ i, i ≤ n → P i := by
  have h : ∀ d i, i + d = n → P i := by
    intro d
    induction d with
    | zero => intro i hi; obtain rfl : i = n := by omega
              exact h0
    | succ d ih => intro i hi; exact hs i (by omega) (ih (i + 1) (by omega))
  exact fun i hi => h (n - i) i (by omega)
theorem ev_to {α : Type} {g : Nat → Option α} {r r' : α} (h : Ev g r) (e : r = r') : Ev g r' := e ▸ h
theorem dropc {α : Type} {l : List α} {i : Nat} (h : i < l.length) : l.drop i = l[i] :: l.drop (i + 1) := List.drop_eq_getElem_cons h
theorem dropn {α : Type} (l : List α) : l.drop l.length = [] := List.drop_eq_nil_of_le (Nat.le_refl _)
theorem wf64 {x : Int} (h : (Lit.int .i64 x).wf = true) : -9223372036854775808 ≤ x ∧ x ≤ 9223372036854775807 := by
  simp [Lit.wf, IntKind.min, IntKind.max, IntKind.signed, IntKind.bits] at h
  omega
theorem wf8 {x : Int} (h : (Lit.int .u8 x).wf = true) : 0 ≤ x ∧ x ≤ 255 := by
  simp [Lit.wf, IntKind.min, IntKind.max, IntKind.signed, IntKind.bits] at h
  omega
theorem nnc (q : Nat) : (0 : Int) ≤ (q : Int) := Int.natCast_nonneg q
theorem ltc {a b : Nat} (h : a < b) : (a : Int) < (b : Int) := Int.ofNat_lt.2 h
/-- A reader's bytes: at most 2000 numbers between 0 and 255. -/
def Rdr (s : List Int) : Prop := s.length ≤ 2000 ∧ ∀ x ∈ s, 0 ≤ x ∧ x ≤ 255
theorem i64_wrap_nat (n : Nat) (h : n < 9223372036854775808) : IntKind.i64.wrap (n : Int) = (n : Int) := by
  simp [IntKind.wrap, IntKind.bits, IntKind.signed]; omega
theorem xor_i64_nat (a b : Nat) (ha : a < 9223372036854775808) (hb : b < 9223372036854775808) : bits .xor .i64 (a : Int) (b : Int) = ((a ^^^ b : Nat) : Int) := by
  have hx : a ^^^ b < 2 ^ 63 := Nat.xor_lt_two_pow (by omega) (by omega)
  have h1 : (BitVec.ofInt 64 (a : Int)).toNat = a := by
    rw [BitVec.ofInt_natCast, BitVec.toNat_ofNat]; exact Nat.mod_eq_of_lt (by omega)
  have h2 : (BitVec.ofInt 64 (b : Int)).toNat = b := by
    rw [BitVec.ofInt_natCast, BitVec.toNat_ofNat]; exact Nat.mod_eq_of_lt (by omega)
  show IntKind.i64.wrap ((BitVec.ofInt 64 (a : Int) ^^^ BitVec.ofInt 64 (b : Int)).toNat : Int) = _
  rw [BitVec.toNat_xor, h1, h2, i64_wrap_nat _ (by omega)]
theorem xor_nn {x y : Int} (h0 : 0 ≤ x) (h1 : x < 9223372036854775808) (h2 : 0 ≤ y) (h3 : y < 9223372036854775808) : 0 ≤ bits .xor .i64 x y := by
  obtain ⟨a, rfl⟩ := Int.eq_ofNat_of_zero_le h0
  obtain ⟨b, rfl⟩ := Int.eq_ofNat_of_zero_le h2
  rw [xor_i64_nat a b (by omega) (by omega)]
  omega
theorem tm_nn {x n : Int} (h : 0 ≤ x) : 0 ≤ Int.tmod x n := Int.tmod_nonneg _ h
theorem tm_lt {x n : Int} (h : 0 < n) : Int.tmod x n < n := Int.tmod_lt_of_pos _ h
theorem rd_bd {s : List Int} (hs : Rdr s) (i : Int) : 0 ≤ rd s i ∧ rd s i ≤ 255 := by
  unfold rd
  rw [List.getD_eq_getElem?_getD]
  by_cases h : i.toNat < s.length
  · rw [List.getElem?_eq_getElem h]
    exact hs.2 _ (List.getElem_mem h)
  · rw [List.getElem?_eq_none (by omega)]
    simp
theorem mix_bd {a b p q : Int} (ha : 0 ≤ a ∧ a ≤ 255) (hb : 0 ≤ b ∧ b ≤ 255) (hp : 0 ≤ p ∧ p ≤ 1000000) (hq : 0 ≤ q ∧ q ≤ 1000000) :
    0 ≤ wrap64 ((wrap64 ((wrap64 ((wrap64 ((wrap64 a) * 131)) + (wrap64 ((wrap64 b) * 1117)))) + (wrap64 (p * 29)))) + (wrap64 ((wrap64 q) * 53))) ∧ wrap64 ((wrap64 ((wrap64 ((wrap64 ((wrap64 a) * 131)) + (wrap64 ((wrap64 b) * 1117)))) + (wrap64 (p * 29)))) + (wrap64 ((wrap64 q) * 53))) ≤ 1000000000 := by
  rw [w64 (x := a) (by omega) (by omega), w64 (x := b) (by omega) (by omega), w64 (x := q) (by omega) (by omega), w64 (x := a * 131) (by omega) (by omega), w64 (x := b * 1117) (by omega) (by omega), w64 (x := p * 29) (by omega) (by omega), w64 (x := q * 53) (by omega) (by omega), w64 (x := a * 131 + b * 1117) (by omega) (by omega), w64 (x := a * 131 + b * 1117 + p * 29) (by omega) (by omega), w64 (by omega) (by omega)]
  omega
theorem mixed_bd {x n : Int} (h0 : 0 ≤ x) (h1 : x ≤ 1000000000) (hn : 0 < n) : 0 ≤ Int.tmod (bits .xor .i64 x (wrap64 (Int.tdiv x 64))) n ∧ Int.tmod (bits .xor .i64 x (wrap64 (Int.tdiv x 64))) n < n := by
  refine ⟨tm_nn (xor_nn h0 (by omega) ?_ ?_), tm_lt hn⟩
  all_goals rw [Int.tdiv_eq_ediv_of_nonneg h0, w64 (by omega) (by omega)]; omega
theorem spec_l13Rd_pick_ev {s : List Int} (hs : Rdr s) {p : Int} (hp : 0 ≤ p ∧ p ≤ 1000000) (n : Int) : ∃ v, Ev (fun k => spec_l13Rd_pick.f k s p n) (v, p + 1) ∧ 0 ≤ v ∧ (1 ≤ n → v < n) := by
  have e1 : wrap64 (p + 1) = p + 1 := w64 (by omega) (by omega)
  have e2 : wrap64 (p + 1 - 1) = p := by rw [w64 (by omega) (by omega)]; omega
  by_cases hn : n < 1
  · refine ⟨0, ?_, by omega, by omega⟩
    simp only [spec_l13Rd_pick.f, if_pos hn, e1]
    refine Ev.step (fun k => rfl) ?_
    simp only [spec_l13Rd_pick.j0, if_true]
    exact Ev.now _
  · by_cases hl : s.length = 0
    · refine ⟨0, ?_, by omega, by omega⟩
      simp only [spec_l13Rd_pick.f, if_neg hn, e1]
      refine Ev.step (fun k => rfl) ?_
      simp only [spec_l13Rd_pick.j0, hl]
      exact Ev.now _
    · have hlb : ((s.length : Int) == 0) = false := by rw [beq_eq_false_iff_ne]; omega
      have key : ∃ v, (∀ k, spec_l13Rd_pick.j0 (k + 1) n false s (p + 1) = some (v, p + 1)) ∧ 0 ≤ v ∧ v < n := by
        simp only [spec_l13Rd_pick.j0, Bool.false_eq_true, if_false, e2, if_neg (show ¬ n = 0 by omega), if_pos hp.1, if_neg (show ¬ (s.length : Int) = 0 by omega)]
        by_cases hlt : p < (s.length : Int)
        · have hb := rd_bd hs p
          simp only [if_pos hlt]
          exact ⟨_, fun k => rfl, tm_nn (by rw [w64 (by omega) (by omega)]; omega), tm_lt (by omega)⟩
        · have t1 : 0 ≤ Int.tmod p (s.length : Int) := tm_nn hp.1
          have t2 : Int.tmod p (s.length : Int) < (s.length : Int) := tm_lt (by omega)
          have e3 : wrap64 (wrap64 (p * 7) + 3) = p * 7 + 3 := by rw [w64 (x := p * 7) (by omega) (by omega), w64 (by omega) (by omega)]
          have t3 : 0 ≤ Int.tmod (p * 7 + 3) (s.length : Int) := tm_nn (by omega)
          have t4 : Int.tmod (p * 7 + 3) (s.length : Int) < (s.length : Int) := tm_lt (by omega)
          simp only [if_neg hlt, e3, if_pos t1, if_pos t2, if_pos t3, if_pos t4]
          have hq : 0 ≤ Int.tdiv p (s.length : Int) ∧ Int.tdiv p (s.length : Int) ≤ 1000000 := by
            rw [Int.tdiv_eq_ediv_of_nonneg hp.1]
            have a1 := Int.ediv_nonneg hp.1 (show (0 : Int) ≤ (s.length : Int) by omega)
            have a2 := Int.ediv_le_self (s.length : Int) hp.1
            omega
          have hm := mix_bd (rd_bd hs (Int.tmod p (s.length : Int))) (rd_bd hs (Int.tmod (p * 7 + 3) (s.length : Int))) hp hq
          have hf := mixed_bd hm.1 hm.2 (show 0 < n by omega)
          exact ⟨_, fun k => rfl, hf.1, hf.2⟩
      obtain ⟨v, hv, h0, h1⟩ := key
      refine ⟨v, ?_, h0, fun _ => h1⟩
      simp only [spec_l13Rd_pick.f, if_neg hn, e1, hlb]
      exact Ev.step hv (Ev.now _)
theorem rd_mem {l : List Int} {i : Int} (h0 : 0 ≤ i) (h1 : i < (l.length : Int)) : rd l i ∈ l := by
  obtain ⟨n, rfl⟩ := Int.eq_ofNat_of_zero_le h0
  rw [rd_nat (by omega)]
  exact List.getElem_mem _
theorem spec_l13Open_ev (l : List Int) (hl : ∀ x ∈ l, (Lit.int .u8 x).wf = true) : ∃ s, spec_l13Open.f l = some (s, 0) ∧ Rdr s := by
  have hb : ∀ x ∈ l, 0 ≤ x ∧ x ≤ 255 := fun x hx => wf8 (hl x hx)
  by_cases h : (l.length : Int) > 2000
  · exact ⟨l.take 2000, by simp only [spec_l13Open.f, if_pos h, if_pos (show (2000 : Int) ≤ (l.length : Int) by omega)], by simp; omega, fun x hx => hb x (List.mem_of_mem_take hx)⟩
  · exact ⟨l, by simp only [spec_l13Open.f, if_neg h], by omega, hb⟩
theorem spec_l13Rd_num_ev {s : List Int} (hs : Rdr s) {p : Int} (hp : 0 ≤ p ∧ p ≤ 1000000) (l : List Int) (hl : 0 < l.length) : ∃ v, Ev (fun k => spec_l13Rd_num.f k s p l) (v, p + 1) ∧ v ∈ l := by
  obtain ⟨v, hv, h0, h1⟩ := spec_l13Rd_pick_ev hs hp (l.length : Int)
  have h1 := h1 (by omega)
  refine ⟨rd l v, ?_, rd_mem h0 h1⟩
  simp only [spec_l13Rd_num.f]
  refine Ev.bind hv ?_
  simp only [if_pos h0, if_pos h1]
  exact Ev.now _
theorem rdI_nat {l : List S51} {i : Nat} (h : i < l.length) : rd_T51 l (i : Int) = l[i] := by simp [rd_T51, List.getD_eq_getElem?_getD, h]
theorem rdL_nat {l : List S90} {i : Nat} (h : i < l.length) : rd_T90 l (i : Int) = l[i] := by simp [rd_T90, List.getD_eq_getElem?_getD, h]
/-- A step of the laws as one of the program. -/
def ofL (x : S90) : S51 := ⟨x.f0, x.f1, x.f2, x.f3⟩
/-- p at each place from i on, below n. -/
def allFrom (p : Nat → Bool) (n i : Nat) : Bool := (List.range n).all fun j => decide (j < i) || p j
theorem allFrom_iff {p : Nat → Bool} {n i : Nat} : allFrom p n i = true ↔ ∀ j, i ≤ j → j < n → p j = true := by
  simp only [allFrom, List.all_eq_true, List.mem_range, Bool.or_eq_true, decide_eq_true_eq]
  constructor
  · intro h j h1 h2
    rcases h j h2 with e | e
    · omega
    · exact e
  · intro h j h2
    by_cases e : j < i
    · exact Or.inl e
    · exact Or.inr (h j (by omega) h2)
theorem allFrom_end (p : Nat → Bool) (n : Nat) : allFrom p n n = true := allFrom_iff.2 fun j h1 h2 => absurd h2 (by omega)
theorem allFrom_step {p : Nat → Bool} {n i : Nat} (h : i < n) : allFrom p n i = (p i && allFrom p n (i + 1)) := by
  rw [Bool.eq_iff_iff, Bool.and_eq_true, allFrom_iff, allFrom_iff]
  constructor
  · intro hh
    exact ⟨hh i (by omega) h, fun j h1 h2 => hh j (by omega) h2⟩
  · rintro ⟨h1, h2⟩ j h3 h4
    by_cases e : i = j
    · subst e; exact h1
    · exact h2 j (by omega) h4
/-- The number at this place of a list of states fits. -/
def ascAt (n : Int) (l : List Int) (j : Nat) : Bool := decide (0 ≤ rd l j) && (decide (rd l j < n) && (decide (j = 0) || decide (rd l ((j - 1 : Nat) : Int) < rd l j)))
/-- States in ascending order. -/
def asc (n : Int) (l : List Int) : Bool := allFrom (ascAt n l) l.length 0
theorem pred_w {i : Nat} (h : 0 < i) (h2 : i < 9223372036854775807) : wrap64 ((i : Int) - 1) = ((i - 1 : Nat) : Int) := by rw [w64 (by omega) (by omega)]; omega
theorem asc_iff {n : Int} {l : List Int} : asc n l = true ↔ ∀ j, j < l.length → 0 ≤ rd l j ∧ rd l j < n ∧ (0 < j → rd l ((j - 1 : Nat) : Int) < rd l j) := by
  simp only [asc, allFrom_iff, ascAt, Bool.and_eq_true, Bool.or_eq_true, decide_eq_true_eq]
  constructor
  · intro h j hj
    have := h j (by omega) hj
    exact ⟨this.1, this.2.1, fun h0 => by omega⟩
  · intro h j _ hj
    have := h j hj
    refine ⟨this.1, this.2.1, ?_⟩
    by_cases e : j = 0
    · exact Or.inl e
    · exact Or.inr (this.2.2 (by omega))
theorem spec_l1In_eq (a b c : Int) : spec_l1In.f a b c = some (decide (b ≤ a ∧ a ≤ c)) := by
  unfold spec_l1In.f
  split <;> simp <;> omega
def sA (b : ByteArray) : Bool := decide (b.toList = [97])
def sB (b : ByteArray) : Bool := decide (b.toList = [98])
/-- A step that fits so many states. -/
def sOk (n : Int) (s : S51) : Bool := decide (0 ≤ s.f0 ∧ s.f0 < n ∧ 0 ≤ s.f2 ∧ s.f2 < n ∧ 0 ≤ s.f3 ∧ s.f3 ≤ 3) && (sA s.f1 || sB s.f1)
/-- One step is in front of another one. -/
def sLt (s t : S51) : Bool := if s.f0 = t.f0 then (if s.f1.toList = t.f1.toList then decide (s.f2 < t.f2) else Op.bytesLess s.f1.toList t.f1.toList) else decide (s.f0 < t.f0)
def sAt (n : Int) (l : List S51) (j : Nat) : Bool := sOk n (rd_T51 l j) && (decide (j = 0) || sLt (rd_T51 l ((j - 1 : Nat) : Int)) (rd_T51 l j))
/-- Steps that fit so many states, in order. -/
def stepsOk (n : Int) (l : List S51) : Bool := allFrom (sAt n l) l.length 0
/-- An automaton is valid. -/
def av (n : Int) (l1 l2 : List Int) (l3 : List S51) : Bool := decide (1 ≤ n ∧ n ≤ 4) && (asc n l1 && (asc n l2 && (decide (l3.length ≤ 24) && stepsOk n l3)))
theorem spec_l3Step_eq {n : Int} (h1 : 1 ≤ n) (h4 : n ≤ 4) (s : S51) : spec_l3Step.f n s.f0 s.f1 s.f2 s.f3 = some (sOk n s) := by
  have e : wrap64 (n - 1) = n - 1 := w64 (by omega) (by omega)
  simp only [spec_l3Step.f, spec_l1In_eq, Option.bind_some, e, sOk, sA, sB]
  by_cases c0 : 0 ≤ s.f0 ∧ s.f0 ≤ n - 1
  · rw [if_pos (by simpa using c0)]
    by_cases c1 : 0 ≤ s.f2 ∧ s.f2 ≤ n - 1
    · rw [if_pos (by simpa using c1)]
      by_cases c2 : 0 ≤ s.f3 ∧ s.f3 ≤ 3
      · rw [if_pos (by simpa using c2), show decide (0 ≤ s.f0 ∧ s.f0 < n ∧ 0 ≤ s.f2 ∧ s.f2 < n ∧ 0 ≤ s.f3 ∧ s.f3 ≤ 3) = true by simp; omega]
        by_cases c3 : s.f1.toList = [97]
        · simp [c3]
        · rw [if_neg c3]
          simp only [c3, decide_false, Bool.true_and, Bool.false_or]
          congr 1
          by_cases c4 : s.f1.toList = [98] <;> simp [c4]
      · rw [if_neg (by simpa using c2), show decide (0 ≤ s.f0 ∧ s.f0 < n ∧ 0 ≤ s.f2 ∧ s.f2 < n ∧ 0 ≤ s.f3 ∧ s.f3 ≤ 3) = false by simp; omega]
        rfl
    · rw [if_neg (by simpa using c1), show decide (0 ≤ s.f0 ∧ s.f0 < n ∧ 0 ≤ s.f2 ∧ s.f2 < n ∧ 0 ≤ s.f3 ∧ s.f3 ≤ 3) = false by simp; omega]
      rfl
  · rw [if_neg (by simpa using c0), show decide (0 ≤ s.f0 ∧ s.f0 < n ∧ 0 ≤ s.f2 ∧ s.f2 < n ∧ 0 ≤ s.f3 ∧ s.f3 ≤ 3) = false by simp; omega]
    rfl
theorem spec_l3Before_eq (s t : S51) : spec_l3Before.f s.f0 s.f1 s.f2 s.f3 t.f0 t.f1 t.f2 t.f3 = some (sLt s t) := by
  simp only [spec_l3Before.f, sLt]
  split
  · split <;> rfl
  · rfl
theorem spec_l13Rd_of_ev {s : List Int} (hs : Rdr s) {p : Int} (hp : 0 ≤ p ∧ p ≤ 1000000) (l : List ByteArray) (hl : 0 < l.length) : ∃ v, Ev (fun k => spec_l13Rd_of.f k s p l) (v, p + 1) := by
  obtain ⟨v, hv, h0, h1⟩ := spec_l13Rd_pick_ev hs hp (l.length : Int)
  refine ⟨rdOf ByteArray.empty l v, ?_⟩
  simp only [spec_l13Rd_of.f]
  refine Ev.bind hv ?_
  simp only [if_pos h0, if_pos (h1 (by omega))]
  exact Ev.now _
theorem spec_l3Some_ev {s : List Int} (hs : Rdr s) {n : Nat} (hn : n ≤ 4) {p : Int} (hp : 0 ≤ p ∧ p ≤ 900000) : ∃ l q, Ev (fun k => spec_l3Some.f k s p (n : Int)) (l, q) ∧ l.length ≤ 4 ∧ p ≤ q ∧ q ≤ p + 4 := by
  have h := down n (P := fun i => ∀ (l : List Int) (q : Int), l.length ≤ i → q = p + i → ∃ r q', Ev (fun k => spec_l3Some.l0 k l (n : Int) (i : Int) s q) (r, q') ∧ r.length ≤ 4 ∧ p ≤ q' ∧ q' ≤ p + 4) ?_ ?_ 0 (by omega) [] p (by simp) (by omega)
  · simpa only [spec_l3Some.f, cast0] using h
  · intro l q hl hq
    refine ⟨l, q, Ev.step (fun k => rfl) ?_, by omega, by omega, by omega⟩
    simp only [spec_l3Some.l0, if_neg (show ¬ (n : Int) < (n : Int) by omega)]
    exact Ev.now _
  · intro i hi ih l q hl hq
    obtain ⟨v, hv, v0, v1⟩ := spec_l13Rd_pick_ev hs (p := q) (by omega) 2
    by_cases e : v = 0
    · obtain ⟨r, q', hr, a, b, c⟩ := ih (l ++ [(i : Int)]) (q + 1) (by simp; omega) (by omega)
      refine ⟨r, q', Ev.step (fun k => rfl) ?_, a, b, c⟩
      simp only [spec_l3Some.l0, if_pos (show (i : Int) < (n : Int) by omega)]
      refine Ev.bind hv ?_
      simp only [if_pos e, if_pos (show l.length < 17592186044416 by omega), w64n (show i < 9223372036854775807 by omega)]
      exact hr
    · obtain ⟨r, q', hr, a, b, c⟩ := ih l (q + 1) (by omega) (by omega)
      refine ⟨r, q', Ev.step (fun k => rfl) ?_, a, b, c⟩
      simp only [spec_l3Some.l0, if_pos (show (i : Int) < (n : Int) by omega)]
      refine Ev.bind hv ?_
      simp only [if_neg e, w64n (show i < 9223372036854775807 by omega)]
      exact hr
theorem put_lens {l : List S51} {i : Nat} (hi : i ≤ l.length) (hl : l.length ≤ 1000) (x : S51) : ([] : List S51).length + (l.take i).length < 3518437208883 ∧ (([] : List S51) ++ l.take i).length + [x].length < 3518437208883 ∧ ((([] : List S51) ++ l.take i) ++ [x]).length + (l.drop i).length < 3518437208883 ∧ (((([] : List S51) ++ l.take i) ++ [x]) ++ l.drop i).length ≤ l.length + 1 := by
  simp only [List.length_append, List.length_nil, List.length_take, List.length_drop, List.length_cons]
  omega
theorem spec_l3Put_ev (l : List S51) (hl : l.length ≤ 1000) (a : Int) (b : ByteArray) (c d : Int) : ∃ r, Ev (fun k => spec_l3Put.f k l a b c d) r ∧ r.length ≤ l.length + 1 := by
  have h := down l.length (P := fun i => ∃ r, Ev (fun k => spec_l3Put.l0 k l (i : Int) a b c d) r ∧ r.length ≤ l.length + 1) ?_ ?_ 0 (by omega)
  · simpa only [spec_l3Put.f, cast0] using h
  · obtain ⟨p1, p2, p3, p4⟩ := put_lens (Nat.le_refl l.length) hl ⟨a, b, c, d⟩
    refine ⟨_, Ev.step (fun k => rfl) ?_, p4⟩
    simp only [spec_l3Put.l0, if_neg (show ¬ (l.length : Int) < (l.length : Int) by omega), Option.bind_some, if_pos (show (0 : Int) ≤ (l.length : Int) by omega), if_pos (show (l.length : Int) ≤ (l.length : Int) by omega), Int.toNat_natCast, if_pos p1, if_pos p2, if_pos p3]
    exact Ev.now _
  · intro i hi ih
    obtain ⟨p1, p2, p3, p4⟩ := put_lens (show i ≤ l.length by omega) hl ⟨a, b, c, d⟩
    have b1 := spec_l3Before_eq l[i] ⟨a, b, c, d⟩
    have b2 := spec_l3Before_eq ⟨a, b, c, d⟩ l[i]
    by_cases c1 : sLt l[i] ⟨a, b, c, d⟩ = true
    · obtain ⟨r, hr, h⟩ := ih
      refine ⟨r, Ev.step (fun k => rfl) ?_, h⟩
      simp only [spec_l3Put.l0, if_pos (show (i : Int) < (l.length : Int) by omega), if_pos (nnc i), rdI_nat hi, b1, Option.bind_some, if_pos c1, w64n (show i < 9223372036854775807 by omega)]
      exact hr
    · by_cases c2 : sLt ⟨a, b, c, d⟩ l[i] = true
      · refine ⟨_, Ev.step (fun k => rfl) ?_, p4⟩
        simp only [spec_l3Put.l0, if_pos (show (i : Int) < (l.length : Int) by omega), if_pos (nnc i), rdI_nat hi, b1, b2, Option.bind_some, if_neg c1, if_pos c2, if_pos (show (i : Int) ≤ (l.length : Int) by omega), Int.toNat_natCast, if_pos p1, if_pos p2, if_pos p3]
        exact Ev.now _
      · refine ⟨l.set i ⟨l[i].f0, l[i].f1, l[i].f2, mn l[i].f3 d⟩, Ev.step (fun k => rfl) ?_, ?_⟩
        · simp only [spec_l3Put.l0, if_pos (show (i : Int) < (l.length : Int) by omega), if_pos (nnc i), rdI_nat hi, b1, b2, Option.bind_some, if_neg c1, if_neg c2, List.nil_append, List.length_nil, if_pos (show 0 + l.length < 3518437208883 by omega), Int.toNat_natCast]
          exact Ev.now _
        · simp
def kOk (r : Option (Int × List Int × List Int × List S51)) : Bool := match r with
  | some (n, l1, l2, l3) => decide (0 ≤ n ∧ n ≤ 4 ∧ l1.length ≤ 4 ∧ l2.length ≤ 4 ∧ l3.length ≤ 24)
  | none => false
theorem known_ok : ∀ v : Fin 9, kOk (spec_l3Known.f 100 (v.val : Int)) = true := by decide +kernel
theorem spec_l3Known_ev {v : Int} (h0 : 0 ≤ v) (h1 : v < 9) : ∃ n l1 l2 l3, Ev (fun k => spec_l3Known.f k v) (n, l1, l2, l3) ∧ l1.length ≤ 4 ∧ l2.length ≤ 4 ∧ l3.length ≤ 24 := by
  obtain ⟨n, rfl⟩ := Int.eq_ofNat_of_zero_le h0
  have h := known_ok ⟨n, by omega⟩
  simp only [kOk] at h
  split at h
  · rename_i n l1 l2 l3 e
    simp only [decide_eq_true_eq] at h
    exact ⟨n, l1, l2, l3, Ev.of (spec_l3Known.mono _) e, h.2.2.1, h.2.2.2.1, h.2.2.2.2⟩
  · cases h
theorem spec_l3Draw_l0 {s : List Int} (hs : Rdr s) {n : Nat} (n1 : 1 ≤ n) (n4 : n ≤ 4) (l1 l2 : List Int) {m : Nat} (hm : m ≤ 9) {p : Int} (hp : 0 ≤ p ∧ p ≤ 800000) : ∃ l3 q, Ev (fun k => spec_l3Draw.l0 k (n : Int) (m : Int) 0 s p (n : Int) l1 l2 []) ((n : Int), l1, l2, l3, q) ∧ l3.length ≤ 9 ∧ p ≤ q ∧ q ≤ p + 36 := by
  have h := down m (P := fun i => ∀ (l : List S51) (q : Int), l.length ≤ i → q = p + 4 * i → ∃ l3 q', Ev (fun k => spec_l3Draw.l0 k (n : Int) (m : Int) (i : Int) s q (n : Int) l1 l2 l) ((n : Int), l1, l2, l3, q') ∧ l3.length ≤ 9 ∧ p ≤ q' ∧ q' ≤ p + 36) ?_ ?_ 0 (by omega) [] p (by simp) (by omega)
  · simpa only [cast0] using h
  · intro l q hl hq
    refine ⟨l, q, Ev.step (fun k => rfl) ?_, by omega, by omega, by omega⟩
    simp only [spec_l3Draw.l0, if_neg (show ¬ (m : Int) < (m : Int) by omega)]
    exact Ev.now _
  · intro i hi ih l q hl hq
    obtain ⟨v1, h1, -⟩ := spec_l13Rd_pick_ev hs (p := q) (by omega) (n : Int)
    obtain ⟨v2, h2⟩ := spec_l13Rd_of_ev hs (p := q + 1) (by omega) [(⟨#[97]⟩ : ByteArray), (⟨#[98]⟩ : ByteArray)] (by simp)
    obtain ⟨v3, h3, -⟩ := spec_l13Rd_pick_ev hs (p := q + 1 + 1) (by omega) (n : Int)
    obtain ⟨v4, h4, -⟩ := spec_l13Rd_num_ev hs (p := q + 1 + 1 + 1) (by omega) [0, 1, 0, 1, 2, 0] (by simp)
    obtain ⟨r, h5, hr⟩ := spec_l3Put_ev l (by omega) v1 v2 v3 v4
    obtain ⟨l3, q', h6, a, b, c⟩ := ih r (q + 1 + 1 + 1 + 1) (by omega) (by omega)
    refine ⟨l3, q', Ev.step (fun k => rfl) ?_, a, b, c⟩
    simp only [spec_l3Draw.l0, if_pos (show (i : Int) < (m : Int) by omega), w64n (show i < 9223372036854775807 by omega)]
    exact Ev.bind h1 (Ev.bind h2 (Ev.bind h3 (Ev.bind h4 (Ev.bind h5 h6))))
theorem spec_l3Draw_j0 {s : List Int} (hs : Rdr s) {m : Int} (hm : 1 ≤ m) (hm4 : m ≤ 4) {p : Int} (hp : 0 ≤ p ∧ p ≤ 700000) : ∃ n l1 l2 l3 q, Ev (fun k => spec_l3Draw.j0 k m s p) (n, l1, l2, l3, q) ∧ l1.length ≤ 4 ∧ l2.length ≤ 4 ∧ l3.length ≤ 24 ∧ p ≤ q ∧ q ≤ p + 60 := by
  obtain ⟨v, hv, v0, v1⟩ := spec_l13Rd_pick_ev hs (p := p) (by omega) m
  have v1 := v1 (by omega)
  obtain ⟨n, hn⟩ := Int.eq_ofNat_of_zero_le (show 0 ≤ 1 + v by omega)
  have e1 : wrap64 (1 + v) = (n : Int) := by rw [w64 (by omega) (by omega)]; exact hn
  obtain ⟨l1, q1, h1, a1, b1, c1⟩ := spec_l3Some_ev hs (n := n) (by omega) (p := p + 1) (by omega)
  obtain ⟨l2, q2, h2, a2, b2, c2⟩ := spec_l3Some_ev hs (n := n) (by omega) (p := q1) (by omega)
  have e2 : wrap64 (wrap64 (2 * (n : Int)) + 1) = 2 * n + 1 := by rw [w64 (x := 2 * (n : Int)) (by omega) (by omega), w64 (by omega) (by omega)]
  obtain ⟨u, hu, u0, u1⟩ := spec_l13Rd_pick_ev hs (p := q2) (by omega) (2 * (n : Int) + 1)
  have u1 := u1 (by omega)
  obtain ⟨m', hm'⟩ := Int.eq_ofNat_of_zero_le (show 0 ≤ 1 + u by omega)
  have e3 : wrap64 (1 + u) = (m' : Int) := by rw [w64 (by omega) (by omega)]; exact hm'
  obtain ⟨l3, q3, h3, a3, b3, c3⟩ := spec_l3Draw_l0 hs (n := n) (by omega) (by omega) l1 l2 (m := m') (by omega) (p := q2 + 1) (by omega)
  refine ⟨n, l1, l2, l3, q3, Ev.step (fun k => rfl) ?_, a1, a2, by omega, by omega, by omega⟩
  simp only [spec_l3Draw.j0]
  refine Ev.bind hv ?_
  simp only [e1]
  refine Ev.bind h1 (Ev.bind h2 ?_)
  simp only [e2]
  refine Ev.bind hu ?_
  simp only [e3]
  exact h3
theorem spec_l3Draw_ev {s : List Int} (hs : Rdr s) {m : Int} (hm : 1 ≤ m) (hm4 : m ≤ 4) {p : Int} (hp : 0 ≤ p ∧ p ≤ 600000) : ∃ n l1 l2 l3 q, Ev (fun k => spec_l3Draw.f k s p m) (n, l1, l2, l3, q) ∧ l1.length ≤ 4 ∧ l2.length ≤ 4 ∧ l3.length ≤ 24 ∧ p ≤ q ∧ q ≤ p + 100 := by
  obtain ⟨v, hv, v0, v1⟩ := spec_l13Rd_pick_ev hs (p := p) (by omega) 3
  simp only [spec_l3Draw.f]
  by_cases e : v = 0
  · obtain ⟨u, hu, u0, u1⟩ := spec_l13Rd_pick_ev hs (p := p + 1) (by omega) 9
    obtain ⟨n, l1, l2, l3, hk, a, b, c⟩ := spec_l3Known_ev u0 (u1 (by omega))
    by_cases e2 : n ≤ m
    · refine ⟨n, l1, l2, l3, p + 1 + 1, Ev.bind hv ?_, a, b, c, by omega, by omega⟩
      simp only [if_pos e]
      refine Ev.bind hu (Ev.bind hk ?_)
      simp only [if_pos e2]
      exact Ev.now _
    · obtain ⟨n', l1', l2', l3', q', h, a, b, c, d, d'⟩ := spec_l3Draw_j0 hs hm hm4 (p := p + 1 + 1) (by omega)
      refine ⟨n', l1', l2', l3', q', Ev.bind hv ?_, a, b, c, by omega, by omega⟩
      simp only [if_pos e]
      refine Ev.bind hu (Ev.bind hk ?_)
      simp only [if_neg e2]
      exact h
  · obtain ⟨n', l1', l2', l3', q', h, a, b, c, d, d'⟩ := spec_l3Draw_j0 hs hm hm4 (p := p + 1) (by omega)
    refine ⟨n', l1', l2', l3', q', Ev.bind hv ?_, a, b, c, by omega, by omega⟩
    simp only [if_neg e]
    exact h
theorem spec_l3Bad_ev {s : List Int} (hs : Rdr s) (n : Int) {l1 l2 : List Int} {l3 : List S51} (h1 : l1.length ≤ 4) (h2 : l2.length ≤ 4) (h3 : l3.length ≤ 24) {p : Int} (hp : 0 ≤ p ∧ p ≤ 800000) : ∃ n' l1' l3' q, Ev (fun k => spec_l3Bad.f k s p n l1 l2 l3) (n', l1', l2, l3', q) ∧ l1'.length ≤ 5 ∧ l3'.length ≤ 25 ∧ p ≤ q ∧ q ≤ p + 5 := by
  obtain ⟨v, hv, v0, v1⟩ := spec_l13Rd_pick_ev hs (p := p) (by omega) 36
  simp only [spec_l3Bad.f]
  by_cases e0 : v = 0
  · obtain ⟨u, hu, -⟩ := spec_l13Rd_num_ev hs (p := p + 1) (by omega) [0, 5, (-1), 1, 9223372036854775807] (by simp)
    refine ⟨u, l1, l3, p + 1 + 1, Ev.bind hv ?_, by omega, by omega, by omega, by omega⟩
    simp only [if_pos e0]
    exact Ev.bind hu (Ev.now _)
  · by_cases e1 : v = 1
    · obtain ⟨u1, hu1, -⟩ := spec_l13Rd_pick_ev hs (p := p + 1) (by omega) 2
      obtain ⟨u2, hu2⟩ := spec_l13Rd_of_ev hs (p := p + 1 + 1) (by omega) [(⟨#[97]⟩ : ByteArray), (⟨#[99]⟩ : ByteArray), (⟨#[]⟩ : ByteArray)] (by simp)
      obtain ⟨u3, hu3, -⟩ := spec_l13Rd_num_ev hs (p := p + 1 + 1 + 1) (by omega) [0, 4, (-1)] (by simp)
      obtain ⟨u4, hu4, -⟩ := spec_l13Rd_num_ev hs (p := p + 1 + 1 + 1 + 1) (by omega) [0, 4, (-1)] (by simp)
      refine ⟨n, l1, l3 ++ [⟨u1, u2, u3, u4⟩], p + 1 + 1 + 1 + 1 + 1, Ev.bind hv ?_, by omega, by simp; omega, by omega, by omega⟩
      simp only [if_neg e0, if_pos e1, Option.bind_some, List.nil_append, List.length_nil, if_pos (show 0 + l3.length < 3518437208883 by omega)]
      refine Ev.bind hu1 (Ev.bind hu2 (Ev.bind hu3 (Ev.bind hu4 ?_)))
      simp only [if_pos (show l3.length < 3518437208883 by omega)]
      exact Ev.now _
    · by_cases e2 : v = 2
      · obtain ⟨u, hu, -⟩ := spec_l13Rd_num_ev hs (p := p + 1) (by omega) [0, 4, (-1)] (by simp)
        refine ⟨n, l1 ++ [u], l3, p + 1 + 1, Ev.bind hv ?_, by simp; omega, by omega, by omega, by omega⟩
        simp only [if_neg e0, if_neg e1, if_pos e2, Option.bind_some, List.nil_append, List.length_nil, if_pos (show 0 + l1.length < 17592186044416 by omega)]
        refine Ev.bind hu ?_
        simp only [if_pos (show l1.length < 17592186044416 by omega)]
        exact Ev.now _
      · refine ⟨n, l1, l3, p + 1, Ev.bind hv ?_, by omega, by omega, by omega, by omega⟩
        simp only [if_neg e0, if_neg e1, if_neg e2]
        exact Ev.now _
theorem spec_l3Any_ev {s : List Int} (hs : Rdr s) {p : Int} (hp : 0 ≤ p ∧ p ≤ 500000) : ∃ n l1 l2 l3 q, Ev (fun k => spec_l3Any.f k s p) (n, l1, l2, l3, q) ∧ l1.length ≤ 5 ∧ l2.length ≤ 4 ∧ l3.length ≤ 25 ∧ p ≤ q ∧ q ≤ p + 200 := by
  obtain ⟨n, l1, l2, l3, q, h, a, b, c, d, d'⟩ := spec_l3Draw_ev hs (m := 3) (by omega) (by omega) (p := p) (by omega)
  obtain ⟨n', l1', l3', q', h', a', c', e, e'⟩ := spec_l3Bad_ev hs n a b c (p := q) (by omega)
  refine ⟨n', l1', l2, l3', q', ?_, a', b, c', by omega, by omega⟩
  simp only [spec_l3Any.f]
  exact Ev.bind h (Ev.bind h' (Ev.now _))
/-- A cost: between 0 and 1000000. -/
def cv (a : Int) : Bool := decide (0 ≤ a ∧ a ≤ 1000000)
theorem cv_iff {a : Int} : cv a = true ↔ 0 ≤ a ∧ a ≤ 1000000 := by simp [cv]
/-- The sum of two costs, at most 1000000. -/
def addc (s a : Int) : Int := min (s + a) 1000000
theorem addc_bd {s a : Int} (h0 : 0 ≤ s) (h1 : 0 ≤ a) : 0 ≤ addc s a ∧ addc s a ≤ 1000000 := by unfold addc; omega
/-- A matrix: 1 to 4 rows, as many costs in each. -/
def mv (n : Int) (l : List Int) : Bool := decide (1 ≤ n ∧ n ≤ 4 ∧ (l.length : Int) = n * n) && l.all cv
theorem mv_iff {n : Int} {l : List Int} : mv n l = true ↔ (1 ≤ n ∧ n ≤ 4 ∧ (l.length : Int) = n * n) ∧ l.all cv = true := by simp [mv]
theorem sq_le {n : Int} (h1 : 1 ≤ n) (h2 : n ≤ 4) : 1 ≤ n * n ∧ n * n ≤ 16 := by
  obtain h | h | h | h : n = 1 ∨ n = 2 ∨ n = 3 ∨ n = 4 := by omega
  all_goals subst h; omega
/-- The cost in row i, column j. -/
def ent (n : Nat) (l : List Int) (i j : Nat) : Int := l.getD (i * n + j) 0
theorem rd_ent (n : Nat) (l : List Int) (i j : Nat) : rd l ((i * n + j : Nat) : Int) = ent n l i j := by
  show l.getD ((i * n + j : Nat) : Int).toNat 0 = _
  rw [Int.toNat_natCast]
  rfl
theorem idx_lt {n i j : Nat} (hi : i < n) (hj : j < n) : i * n + j < n * n := by
  have := Nat.mul_le_mul_right n (show i + 1 ≤ n from hi)
  rw [Nat.add_mul] at this
  omega
theorem sq16 {n : Nat} (h : n ≤ 4) : n * n ≤ 16 := Nat.mul_le_mul h h
theorem idx_wrap {n i j : Nat} (hn : n ≤ 4) (hi : i < n) (hj : j < n) : wrap64 ((wrap64 ((i : Int) * (n : Int))) + (j : Int)) = ((i * n + j : Nat) : Int) := by
  have h1 := idx_lt hi hj
  have h2 := sq16 hn
  have e : ((i * n + j : Nat) : Int) = (i : Int) * (n : Int) + (j : Int) := by rw [Int.natCast_add, Int.natCast_mul]
  have e2 : ((i * n : Nat) : Int) = (i : Int) * (n : Int) := Int.natCast_mul _ _
  rw [w64 (x := (i : Int) * (n : Int)) (by omega) (by omega), w64 (by omega) (by omega), e]
theorem div_idx {n i k : Nat} (hk : k < n) : (i * n + k) / n = i ∧ (i * n + k) % n = k := by
  constructor
  · rw [Nat.mul_comm, Nat.mul_add_div (by omega), Nat.div_eq_of_lt hk]; omega
  · rw [Nat.mul_comm, Nat.mul_add_mod, Nat.mod_eq_of_lt hk]
/-- The cells of a matrix, of what a function tells for each place. -/
def cells (n : Nat) (f : Nat → Nat → Int) : List Int := (List.range (n * n)).map fun t => f (t / n) (t % n)
/-- The first so many of them. -/
def cellsTo (n : Nat) (f : Nat → Nat → Int) (m : Nat) : List Int := (List.range m).map fun t => f (t / n) (t % n)
theorem cellsTo_len (n : Nat) (f : Nat → Nat → Int) (m : Nat) : (cellsTo n f m).length = m := by simp [cellsTo]
theorem cells_len (n : Nat) (f : Nat → Nat → Int) : (cells n f).length = n * n := by simp [cells]
theorem cellsTo_next (n : Nat) (f : Nat → Nat → Int) (m : Nat) : cellsTo n f m ++ [f (m / n) (m % n)] = cellsTo n f (m + 1) := by simp [cellsTo, List.range_succ]
theorem ent_cells {n : Nat} (f : Nat → Nat → Int) {i j : Nat} (hi : i < n) (hj : j < n) : ent n (cells n f) i j = f i j := by
  have h := idx_lt hi hj
  have hd := div_idx (i := i) hj
  rw [ent, cells, List.getD_eq_getElem?_getD, List.getElem?_map, List.getElem?_range h]
  simp [hd.1, hd.2]
theorem cells_ent {n : Nat} {l : List Int} (h : l.length = n * n) : cells n (ent n l) = l := by
  apply List.ext_getElem
  · rw [cells_len, h]
  · intro i h1 h2
    have e : i / n * n + i % n = i := by rw [Nat.mul_comm]; exact Nat.div_add_mod i n
    simp [cells, ent, e, h2]
theorem cells_congr {n : Nat} {f g : Nat → Nat → Int} (h : ∀ i j, i < n → j < n → f i j = g i j) : cells n f = cells n g := by
  apply List.map_congr_left
  intro t ht
  have ht : t < n * n := by simpa using ht
  have hn : 0 < n := by
    cases n with
    | zero => simp at ht
    | succ n => omega
  exact h _ _ (Nat.div_lt_of_lt_mul ht) (Nat.mod_lt _ hn)
theorem cells_all {n : Nat} {f : Nat → Nat → Int} (h : ∀ i j, i < n → j < n → cv (f i j) = true) : (cells n f).all cv = true := by
  rw [List.all_eq_true]
  intro x hx
  obtain ⟨t, ht, rfl⟩ := List.mem_map.1 hx
  have ht : t < n * n := by simpa using ht
  have hn : 0 < n := by
    cases n with
    | zero => simp at ht
    | succ n => omega
  exact h _ _ (Nat.div_lt_of_lt_mul ht) (Nat.mod_lt _ hn)
theorem mv_cells {n : Nat} (h0 : 1 ≤ n) (h1 : n ≤ 4) {f : Nat → Nat → Int} (h : ∀ i j, i < n → j < n → cv (f i j) = true) : mv (n : Int) (cells n f) = true := by
  rw [mv_iff]
  refine ⟨⟨by omega, by omega, ?_⟩, cells_all h⟩
  rw [cells_len, Int.natCast_mul]
theorem mv_nat {n : Int} {l : List Int} (h : mv n l = true) : ∃ m : Nat, n = (m : Int) ∧ 1 ≤ m ∧ m ≤ 4 ∧ l.length = m * m ∧ ∀ x ∈ l, cv x = true := by
  rw [mv_iff] at h
  obtain ⟨m, rfl⟩ := Int.eq_ofNat_of_zero_le (show 0 ≤ n by omega)
  have e := Int.natCast_mul m m
  exact ⟨m, rfl, by omega, by omega, by omega, by simpa using h.2⟩
theorem cv_ent {n : Nat} {l : List Int} (hl : l.length = n * n) (h : ∀ x ∈ l, cv x = true) {i j : Nat} (hi : i < n) (hj : j < n) : cv (ent n l i j) = true := by
  have hb := idx_lt hi hj
  have : ent n l i j = l[i * n + j]'(by omega) := by
    rw [ent, List.getD_eq_getElem?_getD, List.getElem?_eq_getElem (by omega)]
    rfl
  rw [this]
  exact h _ (List.getElem_mem _)
/-- The least of so many costs. -/
def dotTo (f : Nat → Int) (m : Nat) : Int := (List.range m).foldl (fun acc x => min acc (f x)) 1000000
theorem dotTo_next (f : Nat → Int) (m : Nat) : dotTo f (m + 1) = min (dotTo f m) (f m) := by simp [dotTo, List.range_succ]
theorem dotTo_zero (f : Nat → Int) : dotTo f 0 = 1000000 := rfl
theorem dotTo_bd {f : Nat → Int} : ∀ {m : Nat}, (∀ l, l < m → 0 ≤ f l) → 0 ≤ dotTo f m ∧ dotTo f m ≤ 1000000 := by
  intro m
  induction m with
  | zero => intro _; rw [dotTo_zero]; omega
  | succ m ih =>
    intro h
    have h1 := ih (fun l hl => h l (by omega))
    have h2 := h m (by omega)
    rw [dotTo_next]
    omega
def unitm (n : Nat) : List Int := cells n fun i j => if i = j then 0 else 1000000
def turnm (n : Nat) (a : List Int) : List Int := cells n fun i j => ent n a j i
def minm (n : Nat) (a b : List Int) : List Int := cells n fun i j => min (ent n a i j) (ent n b i j)
def mulm (n : Nat) (a b : List Int) : List Int := cells n fun i j => dotTo (fun l => addc (ent n a i l) (ent n b l j)) n
def two (n : Int) (a : List Int) (m : Int) (b : List Int) : Bool := mv n a && (mv m b && decide (n = m))
def unitR (n : Int) : Int × List Int × Bool := if 1 ≤ n ∧ n ≤ 4 then (n, unitm n.toNat, true) else (0, [], false)
def turnR (n : Int) (a : List Int) : Int × List Int × Bool := if mv n a then (n, turnm n.toNat a, true) else (0, [], false)
def minR (n : Int) (a : List Int) (m : Int) (b : List Int) : Int × List Int × Bool := if two n a m b then (n, minm n.toNat a b, true) else (0, [], false)
def mulR (n : Int) (a : List Int) (m : Int) (b : List Int) : Int × List Int × Bool := if two n a m b then (n, mulm n.toNat a b, true) else (0, [], false)
theorem two_iff {n m : Int} {a b : List Int} : two n a m b = true ↔ mv n a = true ∧ mv m b = true ∧ n = m := by simp [two]
theorem cv_bd {a : Int} (h : cv a = true) : 0 ≤ a ∧ a ≤ 1000000 := cv_iff.1 h
theorem cv_dot {n : Nat} {f : Nat → Int} (h : ∀ l, l < n → 0 ≤ f l) : cv (dotTo f n) = true := cv_iff.2 (dotTo_bd h)
theorem mv_mulm {n : Nat} (h1 : 1 ≤ n) (h4 : n ≤ 4) {a b : List Int} (hla : a.length = n * n) (hlb : b.length = n * n) (hca : ∀ x ∈ a, cv x = true) (hcb : ∀ x ∈ b, cv x = true) : mv (n : Int) (mulm n a b) = true :=
  mv_cells h1 h4 fun i j hi hj => cv_dot fun l hl => (addc_bd (cv_iff.1 (cv_ent hla hca hi hl)).1 (cv_iff.1 (cv_ent hlb hcb hl hj)).1).1
theorem mv_minm {n : Nat} (h1 : 1 ≤ n) (h4 : n ≤ 4) {a b : List Int} (hla : a.length = n * n) (hlb : b.length = n * n) (hca : ∀ x ∈ a, cv x = true) (hcb : ∀ x ∈ b, cv x = true) : mv (n : Int) (minm n a b) = true :=
  mv_cells h1 h4 fun i j hi hj => by
    have c1 := cv_iff.1 (cv_ent hla hca hi hj)
    have c2 := cv_iff.1 (cv_ent hlb hcb hi hj)
    rw [cv_iff]
    omega
theorem mv_turnm {n : Nat} (h1 : 1 ≤ n) (h4 : n ≤ 4) {a : List Int} (hla : a.length = n * n) (hca : ∀ x ∈ a, cv x = true) : mv (n : Int) (turnm n a) = true :=
  mv_cells h1 h4 fun i j hi hj => cv_ent hla hca hj hi
theorem mv_unitm {n : Nat} (h1 : 1 ≤ n) (h4 : n ≤ 4) : mv (n : Int) (unitm n) = true :=
  mv_cells h1 h4 fun i j hi hj => by
    by_cases e : i = j <;> simp [e, cv]
/-- A matrix of so many rows that is valid. -/
structure Ok (n : Nat) (l : List Int) : Prop where
  h1 : 1 ≤ n
  h4 : n ≤ 4
  len : l.length = n * n
  all : ∀ x ∈ l, cv x = true
theorem ok_of {n : Nat} {l : List Int} (h : mv (n : Int) l = true) : Ok n l := by
  obtain ⟨m, hm, h1, h4, hl, hc⟩ := mv_nat h
  obtain rfl : n = m := by omega
  exact ⟨h1, h4, hl, hc⟩
theorem Ok.mv {n : Nat} {l : List Int} (h : Ok n l) : mv (n : Int) l = true := by
  rw [mv_iff]
  refine ⟨⟨by have := h.h1; omega, by have := h.h4; omega, ?_⟩, by simpa using h.all⟩
  rw [h.len, Int.natCast_mul]
theorem Ok.two {n : Nat} {a b : List Int} (ha : Ok n a) (hb : Ok n b) : two (n : Int) a (n : Int) b = true := two_iff.2 ⟨ha.mv, hb.mv, rfl⟩
theorem Ok.mul {n : Nat} {a b : List Int} (ha : Ok n a) (hb : Ok n b) : Ok n (mulm n a b) := ok_of (mv_mulm ha.h1 ha.h4 ha.len hb.len ha.all hb.all)
theorem Ok.min {n : Nat} {a b : List Int} (ha : Ok n a) (hb : Ok n b) : Ok n (minm n a b) := ok_of (mv_minm ha.h1 ha.h4 ha.len hb.len ha.all hb.all)
theorem Ok.turn {n : Nat} {a : List Int} (ha : Ok n a) : Ok n (turnm n a) := ok_of (mv_turnm ha.h1 ha.h4 ha.len ha.all)
theorem Ok.unit {n : Nat} (h1 : 1 ≤ n) (h4 : n ≤ 4) : Ok n (unitm n) := ok_of (mv_unitm h1 h4)
theorem Ok.short {n : Nat} {a : List Int} (ha : Ok n a) : a.length ≤ 16 := by rw [ha.len]; exact sq16 ha.h4
theorem mulR_ok {n : Nat} {a b : List Int} (ha : Ok n a) (hb : Ok n b) : mulR (n : Int) a (n : Int) b = ((n : Int), mulm n a b, true) := by rw [mulR, if_pos (ha.two hb), Int.toNat_natCast]
theorem minR_ok {n : Nat} {a b : List Int} (ha : Ok n a) (hb : Ok n b) : minR (n : Int) a (n : Int) b = ((n : Int), minm n a b, true) := by rw [minR, if_pos (ha.two hb), Int.toNat_natCast]
theorem turnR_ok {n : Nat} {a : List Int} (ha : Ok n a) : turnR (n : Int) a = ((n : Int), turnm n a, true) := by rw [turnR, if_pos ha.mv, Int.toNat_natCast]
theorem unitR_ok {n : Nat} (h1 : 1 ≤ n) (h4 : n ≤ 4) : unitR (n : Int) = ((n : Int), unitm n, true) := by rw [unitR, if_pos (by omega), Int.toNat_natCast]
theorem mv_ok {n : Int} {l : List Int} (h : _root_.Go.Proofs.Ytejnpldoakgadaa.Pure.mv n l = true) : ∃ m : Nat, n = (m : Int) ∧ Ok m l := by
  obtain ⟨m, hm, h1, h4, hl, hc⟩ := mv_nat h
  exact ⟨m, hm, h1, h4, hl, hc⟩
theorem sOk_iff {n : Int} {s : S51} : sOk n s = true ↔ (0 ≤ s.f0 ∧ s.f0 < n ∧ 0 ≤ s.f2 ∧ s.f2 < n ∧ 0 ≤ s.f3 ∧ s.f3 ≤ 3) ∧ (s.f1.toList = [97] ∨ s.f1.toList = [98]) := by
  simp [sOk, sA, sB]
theorem stepsOk_mem {n : Int} {l : List S51} (h : stepsOk n l = true) {s : S51} (hs : s ∈ l) : sOk n s = true := by
  obtain ⟨i, hi, rfl⟩ := List.mem_iff_getElem.1 hs
  have := allFrom_iff.1 h i (by omega) hi
  simp only [sAt, Bool.and_eq_true, rdI_nat hi] at this
  exact this.1
theorem av_nat {n : Int} {l1 l2 : List Int} {l3 : List S51} (h : av n l1 l2 l3 = true) : ∃ m : Nat, n = (m : Int) ∧ 1 ≤ m ∧ m ≤ 4 ∧ asc n l1 = true ∧ asc n l2 = true ∧ l3.length ≤ 24 ∧ stepsOk n l3 = true := by
  simp only [av, Bool.and_eq_true, decide_eq_true_eq] at h
  obtain ⟨⟨h1, h4⟩, ha, hb, hl, hs⟩ := h
  obtain ⟨m, rfl⟩ := Int.eq_ofNat_of_zero_le (show 0 ≤ n by omega)
  exact ⟨m, rfl, by omega, by omega, ha, hb, hl, hs⟩
/-- A step's cost put into a matrix. -/
def putS (n : Nat) (c : ByteArray) (m : List Int) (s : S51) : List Int := if s.f1.toList = c.toList then m.set (s.f0 * (n : Int) + s.f2).toNat s.f3 else m
/-- The matrix of the steps by a letter. -/
def stepmat (n : Nat) (c : ByteArray) (l : List S51) : List Int := l.foldl (putS n c) (List.replicate (n * n) 1000000)
theorem putS_len (n : Nat) (c : ByteArray) (m : List Int) (s : S51) : (putS n c m s).length = m.length := by
  unfold putS
  split <;> simp
theorem foldS_len (n : Nat) (c : ByteArray) (l : List S51) : ∀ m : List Int, (l.foldl (putS n c) m).length = m.length := by
  induction l with
  | nil => intro m; rfl
  | cons s l ih => intro m; rw [List.foldl_cons, ih, putS_len]
theorem stepmat_len (n : Nat) (c : ByteArray) (l : List S51) : (stepmat n c l).length = n * n := by rw [stepmat, foldS_len]; simp
theorem foldS_cv {n : Nat} (c : ByteArray) (l : List S51) (hl : ∀ s ∈ l, sOk (n : Int) s = true) : ∀ m : List Int, (∀ x ∈ m, cv x = true) → ∀ x ∈ l.foldl (putS n c) m, cv x = true := by
  induction l with
  | nil => intro m h; exact h
  | cons s l ih =>
    intro m h
    rw [List.foldl_cons]
    refine ih (fun s hs => hl s (List.mem_cons_of_mem _ hs)) _ ?_
    intro x hx
    unfold putS at hx
    split at hx
    · rcases List.mem_or_eq_of_mem_set hx with e | e
      · exact h x e
      · have := (sOk_iff.1 (hl s List.mem_cons_self)).1
        subst e
        exact cv_iff.2 (by omega)
    · exact h x hx
theorem stepmat_ok {n : Nat} (h1 : 1 ≤ n) (h4 : n ≤ 4) (c : ByteArray) {l : List S51} (hl : ∀ s ∈ l, sOk (n : Int) s = true) : Ok n (stepmat n c l) :=
  ⟨h1, h4, stepmat_len n c l, foldS_cv c l hl _ fun x hx => by rw [(List.mem_replicate.1 hx).2]; rfl⟩
def stepR (n : Int) (l1 l2 : List Int) (l3 : List S51) (c : ByteArray) : Int × List Int × Bool := if av n l1 l2 l3 && (sA c || sB c) then (n, stepmat n.toNat c l3, true) else (0, [], false)
theorem step_at {n : Nat} (h4 : n ≤ 4) {s : S51} (h : sOk (n : Int) s = true) : ∃ q : Nat, q < n * n ∧ wrap64 ((wrap64 (s.f0 * (n : Int))) + s.f2) = (q : Int) ∧ (s.f0 * (n : Int) + s.f2).toNat = q := by
  have hb := (sOk_iff.1 h).1
  obtain ⟨i, hi⟩ := Int.eq_ofNat_of_zero_le hb.1
  obtain ⟨j, hj⟩ := Int.eq_ofNat_of_zero_le hb.2.2.1
  have hi4 : i < n := by omega
  have hj4 : j < n := by omega
  refine ⟨i * n + j, idx_lt hi4 hj4, ?_, ?_⟩
  · rw [hi, hj]; exact idx_wrap h4 hi4 hj4
  · rw [hi, hj, ← Int.natCast_mul, ← Int.natCast_add, Int.toNat_natCast]
theorem spec_l3Marks_ev (n : Int) (h1 : 1 ≤ n) (h4 : n ≤ 4) (l : List Int) (hl : l.length < 9223372036854775807) : Ev (fun k => spec_l3Marks.f k n l) (asc n l) := by
  have h := down l.length (P := fun i => Ev (fun k => spec_l3Marks.l0 k n l l (l.length : Int) (i : Int)) (allFrom (ascAt n l) l.length i)) ?_ ?_ 0 (by omega)
  · simpa only [spec_l3Marks.f, asc, cast0] using h
  · refine Ev.step (fun k => rfl) ?_
    simp only [spec_l3Marks.l0, if_neg (show ¬ (l.length : Int) < (l.length : Int) by omega), allFrom_end]
    exact Ev.now _
  · intro i hi ih
    refine Ev.step (fun k => rfl) ?_
    simp only [spec_l3Marks.l0, if_pos (show (i : Int) < (l.length : Int) by omega), if_pos (nnc i), spec_l1In_eq, Option.bind_some, w64n (show i < 9223372036854775807 by omega), w64 (show -9223372036854775808 ≤ n - 1 by omega) (show n - 1 ≤ 9223372036854775807 by omega)]
    rw [allFrom_step hi]
    by_cases hc : 0 ≤ rd l i ∧ rd l i ≤ n - 1
    · simp only [show decide (0 ≤ rd l i ∧ rd l i ≤ n - 1) = true by simpa using hc, if_true]
      by_cases h0 : i = 0
      · subst h0
        simp only [cast0, if_neg (show ¬ (0 : Int) > 0 by omega)]
        exact ev_to ih (by simp [ascAt, show (0 : Int) ≤ rd l 0 from hc.1, show rd l 0 < n by have := hc.2; simp at this; omega])
      · simp only [if_pos (show (i : Int) > 0 by omega), pred_w (show 0 < i by omega) (show i < 9223372036854775807 by omega), if_pos (nnc (i - 1)), if_pos (show ((i - 1 : Nat) : Int) < (l.length : Int) by omega)]
        by_cases hb : rd l ((i - 1 : Nat) : Int) ≥ rd l i
        · simp only [if_pos hb]
          exact ev_to (Ev.now _) (by simp [ascAt, h0, show ¬ rd l ((i - 1 : Nat) : Int) < rd l i by omega])
        · simp only [if_neg hb]
          exact ev_to ih (by simp [ascAt, hc.1, show rd l i < n by omega, show rd l ((i - 1 : Nat) : Int) < rd l i by omega])
    · simp only [show decide (0 ≤ rd l i ∧ rd l i ≤ n - 1) = false by simpa using hc, Bool.false_eq_true, if_false]
      refine ev_to (Ev.now _) ?_
      by_cases ha : 0 ≤ rd l i
      · simp [ascAt, show ¬ rd l i < n by omega]
      · simp [ascAt, ha]
theorem spec_AutomatonValid_steps {n : Int} (h1 : 1 ≤ n) (h4 : n ≤ 4) (l1 l2 : List Int) (l3 : List S51) (h3 : l3.length < 9223372036854775807) : Ev (fun k => spec_AutomatonValid.l0 k l3 (l3.length : Int) 0 n l1 l2 l3) (stepsOk n l3) := by
  have h := down l3.length (P := fun i => Ev (fun k => spec_AutomatonValid.l0 k l3 (l3.length : Int) (i : Int) n l1 l2 l3) (allFrom (sAt n l3) l3.length i)) ?_ ?_ 0 (by omega)
  · simpa only [stepsOk, cast0] using h
  · refine Ev.step (fun k => rfl) ?_
    simp only [spec_AutomatonValid.l0, if_neg (show ¬ (l3.length : Int) < (l3.length : Int) by omega), allFrom_end]
    exact Ev.now _
  · intro i hi ih
    refine Ev.step (fun k => rfl) ?_
    simp only [spec_AutomatonValid.l0, if_pos (show (i : Int) < (l3.length : Int) by omega), if_pos (nnc i), spec_l3Step_eq h1 h4, spec_l3Before_eq, Option.bind_some, w64n (show i < 9223372036854775807 by omega)]
    rw [allFrom_step hi]
    cases hs : sOk n (rd_T51 l3 (i : Int)) with
    | false =>
      simp only [Bool.false_eq_true, if_false]
      exact ev_to (Ev.now _) (by simp [sAt, hs])
    | true =>
      simp only [if_true]
      by_cases h0 : i = 0
      · subst h0
        simp only [cast0, if_neg (show ¬ (0 : Int) > 0 by omega)]
        exact ev_to ih (by simp only [cast0] at hs; simp [sAt, hs])
      · simp only [if_pos (show (i : Int) > 0 by omega), pred_w (show 0 < i by omega) (show i < 9223372036854775807 by omega), if_pos (nnc (i - 1)), if_pos (show ((i - 1 : Nat) : Int) < (l3.length : Int) by omega)]
        cases hb : sLt (rd_T51 l3 ((i - 1 : Nat) : Int)) (rd_T51 l3 (i : Int)) with
        | false =>
          simp only [Bool.false_eq_true, if_false]
          exact ev_to (Ev.now _) (by simp [sAt, h0, hb])
        | true =>
          simp only [if_true]
          exact ev_to ih (by simp [sAt, hs, hb])
theorem spec_AutomatonValid_ev (n : Int) (l1 l2 : List Int) (l3 : List S51) (h1 : l1.length < 9223372036854775807) (h2 : l2.length < 9223372036854775807) (h3 : l3.length < 9223372036854775807) : Ev (fun k => spec_AutomatonValid.f k n l1 l2 l3) (av n l1 l2 l3) := by
  have hno : Ev (fun k => spec_AutomatonValid.j0 k true n l1 l2 l3) false := by
    refine Ev.step (fun k => rfl) ?_
    simp only [spec_AutomatonValid.j0, if_true]
    exact Ev.now _
  simp only [spec_AutomatonValid.f, spec_l1In_eq, Option.bind_some]
  by_cases c0 : 1 ≤ n ∧ n ≤ 4
  · simp only [show decide (1 ≤ n ∧ n ≤ 4) = true by simpa using c0, if_true]
    refine Ev.bind (spec_l3Marks_ev n c0.1 c0.2 l1 h1) ?_
    cases e1 : asc n l1 with
    | false =>
      simp only [Bool.false_eq_true, if_false]
      exact ev_to hno (by simp [av, e1])
    | true =>
      simp only [if_true]
      refine Ev.bind (spec_l3Marks_ev n c0.1 c0.2 l2 h2) ?_
      cases e2 : asc n l2 with
      | false =>
        simp only [Bool.false_eq_true, if_false]
        exact ev_to hno (by simp [av, e2])
      | true =>
        simp only [if_true]
        by_cases c3 : (l3.length : Int) > 24
        · simp only [c3, decide_true]
          exact ev_to hno (by simp [av, show ¬ l3.length ≤ 24 by omega])
        · simp only [c3, decide_false]
          refine Ev.step (fun k => rfl) ?_
          simp only [spec_AutomatonValid.j0, Bool.false_eq_true, if_false]
          exact ev_to (spec_AutomatonValid_steps c0.1 c0.2 l1 l2 l3 h3) (by simp [av, e1, e2, c0.1, c0.2, show l3.length ≤ 24 by omega])
  · simp only [show decide (1 ≤ n ∧ n ≤ 4) = false by simpa using c0, Bool.false_eq_true, if_false]
    exact ev_to hno (by simp only [av]; rw [show decide (1 ≤ n ∧ n ≤ 4) = false by simpa using c0]; rfl)
theorem tdiv_nat (t n : Nat) (h : t < 1000) : wrap64 (Int.tdiv (t : Int) (n : Int)) = ((t / n : Nat) : Int) := by
  have e : Int.tdiv (t : Int) (n : Int) = ((t / n : Nat) : Int) := rfl
  have h2 := Nat.div_le_self t n
  rw [e]
  generalize t / n = q at h2 ⊢
  exact w64 (by omega) (by omega)
theorem tmod_nat (t n : Nat) : Int.tmod (t : Int) (n : Int) = ((t % n : Nat) : Int) := rfl
theorem sq_wrap {n : Nat} (h : n ≤ 4) : wrap64 ((n : Int) * (n : Int)) = ((n * n : Nat) : Int) := by
  have := sq16 h
  have e : ((n * n : Nat) : Int) = (n : Int) * (n : Int) := Int.natCast_mul _ _
  rw [w64 (by omega) (by omega), e]
theorem div_lt {n t : Nat} (h : t < n * n) : 0 < n ∧ t / n < n ∧ t % n < n := by
  have hn : 0 < n := by
    cases n with
    | zero => simp at h
    | succ n => omega
  exact ⟨hn, Nat.div_lt_of_lt_mul h, Nat.mod_lt _ hn⟩
theorem divmod (t n : Nat) : t / n * n + t % n = t := by rw [Nat.mul_comm]; exact Nat.div_add_mod t n
theorem spec_l3Matrix_l1 {n : Nat} (h4 : n ≤ 4) (a1 a2 : List Int) (l : List S51) (hl : l.length ≤ 24) (hs : ∀ s ∈ l, sOk (n : Int) s = true) (c : ByteArray) (m : List Int) (hm : m.length = n * n) : Ev (fun k => spec_l3Matrix.l1 k c l (l.length : Int) 0 (n : Int) a1 a2 l (n : Int) m) ((n : Int), l.foldl (putS n c) m) := by
  have h := down l.length (P := fun i => ∀ m : List Int, m.length = n * n → Ev (fun k => spec_l3Matrix.l1 k c l (l.length : Int) (i : Int) (n : Int) a1 a2 l (n : Int) m) ((n : Int), (l.drop i).foldl (putS n c) m)) ?_ ?_ 0 (by omega) m hm
  · simpa only [cast0, List.drop_zero] using h
  · intro m hm
    refine Ev.step (fun k => rfl) ?_
    simp only [spec_l3Matrix.l1, if_neg (show ¬ (l.length : Int) < (l.length : Int) by omega), dropn, List.foldl_nil]
    exact Ev.now _
  · intro i hi ih m hm
    obtain ⟨q, hq, e1, e2⟩ := step_at h4 (hs _ (List.getElem_mem hi))
    refine Ev.step (fun k => rfl) ?_
    simp only [spec_l3Matrix.l1, if_pos (show (i : Int) < (l.length : Int) by omega), if_pos (nnc i), rdI_nat hi, w64n (show i < 9223372036854775807 by omega), dropc hi, List.foldl_cons, e1, if_pos (nnc q), if_pos (show (q : Int) < (m.length : Int) by omega), Int.toNat_natCast]
    have e3 : putS n c m l[i] = if l[i].f1.toList = c.toList then m.set q l[i].f3 else m := by rw [putS, e2]
    by_cases he : l[i].f1.toList = c.toList
    · simp only [if_pos he]
      rw [if_pos he] at e3
      rw [e3]
      exact ih _ (by simpa using hm)
    · simp only [if_neg he]
      rw [if_neg he] at e3
      rw [e3]
      exact ih _ hm
theorem spec_l3Matrix_ev {n : Nat} (h4 : n ≤ 4) (a1 a2 : List Int) (l : List S51) (hl : l.length ≤ 24) (hs : ∀ s ∈ l, sOk (n : Int) s = true) (c : ByteArray) : Ev (fun k => spec_l3Matrix.f k (n : Int) a1 a2 l c) ((n : Int), stepmat n c l) := by
  have h16 := sq16 h4
  have h := down (n * n) (P := fun t => Ev (fun k => spec_l3Matrix.l0 k c ((n * n : Nat) : Int) (t : Int) (n : Int) a1 a2 l (n : Int) (List.replicate t 1000000)) ((n : Int), stepmat n c l)) ?_ ?_ 0 (by omega)
  · simpa only [spec_l3Matrix.f, sq_wrap h4, cast0, List.replicate_zero] using h
  · refine Ev.step (fun k => rfl) ?_
    simp only [spec_l3Matrix.l0, if_neg (show ¬ ((n * n : Nat) : Int) < ((n * n : Nat) : Int) by omega)]
    exact spec_l3Matrix_l1 h4 a1 a2 l hl hs c _ (by simp)
  · intro t ht ih
    refine Ev.step (fun k => rfl) ?_
    simp only [spec_l3Matrix.l0, if_pos (show (t : Int) < ((n * n : Nat) : Int) by omega), List.length_replicate, if_pos (show t < 17592186044416 by omega), w64n (show t < 9223372036854775807 by omega), ← List.replicate_succ']
    exact ih
theorem spec_StepMatrix_ev (n : Int) (l1 l2 : List Int) (l3 : List S51) (c : ByteArray) (h1 : l1.length < 9223372036854775807) (h2 : l2.length < 9223372036854775807) (h3 : l3.length < 9223372036854775807) : Ev (fun k => spec_StepMatrix.f k n l1 l2 l3 c) (stepR n l1 l2 l3 c) := by
  simp only [spec_StepMatrix.f]
  refine Ev.bind (spec_AutomatonValid_ev n l1 l2 l3 h1 h2 h3) ?_
  cases hv : av n l1 l2 l3 with
  | false =>
    simp only [Bool.false_eq_true, if_false]
    exact ev_to (Ev.now _) (by simp [stepR, hv])
  | true =>
    simp only [if_true]
    obtain ⟨m, rfl, m1, m4, -, -, hl, hs⟩ := av_nat hv
    have hm := spec_l3Matrix_ev m4 l1 l2 l3 hl (fun s => stepsOk_mem hs) c
    by_cases ca : c.toList = [97]
    · simp only [if_pos ca]
      exact Ev.bind hm (ev_to (Ev.now _) (by simp [stepR, hv, sA, ca]))
    · simp only [if_neg ca]
      by_cases cb : c.toList = [98]
      · simp only [if_pos cb]
        exact Ev.bind hm (ev_to (Ev.now _) (by simp [stepR, hv, sB, cb]))
      · simp only [if_neg cb]
        exact ev_to (Ev.now _) (by simp [stepR, sA, sB, ca, cb])
theorem impl_statesOk_ev (n : Int) (l : List Int) (hl : l.length < 9223372036854775807) : Ev (fun k => impl_statesOk.f k l n) (asc n l) := by
  have h := down l.length (P := fun i => Ev (fun k => impl_statesOk.l0 k l n l (l.length : Int) (i : Int)) (allFrom (ascAt n l) l.length i)) ?_ ?_ 0 (by omega)
  · simpa only [impl_statesOk.f, asc, cast0] using h
  · refine Ev.step (fun k => rfl) ?_
    simp only [impl_statesOk.l0, if_neg (show ¬ (l.length : Int) < (l.length : Int) by omega), allFrom_end]
    exact Ev.now _
  · intro i hi ih
    refine Ev.step (fun k => rfl) ?_
    simp only [impl_statesOk.l0, if_pos (show (i : Int) < (l.length : Int) by omega), if_pos (nnc i), w64n (show i < 9223372036854775807 by omega)]
    rw [allFrom_step hi]
    by_cases ha : rd l i < 0
    · simp only [if_pos ha]
      exact ev_to (Ev.now _) (by simp [ascAt, show ¬ 0 ≤ rd l i by omega])
    · simp only [if_neg ha]
      by_cases hb : rd l i ≥ n
      · simp only [if_pos hb]
        exact ev_to (Ev.now _) (by simp [ascAt, show ¬ rd l i < n by omega])
      · simp only [if_neg hb]
        by_cases h0 : i = 0
        · subst h0
          simp only [cast0, if_neg (show ¬ (0 : Int) > 0 by omega)]
          exact ev_to ih (by simp [ascAt, show (0 : Int) ≤ rd l 0 by simp at ha; omega, show rd l 0 < n by simp at hb; omega])
        · simp only [if_pos (show (i : Int) > 0 by omega), pred_w (show 0 < i by omega) (show i < 9223372036854775807 by omega), if_pos (nnc (i - 1)), if_pos (show ((i - 1 : Nat) : Int) < (l.length : Int) by omega)]
          by_cases hc : rd l ((i - 1 : Nat) : Int) ≥ rd l i
          · simp only [if_pos hc]
            exact ev_to (Ev.now _) (by simp [ascAt, h0, show ¬ rd l ((i - 1 : Nat) : Int) < rd l i by omega])
          · simp only [if_neg hc]
            exact ev_to ih (by simp [ascAt, show 0 ≤ rd l i by omega, show rd l i < n by omega, show rd l ((i - 1 : Nat) : Int) < rd l i by omega])
theorem cmp_bytes : ∀ a b : List UInt8, Lib.compareBytes a b = if a = b then 0 else if Op.bytesLess a b then -1 else 1
  | [], [] => by simp [Lib.compareBytes]
  | [], _ :: _ => by simp [Lib.compareBytes, Op.bytesLess]
  | _ :: _, [] => by simp [Lib.compareBytes, Op.bytesLess]
  | x :: a, y :: b => by
    have ih := cmp_bytes a b
    simp only [Lib.compareBytes, Op.bytesLess]
    by_cases h1 : x < y
    · have hne : x ≠ y := fun e => by subst e; exact absurd h1 (UInt8.lt_irrefl x)
      simp [h1, hne]
    · by_cases h2 : y < x
      · have hne : x ≠ y := fun e => by subst e; exact absurd h2 (UInt8.lt_irrefl x)
        simp [h1, h2, hne]
      · have e : x = y := UInt8.le_antisymm (UInt8.not_lt.1 h2) (UInt8.not_lt.1 h1)
        subst e
        simp [h1, ih]
def cmpI (a b : Int) : Int := if a < b then -1 else if b < a then 1 else 0
theorem cmp_Compare_eq (a b : Int) : cmp_Compare_int.f a b = some (cmpI a b) := by
  simp only [cmp_Compare_int.f, cmp_isNaN_int.f, Option.bind_some, bne_self_eq_false, Bool.false_eq_true, if_false, cmpI]
  split
  · rfl
  · split <;> rfl
def ordS (s t : S51) : Int := if cmpI s.f0 t.f0 ≠ 0 then cmpI s.f0 t.f0 else if Lib.compareBytes s.f1.data.toList t.f1.data.toList ≠ 0 then Lib.compareBytes s.f1.data.toList t.f1.data.toList else cmpI s.f2 t.f2
theorem cmp_Or_ev (a b c : Int) : Ev (fun k => cmp_Or_int.f k [a, b, c]) (if a ≠ 0 then a else if b ≠ 0 then b else c) := by
  simp only [cmp_Or_int.f]
  refine Ev.step (fun k => rfl) ?_
  simp only [cmp_Or_int.l0, List.length_cons, List.length_nil, show ((0 + 1 + 1 + 1 : Nat) : Int) = 3 from rfl, if_pos (show (0 : Int) < 3 by omega), if_pos (show (0 : Int) ≤ 0 by omega), show rd [a, b, c] 0 = a from rfl, show wrap64 (0 + 1) = 1 by rw [w64 (by omega) (by omega)]; rfl]
  by_cases ha : a = 0
  · simp only [if_pos ha, ne_eq, ha, not_true_eq_false, if_false]
    refine Ev.step (fun k => rfl) ?_
    simp only [cmp_Or_int.l0, List.length_cons, List.length_nil, show ((0 + 1 + 1 + 1 : Nat) : Int) = 3 from rfl, if_pos (show (1 : Int) < 3 by omega), if_pos (show (0 : Int) ≤ 1 by omega), show rd [0, b, c] 1 = b from rfl, show wrap64 (1 + 1) = 2 by rw [w64 (by omega) (by omega)]; rfl]
    by_cases hb : b = 0
    · simp only [if_pos hb, ne_eq, hb, not_true_eq_false, if_false]
      refine Ev.step (fun k => rfl) ?_
      simp only [cmp_Or_int.l0, List.length_cons, List.length_nil, show ((0 + 1 + 1 + 1 : Nat) : Int) = 3 from rfl, if_pos (show (2 : Int) < 3 by omega), if_pos (show (0 : Int) ≤ 2 by omega), show rd [0, 0, c] 2 = c from rfl, show wrap64 (2 + 1) = 3 by rw [w64 (by omega) (by omega)]; rfl]
      by_cases hc : c = 0
      · simp only [if_pos hc]
        refine Ev.step (fun k => rfl) ?_
        simp only [cmp_Or_int.l0, List.length_cons, List.length_nil, show ((0 + 1 + 1 + 1 : Nat) : Int) = 3 from rfl, if_neg (show ¬ (3 : Int) < 3 by omega)]
        exact ev_to (Ev.now _) hc.symm
      · simp only [if_neg hc]
        exact Ev.now _
    · simp only [if_neg hb, ne_eq, hb, not_false_eq_true, if_true]
      exact Ev.now _
  · simp only [if_neg ha, ne_eq, ha, not_false_eq_true, if_true]
    exact Ev.now _
theorem impl_stepOrder_ev (s t : S51) : Ev (fun k => impl_stepOrder.f k s.f0 s.f1 s.f2 s.f3 t.f0 t.f1 t.f2 t.f3) (ordS s t) := by
  simp only [impl_stepOrder.f, cmp_Compare_eq, strings_Compare.f, Option.bind_some]
  exact Ev.bind (cmp_Or_ev _ _ _) (Ev.now _)
theorem ordS_lt (s t : S51) : (ordS s t < 0) = (sLt s t = true) := by
  simp only [ordS, sLt, cmp_bytes, cmpI, Lib.toList_data]
  by_cases h0 : s.f0 = t.f0
  · rw [h0]
    simp only [Int.lt_irrefl, if_false, ne_eq, not_true_eq_false, if_true]
    by_cases h1 : s.f1.data.toList = t.f1.data.toList
    · simp only [if_pos h1, not_true_eq_false, if_false, decide_eq_true_eq]
      apply propext
      constructor
      · intro h
        split at h
        · assumption
        · split at h <;> omega
      · intro h
        rw [if_pos h]
        omega
    · simp only [if_neg h1]
      cases hb : Op.bytesLess s.f1.data.toList t.f1.data.toList <;> simp
  · simp only [if_neg h0]
    by_cases h1 : s.f0 < t.f0
    · simp [h1]
    · simp [h1, show t.f0 < s.f0 by omega]
theorem impl_AutomatonValid_steps {n : Int} (l1 l2 : List Int) (l3 : List S51) (h3 : l3.length < 9223372036854775807) : Ev (fun k => impl_AutomatonValid.l0 k l3 (l3.length : Int) 0 n l1 l2 l3) (stepsOk n l3) := by
  have h := down l3.length (P := fun i => Ev (fun k => impl_AutomatonValid.l0 k l3 (l3.length : Int) (i : Int) n l1 l2 l3) (allFrom (sAt n l3) l3.length i)) ?_ ?_ 0 (by omega)
  · simpa only [stepsOk, cast0] using h
  · refine Ev.step (fun k => rfl) ?_
    simp only [impl_AutomatonValid.l0, if_neg (show ¬ (l3.length : Int) < (l3.length : Int) by omega), allFrom_end]
    exact Ev.now _
  · intro i hi ih
    have hno : sOk n (rd_T51 l3 (i : Int)) = false → (sAt n l3 i && allFrom (sAt n l3) l3.length (i + 1)) = false := fun e => by simp [sAt, e]
    have hlast : sOk n (rd_T51 l3 (i : Int)) = true → Ev (fun k => if (i : Int) > 0 then (if 0 ≤ wrap64 ((i : Int) - 1) then (if wrap64 ((i : Int) - 1) < (l3.length : Int) then ((impl_stepOrder.f k (rd_T51 l3 (wrap64 ((i : Int) - 1))).f0 (rd_T51 l3 (wrap64 ((i : Int) - 1))).f1 (rd_T51 l3 (wrap64 ((i : Int) - 1))).f2 (rd_T51 l3 (wrap64 ((i : Int) - 1))).f3 (rd_T51 l3 (i : Int)).f0 (rd_T51 l3 (i : Int)).f1 (rd_T51 l3 (i : Int)).f2 (rd_T51 l3 (i : Int)).f3).bind fun t => if t ≥ 0 then some false else impl_AutomatonValid.l0 k l3 (l3.length : Int) ((i + 1 : Nat) : Int) n l1 l2 l3) else none) else none) else impl_AutomatonValid.l0 k l3 (l3.length : Int) ((i + 1 : Nat) : Int) n l1 l2 l3) (sAt n l3 i && allFrom (sAt n l3) l3.length (i + 1)) := by
      intro hs
      by_cases h0 : i = 0
      · subst h0
        simp only [cast0, if_neg (show ¬ (0 : Int) > 0 by omega)]
        exact ev_to ih (by simp only [cast0] at hs; simp [sAt, hs])
      · simp only [if_pos (show (i : Int) > 0 by omega), pred_w (show 0 < i by omega) (show i < 9223372036854775807 by omega), if_pos (nnc (i - 1)), if_pos (show ((i - 1 : Nat) : Int) < (l3.length : Int) by omega)]
        refine Ev.bind (impl_stepOrder_ev _ _) ?_
        have ho := ordS_lt (rd_T51 l3 ((i - 1 : Nat) : Int)) (rd_T51 l3 (i : Int))
        cases hb : sLt (rd_T51 l3 ((i - 1 : Nat) : Int)) (rd_T51 l3 (i : Int)) with
        | false =>
          rw [hb] at ho
          simp only [if_pos (show ordS (rd_T51 l3 ((i - 1 : Nat) : Int)) (rd_T51 l3 (i : Int)) ≥ 0 by simp at ho; omega)]
          exact ev_to (Ev.now _) (by simp [sAt, h0, hb])
        | true =>
          rw [hb] at ho
          simp only [eq_self_iff_true, eq_iff_iff, iff_true] at ho
          simp only [if_neg (show ¬ ordS (rd_T51 l3 ((i - 1 : Nat) : Int)) (rd_T51 l3 (i : Int)) ≥ 0 by omega)]
          exact ev_to ih (by simp [sAt, hs, hb])
    refine Ev.step (fun k => rfl) ?_
    simp only [impl_AutomatonValid.l0, if_pos (show (i : Int) < (l3.length : Int) by omega), if_pos (nnc i), w64n (show i < 9223372036854775807 by omega)]
    rw [allFrom_step hi]
    by_cases c0 : (rd_T51 l3 (i : Int)).f0 < 0
    · simp only [if_pos c0]
      exact ev_to (Ev.now _) (hno (by simp [sOk]; omega)).symm
    simp only [if_neg c0]
    by_cases c1 : (rd_T51 l3 (i : Int)).f0 ≥ n
    · simp only [if_pos c1]
      exact ev_to (Ev.now _) (hno (by simp [sOk]; omega)).symm
    simp only [if_neg c1]
    by_cases c2 : (rd_T51 l3 (i : Int)).f2 < 0
    · simp only [if_pos c2]
      exact ev_to (Ev.now _) (hno (by simp [sOk]; omega)).symm
    simp only [if_neg c2]
    by_cases c3 : (rd_T51 l3 (i : Int)).f2 ≥ n
    · simp only [if_pos c3]
      exact ev_to (Ev.now _) (hno (by simp [sOk]; omega)).symm
    simp only [if_neg c3]
    have hcost : ∀ hl : (sA (rd_T51 l3 (i : Int)).f1 || sB (rd_T51 l3 (i : Int)).f1) = true, ∀ {g : Nat → Option Bool}, (sOk n (rd_T51 l3 (i : Int)) = true → Ev g (sAt n l3 i && allFrom (sAt n l3) l3.length (i + 1))) → Ev (fun k => if (rd_T51 l3 (i : Int)).f3 < 0 then some false else if (rd_T51 l3 (i : Int)).f3 > 3 then some false else g k) (sAt n l3 i && allFrom (sAt n l3) l3.length (i + 1)) := by
      intro hl g hg
      by_cases c4 : (rd_T51 l3 (i : Int)).f3 < 0
      · simp only [if_pos c4]
        exact ev_to (Ev.now _) (hno (by simp [sOk]; omega)).symm
      simp only [if_neg c4]
      by_cases c5 : (rd_T51 l3 (i : Int)).f3 > 3
      · simp only [if_pos c5]
        exact ev_to (Ev.now _) (hno (by simp [sOk]; omega)).symm
      simp only [if_neg c5]
      refine hg ?_
      simp only [sOk, hl, Bool.and_true, decide_eq_true_eq]
      omega
    by_cases ca : (rd_T51 l3 (i : Int)).f1.toList = [97]
    · simp only [if_pos ca]
      exact hcost (by simp [sA, ca]) hlast
    · simp only [if_neg ca]
      by_cases cb : (rd_T51 l3 (i : Int)).f1.toList = [98]
      · simp only [if_pos cb]
        exact hcost (by simp [sB, cb]) hlast
      · simp only [if_neg cb]
        exact ev_to (Ev.now _) (hno (by simp [sOk, sA, sB, ca, cb])).symm
theorem impl_AutomatonValid_ev (n : Int) (l1 l2 : List Int) (l3 : List S51) (h1 : l1.length < 9223372036854775807) (h2 : l2.length < 9223372036854775807) (h3 : l3.length < 9223372036854775807) : Ev (fun k => impl_AutomatonValid.f k n l1 l2 l3) (av n l1 l2 l3) := by
  have hno : Ev (fun k => impl_AutomatonValid.j0 k true n l1 l2 l3) false := by
    refine Ev.step (fun k => rfl) ?_
    simp only [impl_AutomatonValid.j0, if_true]
    exact Ev.now _
  simp only [impl_AutomatonValid.f]
  by_cases c0 : n < 1
  · simp only [if_pos c0]
    exact ev_to hno (by simp only [av]; rw [show decide (1 ≤ n ∧ n ≤ 4) = false by simp; omega]; rfl)
  simp only [if_neg c0]
  by_cases c1 : n > 4
  · simp only [if_pos c1]
    exact ev_to hno (by simp only [av]; rw [show decide (1 ≤ n ∧ n ≤ 4) = false by simp; omega]; rfl)
  simp only [if_neg c1]
  by_cases c3 : (l3.length : Int) > 24
  · simp only [if_pos c3]
    exact ev_to hno (by simp [av, show ¬ l3.length ≤ 24 by omega])
  simp only [if_neg c3]
  refine Ev.bind (impl_statesOk_ev n l1 h1) ?_
  cases e1 : asc n l1 with
  | false =>
    simp only [Bool.false_eq_true, if_false]
    exact ev_to hno (by simp [av, e1])
  | true =>
    simp only [if_true]
    refine Ev.bind (impl_statesOk_ev n l2 h2) ?_
    cases e2 : asc n l2 with
    | false => exact ev_to hno (by simp [av, e2])
    | true =>
      simp only [Bool.not_true]
      refine Ev.step (fun k => rfl) ?_
      simp only [impl_AutomatonValid.j0, Bool.false_eq_true, if_false]
      exact ev_to (impl_AutomatonValid_steps l1 l2 l3 h3) (by simp [av, e1, e2, show 1 ≤ n by omega, show n ≤ 4 by omega, show l3.length ≤ 24 by omega])
theorem filled_StepMatrix_1_l1 {n : Nat} (hn : n ≤ 4) (g : Nat → Nat → Int) (hg : ∀ i j : Nat, i < n → j < n → impl_StepMatrix_1.f (i : Int) (j : Int) = some (g i j)) (i : Nat) (hi : i < n)
    (ho : Ev (fun k => impl_filled_at_impl_StepMatrix_1.l0 k (n : Int) (n : Int) ((i + 1 : Nat) : Int) (n : Int) (cellsTo n g ((i + 1) * n))) ((n : Int), cells n g)) :
    ∀ j, j ≤ n → Ev (fun k => impl_filled_at_impl_StepMatrix_1.l1 k (n : Int) (i : Int) (n : Int) (i : Int) (n : Int) (j : Int) (n : Int) (cellsTo n g (i * n + j))) ((n : Int), cells n g) := by
  have e1 : i * n + n = (i + 1) * n := by rw [Nat.add_mul]; omega
  refine down n ?_ ?_
  · refine Ev.step (fun k => rfl) ?_
    simp only [impl_filled_at_impl_StepMatrix_1.l1, if_neg (show ¬ (n : Int) < (n : Int) by omega), w64n (show i < 9223372036854775807 by omega), e1]
    exact ho
  · intro j hj ih
    have hl := idx_lt hi hj
    have hs := sq16 hn
    have hd := div_idx (i := i) hj
    have hnx := cellsTo_next n g (i * n + j)
    rw [hd.1, hd.2] at hnx
    refine Ev.step (fun k => rfl) ?_
    simp only [impl_filled_at_impl_StepMatrix_1.l1, if_pos (show (j : Int) < (n : Int) by omega)]
    simp only [hg i j hi hj, Option.bind_some]
    simp only [cellsTo_len, if_pos (show i * n + j < 17592186044416 by omega), hnx, w64n (show j < 9223372036854775807 by omega)]
    exact ih
theorem filled_StepMatrix_1_ev {n : Nat} (hn : n ≤ 4) (g : Nat → Nat → Int) (hg : ∀ i j : Nat, i < n → j < n → impl_StepMatrix_1.f (i : Int) (j : Int) = some (g i j)) :
    Ev (fun k => impl_filled_at_impl_StepMatrix_1.f k (n : Int)) ((n : Int), cells n g) := by
  have h := down n (P := fun i => Ev (fun k => impl_filled_at_impl_StepMatrix_1.l0 k (n : Int) (n : Int) (i : Int) (n : Int) (cellsTo n g (i * n))) ((n : Int), cells n g)) ?_ ?_ 0 (by omega)
  · simpa only [impl_filled_at_impl_StepMatrix_1.f, Nat.zero_mul, cast0, cellsTo, List.range_zero, List.map_nil] using h
  · refine Ev.step (fun k => rfl) ?_
    simp only [impl_filled_at_impl_StepMatrix_1.l0, if_neg (show ¬ (n : Int) < (n : Int) by omega)]
    exact Ev.now _
  · intro i hi ih
    refine Ev.step (fun k => rfl) ?_
    simp only [impl_filled_at_impl_StepMatrix_1.l0, if_pos (show (i : Int) < (n : Int) by omega)]
    exact filled_StepMatrix_1_l1 hn g hg i hi ih 0 (by omega)
theorem cells_const (n : Nat) (v : Int) : cells n (fun _ _ => v) = List.replicate (n * n) v := by
  simp [cells, List.map_const']
theorem impl_StepMatrix_l0 {n : Nat} (h4 : n ≤ 4) (l : List S51) (hl : l.length ≤ 24) (hs : ∀ s ∈ l, sOk (n : Int) s = true) (c : ByteArray) (m : List Int) (hm : m.length = n * n) : Ev (fun k => impl_StepMatrix.l0 k c l (l.length : Int) 0 (n : Int) m) ((n : Int), l.foldl (putS n c) m, true) := by
  have h := down l.length (P := fun i => ∀ m : List Int, m.length = n * n → Ev (fun k => impl_StepMatrix.l0 k c l (l.length : Int) (i : Int) (n : Int) m) ((n : Int), (l.drop i).foldl (putS n c) m, true)) ?_ ?_ 0 (by omega) m hm
  · simpa only [cast0, List.drop_zero] using h
  · intro m hm
    refine Ev.step (fun k => rfl) ?_
    simp only [impl_StepMatrix.l0, if_neg (show ¬ (l.length : Int) < (l.length : Int) by omega), dropn, List.foldl_nil]
    exact Ev.now _
  · intro i hi ih m hm
    obtain ⟨q, hq, e1, e2⟩ := step_at h4 (hs _ (List.getElem_mem hi))
    refine Ev.step (fun k => rfl) ?_
    simp only [impl_StepMatrix.l0, if_pos (show (i : Int) < (l.length : Int) by omega), if_pos (nnc i), rdI_nat hi, w64n (show i < 9223372036854775807 by omega), dropc hi, List.foldl_cons, e1, if_pos (nnc q), if_pos (show (q : Int) < (m.length : Int) by omega), Int.toNat_natCast]
    have e3 : putS n c m l[i] = if l[i].f1.toList = c.toList then m.set q l[i].f3 else m := by rw [putS, e2]
    by_cases he : l[i].f1.toList = c.toList
    · simp only [if_pos he]
      rw [if_pos he] at e3
      rw [e3]
      exact ih _ (by simpa using hm)
    · simp only [if_neg he]
      rw [if_neg he] at e3
      rw [e3]
      exact ih _ hm
theorem impl_StepMatrix_ev (n : Int) (l1 l2 : List Int) (l3 : List S51) (c : ByteArray) (h1 : l1.length < 9223372036854775807) (h2 : l2.length < 9223372036854775807) (h3 : l3.length < 9223372036854775807) : Ev (fun k => impl_StepMatrix.f k n l1 l2 l3 c) (stepR n l1 l2 l3 c) := by
  have hno : ∀ e : stepR n l1 l2 l3 c = (0, [], false), Ev (fun k => impl_StepMatrix.j0 k c true n l1 l2 l3) (stepR n l1 l2 l3 c) := by
    intro e
    rw [e]
    refine Ev.step (fun k => rfl) ?_
    simp only [impl_StepMatrix.j0, if_true]
    exact Ev.now _
  simp only [impl_StepMatrix.f]
  refine Ev.bind (impl_AutomatonValid_ev n l1 l2 l3 h1 h2 h3) ?_
  cases hv : av n l1 l2 l3 with
  | false =>
    simp only [Bool.false_eq_true, if_false]
    exact hno (by simp [stepR, hv])
  | true =>
    simp only [if_true]
    obtain ⟨m, rfl, m1, m4, -, -, hl, hs⟩ := av_nat hv
    have hyes : (sA c || sB c) = true → Ev (fun k => impl_StepMatrix.j0 k c false (m : Int) l1 l2 l3) (stepR (m : Int) l1 l2 l3 c) := by
      intro hc
      refine Ev.step (fun k => rfl) ?_
      simp only [impl_StepMatrix.j0, Bool.false_eq_true, if_false]
      refine Ev.bind (filled_StepMatrix_1_ev m4 (fun _ _ => 1000000) (fun _ _ _ _ => rfl)) ?_
      simp only [cells_const]
      refine ev_to (impl_StepMatrix_l0 m4 l3 hl (fun s => stepsOk_mem hs) c _ (by simp)) ?_
      simp only [stepR, hv, hc, Bool.and_self, if_true, Int.toNat_natCast]
      rfl
    by_cases ca : c.toList = [97]
    · simp only [if_pos ca]
      exact hyes (by simp [sA, ca])
    · simp only [if_neg ca]
      by_cases cb : c.toList = [98]
      · rw [show (c.toList != ([98] : List UInt8)) = false by simp [cb]]
        exact hyes (by simp [sB, cb])
      · rw [show (c.toList != ([98] : List UInt8)) = true by simpa using cb]
        exact hno (by simp [stepR, sA, sB, ca, cb])
def bA : ByteArray := ⟨#[97]⟩
def bB : ByteArray := ⟨#[98]⟩
def bE : ByteArray := ⟨#[]⟩
/-- Some step from i on has this letter. -/
def hasL (c : ByteArray) (l : List S51) : Bool := l.any fun s => s.f1.toList == c.toList
/-- The letters of an automaton. -/
def lettersOf (v : Bool) (l : List S51) : ByteArray := (if v && hasL bA l then bA else bE) ++ (if v && hasL bB l then bB else bE)
theorem any_drop {c : ByteArray} {l : List S51} {i : Nat} (h : i < l.length) : hasL c (l.drop i) = ((l[i].f1.toList == c.toList) || hasL c (l.drop (i + 1))) := by
  rw [dropc h]
  rfl
theorem rdOf_two0 (a b : ByteArray) : rdOf ByteArray.empty [a, b] 0 = a := rfl
theorem rdOf_two1 (a b : ByteArray) : rdOf ByteArray.empty [a, b] 1 = b := rfl
theorem spec_LettersOf_one {n : Int} {l1 l2 : List Int} {l3 : List S51} (h1 : l1.length < 9223372036854775807) (h2 : l2.length < 9223372036854775807) (h3 : l3.length < 9223372036854775807) {o c r : ByteArray} {i j : Int} (hi : 0 ≤ i ∧ i < 2) (hj : wrap64 (i + 1) = j) (hc : rdOf ByteArray.empty [bA, bB] i = c) (hs : o.size + c.size ≤ 9223372036854775807)
    (t0 : o.toList = [] ∨ ¬ o.toList = [] ∧ 0 ≤ wrap64 ((o.size : Int) - 1) ∧ wrap64 ((o.size : Int) - 1) ≤ (o.size : Int) ∧ ¬ (o.extract (wrap64 ((o.size : Int) - 1) : Int).toNat o.size).toList = c.toList)
    (t1 : ¬ (o ++ c).toList = [] ∧ 0 ≤ wrap64 (((o ++ c).size : Int) - 1) ∧ wrap64 (((o ++ c).size : Int) - 1) ≤ ((o ++ c).size : Int) ∧ ((o ++ c).extract (wrap64 (((o ++ c).size : Int) - 1) : Int).toNat (o ++ c).size).toList = c.toList)
    (h : Ev (fun k => spec_LettersOf.l0 k (if av n l1 l2 l3 && hasL c l3 then o ++ c else o) [bA, bB] 2 j n l1 l2 l3) r) : Ev (fun k => spec_LettersOf.l0 k o [bA, bB] 2 i n l1 l2 l3) r := by
  have hin := down l3.length (P := fun q => ∀ b : Bool, Ev (fun k => spec_LettersOf.l0 k (if b || (av n l1 l2 l3 && hasL c (l3.drop q)) then o ++ c else o) [bA, bB] 2 j n l1 l2 l3) r → Ev (fun k => spec_LettersOf.l1 k (if b then o ++ c else o) c [bA, bB] 2 i l3 (l3.length : Int) (q : Int) n l1 l2 l3) r) ?_ ?_ 0 (by omega) false
  · refine Ev.step (fun k => rfl) ?_
    simp only [spec_LettersOf.l0, if_pos hi.2, if_pos hi.1, List.length_cons, List.length_nil, show ((0 + 1 + 1 : Nat) : Int) = 2 from rfl, hc]
    simpa only [cast0, List.drop_zero, Bool.false_or, Bool.false_eq_true, if_false] using hin (by simpa only [cast0, List.drop_zero, Bool.false_or] using h)
  · intro b hb
    refine Ev.step (fun k => rfl) ?_
    simp only [spec_LettersOf.l1, if_neg (show ¬ (l3.length : Int) < (l3.length : Int) by omega), hj]
    simpa only [dropn, hasL, List.any_nil, Bool.and_false, Bool.or_false] using hb
  · intro q hq ih b hb
    refine Ev.step (fun k => rfl) ?_
    simp only [spec_LettersOf.l1, if_pos (show (q : Int) < (l3.length : Int) by omega), if_pos (nnc q), rdI_nat hq, w64n (show q < 9223372036854775807 by omega)]
    refine Ev.bind (spec_AutomatonValid_ev n l1 l2 l3 h1 h2 h3) ?_
    cases hv : av n l1 l2 l3 with
    | false =>
      simp only [Bool.false_eq_true, if_false]
      refine ih b ?_
      simpa only [hv, Bool.false_and] using hb
    | true =>
      simp only [if_true]
      by_cases he : l3[q].f1.toList = c.toList
      · simp only [if_pos he]
        have hb' : Ev (fun k => spec_LettersOf.l0 k (if true || (av n l1 l2 l3 && hasL c (l3.drop (q + 1))) then o ++ c else o) [bA, bB] 2 j n l1 l2 l3) r := by
          rw [any_drop hq, hv] at hb
          simpa [he] using hb
        have hgo := ih true hb'
        simp only [if_true] at hgo
        cases b with
        | true =>
          simp only [if_true]
          simp only [if_neg t1.1, if_pos t1.2.1, if_pos t1.2.2.1, if_pos t1.2.2.2]
          exact hgo
        | false =>
          simp only [Bool.false_eq_true, if_false]
          rcases t0 with e | e
          · simp only [if_pos e, if_pos hs]
            exact hgo
          · simp only [if_neg e.1, if_pos e.2.1, if_pos e.2.2.1, if_neg e.2.2.2, if_pos hs]
            exact hgo
      · simp only [if_neg he]
        refine ih b ?_
        rw [any_drop hq, hv] at hb
        simpa [he, hv] using hb
theorem spec_LettersOf_ev (n : Int) (l1 l2 : List Int) (l3 : List S51) (h1 : l1.length < 9223372036854775807) (h2 : l2.length < 9223372036854775807) (h3 : l3.length < 9223372036854775807) : Ev (fun k => spec_LettersOf.f k n l1 l2 l3) (lettersOf (av n l1 l2 l3) l3) := by
  have w0 : wrap64 (0 + 1) = 1 := by rw [w64 (by omega) (by omega)]; rfl
  have w1 : wrap64 (1 + 1) = 2 := by rw [w64 (by omega) (by omega)]; rfl
  have v0 : wrap64 ((1 : Int) - 1) = 0 := by rw [w64 (by omega) (by omega)]; rfl
  have v1 : wrap64 ((2 : Int) - 1) = 1 := by rw [w64 (by omega) (by omega)]; rfl
  simp only [spec_LettersOf.f, Option.bind_some]
  refine spec_LettersOf_one (o := bE) (c := bA) (i := 0) (j := 1) h1 h2 h3 (by omega) w0 rfl (by decide) (Or.inl (by rw [Lib.toList_data]; rfl)) ?_ ?_
  · simp only [show ((bE ++ bA).size : Int) = 1 from rfl, v0, Lib.toList_data]
    exact ⟨by decide, by omega, by omega, by decide⟩
  have key : ∀ o : ByteArray, o = bE ∨ o = bA → Ev (fun k => spec_LettersOf.l0 k o [bA, bB] 2 1 n l1 l2 l3) (o ++ (if av n l1 l2 l3 && hasL bB l3 then bB else bE)) := by
    intro o ho
    refine spec_LettersOf_one (c := bB) (i := 1) (j := 2) h1 h2 h3 (by omega) w1 rfl (by rcases ho with rfl | rfl <;> decide) ?_ ?_ ?_
    · rcases ho with rfl | rfl
      · exact Or.inl (by rw [Lib.toList_data]; rfl)
      · refine Or.inr ?_
        simp only [show (bA.size : Int) = 1 from rfl, v0, Lib.toList_data]
        exact ⟨by decide, by omega, by omega, by decide⟩
    · rcases ho with rfl | rfl
      · simp only [show ((bE ++ bB).size : Int) = 1 from rfl, v0, Lib.toList_data]
        exact ⟨by decide, by omega, by omega, by decide⟩
      · simp only [show ((bA ++ bB).size : Int) = 2 from rfl, v1, Lib.toList_data]
        exact ⟨by decide, by omega, by omega, by decide⟩
    · refine Ev.step (fun k => rfl) ?_
      simp only [spec_LettersOf.l0, if_neg (show ¬ (2 : Int) < 2 by omega)]
      refine ev_to (Ev.now _) ?_
      cases (av n l1 l2 l3 && hasL bB l3)
      · simp only [Bool.false_eq_true, if_false]; exact (ByteArray.append_empty).symm
      · simp
  cases hp : (av n l1 l2 l3 && hasL bA l3) with
  | true =>
    simp only [if_true]
    exact ev_to (key (bE ++ bA) (Or.inr (by decide))) (by unfold lettersOf; rw [hp]; rfl)
  | false =>
    simp only [Bool.false_eq_true, if_false]
    exact ev_to (key bE (Or.inl rfl)) (by unfold lettersOf; rw [hp]; rfl)
theorem impl_LettersIndex_ev (c : ByteArray) (l : List S51) (hl : l.length < 9223372036854775807) : ∃ r, Ev (fun k => slices_IndexFunc_Step_at_impl_LettersOf_1.f k l c) r ∧ decide (r ≥ 0) = hasL c l := by
  have h := down l.length (P := fun i => ∃ r, Ev (fun k => slices_IndexFunc_Step_at_impl_LettersOf_1.l0 k l (l.length : Int) (i : Int) c) r ∧ decide (r ≥ 0) = hasL c (l.drop i)) ?_ ?_ 0 (by omega)
  · simpa only [slices_IndexFunc_Step_at_impl_LettersOf_1.f, cast0, List.drop_zero] using h
  · refine ⟨-1, Ev.step (fun k => rfl) ?_, by rw [dropn]; rfl⟩
    simp only [slices_IndexFunc_Step_at_impl_LettersOf_1.l0, if_neg (show ¬ (l.length : Int) < (l.length : Int) by omega)]
    exact Ev.now _
  · intro i hi ih
    obtain ⟨r, hr, hd⟩ := ih
    cases ht : (l[i].f1.toList == c.toList) with
    | true =>
      refine ⟨(i : Int), Ev.step (fun k => rfl) ?_, by rw [any_drop hi, ht]; simp⟩
      simp only [slices_IndexFunc_Step_at_impl_LettersOf_1.l0, if_pos (show (i : Int) < (l.length : Int) by omega), if_pos (nnc i), rdI_nat hi, impl_LettersOf_1.f, Option.bind_some, ht, if_true]
      exact Ev.now _
    | false =>
      refine ⟨r, Ev.step (fun k => rfl) ?_, by rw [any_drop hi, ht, hd]; simp⟩
      simp only [slices_IndexFunc_Step_at_impl_LettersOf_1.l0, if_pos (show (i : Int) < (l.length : Int) by omega), if_pos (nnc i), rdI_nat hi, impl_LettersOf_1.f, Option.bind_some, ht, Bool.false_eq_true, if_false, w64n (show i < 9223372036854775807 by omega)]
      exact hr
theorem impl_LettersHas_ev (c : ByteArray) (l : List S51) (hl : l.length < 9223372036854775807) : Ev (fun k => slices_ContainsFunc_Step_at_impl_LettersOf_1.f k l c) (hasL c l) := by
  obtain ⟨r, hr, hd⟩ := impl_LettersIndex_ev c l hl
  simp only [slices_ContainsFunc_Step_at_impl_LettersOf_1.f]
  exact ev_to (Ev.bind hr (Ev.now _)) hd
theorem impl_LettersOf_one {n : Int} {l1 l2 : List Int} {l3 : List S51} (h1 : l1.length < 9223372036854775807) (h2 : l2.length < 9223372036854775807) (h3 : l3.length < 9223372036854775807) {o c r : ByteArray} {i j : Int} (hi : 0 ≤ i ∧ i < 2) (hj : wrap64 (i + 1) = j) (hc : rdOf ByteArray.empty [bA, bB] i = c) (hs : o.size + c.size ≤ 9223372036854775807)
    (h : Ev (fun k => impl_LettersOf.l0 k (if av n l1 l2 l3 && hasL c l3 then o ++ c else o) [bA, bB] 2 j n l1 l2 l3) r) : Ev (fun k => impl_LettersOf.l0 k o [bA, bB] 2 i n l1 l2 l3) r := by
  refine Ev.step (fun k => rfl) ?_
  simp only [impl_LettersOf.l0, if_pos hi.2, if_pos hi.1, List.length_cons, List.length_nil, show ((0 + 1 + 1 : Nat) : Int) = 2 from rfl, hc, hj]
  refine Ev.bind (impl_AutomatonValid_ev n l1 l2 l3 h1 h2 h3) ?_
  cases hv : av n l1 l2 l3 with
  | false =>
    simp only [hv, Bool.false_and, Bool.false_eq_true, if_false] at h ⊢
    exact h
  | true =>
    simp only [hv, Bool.true_and, if_true] at h ⊢
    refine Ev.bind (impl_LettersHas_ev c l3 h3) ?_
    cases ht : hasL c l3 with
    | false =>
      simp only [ht, Bool.false_eq_true, if_false] at h ⊢
      exact h
    | true =>
      simp only [ht, if_true] at h ⊢
      simp only [if_pos hs]
      exact h
theorem app_ite (p : Bool) (o c : ByteArray) : (if p = true then o ++ c else o) = o ++ (if p = true then c else bE) := by
  cases p
  · simp only [Bool.false_eq_true, if_false]; exact (ByteArray.append_empty).symm
  · simp
theorem impl_LettersOf_ev (n : Int) (l1 l2 : List Int) (l3 : List S51) (h1 : l1.length < 9223372036854775807) (h2 : l2.length < 9223372036854775807) (h3 : l3.length < 9223372036854775807) : Ev (fun k => impl_LettersOf.f k n l1 l2 l3) (lettersOf (av n l1 l2 l3) l3) := by
  simp only [impl_LettersOf.f, Option.bind_some]
  refine impl_LettersOf_one (o := bE) (c := bA) (i := 0) (j := 1) h1 h2 h3 (by omega) (by rw [w64 (by omega) (by omega)]; rfl) rfl (by decide) ?_
  refine impl_LettersOf_one (c := bB) (i := 1) (j := 2) h1 h2 h3 (by omega) (by rw [w64 (by omega) (by omega)]; rfl) rfl (by split <;> decide) ?_
  refine Ev.step (fun k => rfl) ?_
  simp only [impl_LettersOf.l0, if_neg (show ¬ (2 : Int) < 2 by omega)]
  refine ev_to (Ev.now _) ?_
  rw [app_ite, app_ite]
  unfold lettersOf
  rw [show bE ++ (if (av n l1 l2 l3 && hasL bA l3) = true then bA else bE) = (if (av n l1 l2 l3 && hasL bA l3) = true then bA else bE) from ByteArray.empty_append]
theorem impl_CostValid_eq (a : Int) : impl_CostValid.f a = some (cv a) := by
  unfold impl_CostValid.f cv
  split <;> simp <;> omega
theorem impl_IndexValid_ev (l : List Int) (hl : l.length < 9223372036854775807) : ∃ r, Ev (fun k => slices_IndexFunc_int_int_at_impl_MatrixValid_1.f k l) r ∧ decide (r ≥ 0) = !(l.all cv) := by
  have h := down l.length (P := fun i => ∃ r, Ev (fun k => slices_IndexFunc_int_int_at_impl_MatrixValid_1.l0 k l (l.length : Int) (i : Int)) r ∧ decide (r ≥ 0) = !((l.drop i).all cv)) ?_ ?_ 0 (by omega)
  · simpa only [slices_IndexFunc_int_int_at_impl_MatrixValid_1.f, List.drop_zero, cast0] using h
  · refine ⟨-1, Ev.step (fun k => rfl) ?_, by rw [dropn]; rfl⟩
    simp only [slices_IndexFunc_int_int_at_impl_MatrixValid_1.l0, if_neg (show ¬ (l.length : Int) < (l.length : Int) by omega)]
    exact Ev.now _
  · intro i hi ih
    obtain ⟨r, hr, hd⟩ := ih
    cases hc : cv l[i] with
    | true =>
      refine ⟨r, Ev.step (fun k => rfl) ?_, by rw [hd, dropc hi, List.all_cons, hc, Bool.true_and]⟩
      simp only [slices_IndexFunc_int_int_at_impl_MatrixValid_1.l0, if_pos (show (i : Int) < (l.length : Int) by omega), if_pos (show (0 : Int) ≤ (i : Int) by omega), rd_nat hi, impl_MatrixValid_1.f, impl_CostValid_eq, hc, Option.bind_some, Bool.not_true, Bool.false_eq_true, if_false, w64n (show i < 9223372036854775807 by omega)]
      exact hr
    | false =>
      refine ⟨(i : Int), Ev.step (fun k => rfl) ?_, by rw [dropc hi, List.all_cons, hc, decide_eq_true (by omega)]; rfl⟩
      simp only [slices_IndexFunc_int_int_at_impl_MatrixValid_1.l0, if_pos (show (i : Int) < (l.length : Int) by omega), if_pos (show (0 : Int) ≤ (i : Int) by omega), rd_nat hi, impl_MatrixValid_1.f, impl_CostValid_eq, hc, Option.bind_some, Bool.not_false, if_true]
      exact Ev.now _
theorem impl_MatrixValid_ev (n : Int) (l : List Int) (hl : l.length < 9223372036854775807) : Ev (fun k => impl_MatrixValid.f k n l) (mv n l) := by
  simp only [impl_MatrixValid.f]
  by_cases h1 : n < 1
  · simp only [if_pos h1]
    exact ev_to (Ev.now _) (by rw [mv, decide_eq_false (fun q => by omega)]; rfl)
  · simp only [if_neg h1]
    by_cases h4 : n > 4
    · simp only [if_pos h4]
      exact ev_to (Ev.now _) (by rw [mv, decide_eq_false (fun q => by omega)]; rfl)
    · have hs := sq_le (show 1 ≤ n by omega) (show n ≤ 4 by omega)
      simp only [if_neg h4, w64 (show -9223372036854775808 ≤ n * n by omega) (show n * n ≤ 9223372036854775807 by omega)]
      by_cases e : (l.length : Int) = n * n
      · obtain ⟨r, hr, hd⟩ := impl_IndexValid_ev l hl
        simp only [if_pos e, slices_ContainsFunc_int_int_at_impl_MatrixValid_1.f]
        refine Ev.bind (Ev.bind hr (Ev.now _)) ?_
        refine ev_to (Ev.now _) ?_
        rw [hd, Bool.not_not, mv, decide_eq_true ⟨by omega, by omega, e⟩, Bool.true_and]
      · simp only [if_neg e]
        exact ev_to (Ev.now _) (by rw [mv, decide_eq_false (fun q => e q.2.2)]; rfl)
theorem laws_daSame_ev (a b : List Int) (ha : a.length < 9223372036854775807) : Ev (fun k => laws_daSame.f k a b) (decide (a = b)) := by
  have hm : mn (a.length : Int) (b.length : Int) = ((min a.length b.length : Nat) : Int) := by rw [mn_eq]; omega
  have h := down (min a.length b.length) (P := fun i => Ev (fun k => laws_daSame.l0 k a b ((min a.length b.length : Nat) : Int) (i : Int)) (decide (a.drop i = b.drop i))) ?_ ?_ 0 (by omega)
  · simpa only [laws_daSame.f, hm, List.drop_zero, cast0] using h
  · refine Ev.step (fun k => rfl) ?_
    simp only [laws_daSame.l0, if_neg (show ¬ ((min a.length b.length : Nat) : Int) < ((min a.length b.length : Nat) : Int) by omega)]
    refine ev_to (Ev.now _) ?_
    by_cases e : a.length = b.length
    · have e1 : min a.length b.length = a.length := by omega
      rw [e1, dropn, e, dropn]
      simp
    · rw [beq_eq_false_iff_ne.2 (by omega)]
      symm
      rw [decide_eq_false_iff_not]
      intro h
      have := congrArg List.length h
      simp at this
      omega
  · intro i hi ih
    have h1 : i < a.length := by omega
    have h2 : i < b.length := by omega
    refine Ev.step (fun k => rfl) ?_
    simp only [laws_daSame.l0, if_pos (show (i : Int) < ((min a.length b.length : Nat) : Int) by omega), if_pos (show (0 : Int) ≤ (i : Int) by omega), if_pos (show (i : Int) < (a.length : Int) by omega), if_pos (show (i : Int) < (b.length : Int) by omega), rd_nat h1, rd_nat h2, w64n (show i < 9223372036854775807 by omega)]
    by_cases e : a[i] = b[i]
    · simp only [if_pos e]
      exact ev_to ih (by rw [dropc h1, dropc h2]; simp only [List.cons.injEq, e, true_and])
    · simp only [if_neg e]
      exact ev_to (Ev.now false) (by rw [dropc h1, dropc h2]; simp only [List.cons.injEq, e, false_and, decide_false])
theorem laws_daMatrix_ev (n : Int) (a : List Int) (m : Int) (b : List Int) (ha : a.length < 9223372036854775807) : Ev (fun k => laws_daMatrix.f k n a m b) (decide (n = m ∧ a = b)) := by
  simp only [laws_daMatrix.f]
  by_cases e : n = m
  · simp only [if_pos e]
    refine Ev.bind (laws_daSame_ev a b ha) ?_
    exact ev_to (Ev.now _) (by simp [e])
  · simp only [if_neg e]
    exact ev_to (Ev.now _) (by simp [e])
theorem laws_daMatrix_self (n : Int) (a : List Int) (ha : a.length < 9223372036854775807) : Ev (fun k => laws_daMatrix.f k n a n a) true :=
  ev_to (laws_daMatrix_ev n a n a ha) (by simp)
/-- The letter of a step as a number. -/
def lc (b : ByteArray) : Int := if b.toList = [97] then 0 else 1
/-- Where a step stands: by From, by Letter, by To. -/
def key (s : S51) : Int := s.f0 * 8 + lc s.f1 * 4 + s.f2
theorem sLt_key {n : Int} (h4 : n ≤ 4) {s t : S51} (hs : sOk n s = true) (ht : sOk n t = true) : sLt s t = decide (key s < key t) := by
  have a := sOk_iff.1 hs
  have b := sOk_iff.1 ht
  have e : ([97] : List UInt8) ≠ [98] := by decide
  have e' : ([98] : List UInt8) ≠ [97] := by decide
  unfold sLt key lc
  rw [Bool.eq_iff_iff, decide_eq_true_eq]
  by_cases h0 : s.f0 = t.f0
  · rw [if_pos h0]
    rcases a.2 with a2 | a2 <;> rcases b.2 with b2 | b2
    · simp only [a2, b2, if_true, decide_eq_true_eq]; omega
    · simp only [a2, b2, if_neg e, if_neg e', if_true, show Op.bytesLess [97] [98] = true from rfl]; constructor <;> intro hh <;> first | omega | trivial
    · simp only [a2, b2, if_neg e, if_neg e', if_true, show Op.bytesLess [98] [97] = false from rfl]; constructor <;> intro hh <;> first | (exfalso; omega) | cases hh
    · simp only [a2, b2, if_neg e', if_true, decide_eq_true_eq]; omega
  · rw [if_neg h0, decide_eq_true_eq]
    split <;> split <;> omega
theorem keys_lt {n : Int} (h4 : n ≤ 4) {l : List S51} (h : stepsOk n l = true) : ∀ q p, p < q → ∀ (hq : q < l.length), ∀ (hp : p < l.length), key l[p] < key l[q] := by
  intro q
  induction q with
  | zero => intro p hp; omega
  | succ q ih =>
    intro p hpq hq hp
    have hc := allFrom_iff.1 h (q + 1) (by omega) hq
    simp only [sAt, Bool.and_eq_true, Bool.or_eq_true, decide_eq_true_eq] at hc
    have h1 : sLt l[q] l[q + 1] = true := by
      rcases hc.2 with e | e
      · omega
      · rw [show ((q + 1 - 1 : Nat) : Int) = (q : Int) by omega, rdI_nat (show q < l.length by omega), rdI_nat hq] at e
        exact e
    rw [sLt_key h4 (stepsOk_mem h (List.getElem_mem _)) (stepsOk_mem h (List.getElem_mem _)), decide_eq_true_eq] at h1
    by_cases e : p = q
    · subst e; exact h1
    · have := ih p (by omega) (by omega) hp
      omega
/-- A step bears the letter. -/
def hasC (c : ByteArray) (s : S51) : Bool := decide (s.f1.toList = c.toList)
/-- Where a step's cost stands. -/
def sIdx (n : Nat) (s : S51) : Nat := (s.f0 * (n : Int) + s.f2).toNat
def isN (x : Int) : Bool := decide (x < 1000000)
theorem putS_yes {n : Nat} {c : ByteArray} {m : List Int} {s : S51} (h : hasC c s = true) : putS n c m s = m.set (sIdx n s) s.f3 := by
  simp only [hasC, decide_eq_true_eq] at h
  rw [putS, if_pos h]; rfl
theorem putS_no {n : Nat} {c : ByteArray} {m : List Int} {s : S51} (h : hasC c s = false) : putS n c m s = m := by
  simp only [hasC, decide_eq_false_iff_not] at h
  rw [putS, if_neg h]
/-- What the steps lay, if no two of them lie at one place. -/
theorem foldS_at {n : Nat} {c : ByteArray} : ∀ (l : List S51) (m : List Int), (∀ s ∈ l, hasC c s = true → s.f3 < 1000000 ∧ sIdx n s < m.length) → l.Pairwise (fun s t => hasC c s = true → hasC c t = true → sIdx n s ≠ sIdx n t) →
    (∀ s ∈ l, hasC c s = true → (l.foldl (putS n c) m)[sIdx n s]? = some s.f3) ∧ (∀ j, (∀ s ∈ l, hasC c s = true → sIdx n s ≠ j) → (l.foldl (putS n c) m)[j]? = m[j]?) ∧
    ((∀ s ∈ l, hasC c s = true → m[sIdx n s]? = some 1000000) → (l.foldl (putS n c) m).countP isN = m.countP isN + l.countP (hasC c))
  | [], m, _, _ => ⟨fun s hs => by simp at hs, fun j _ => rfl, fun _ => by simp⟩
  | s :: l, m, hb, hp => by
    obtain ⟨hp1, hp2⟩ := List.pairwise_cons.1 hp
    cases hc : hasC c s with
    | false =>
      obtain ⟨a, b, d⟩ := foldS_at l m (fun t ht => hb t (List.mem_cons_of_mem _ ht)) hp2
      rw [List.foldl_cons, putS_no hc]
      refine ⟨fun t ht hct => ?_, fun j hj => b j fun t ht => hj t (List.mem_cons_of_mem _ ht), fun hh => ?_⟩
      · rcases List.mem_cons.1 ht with rfl | h
        · rw [hc] at hct; cases hct
        · exact a t h hct
      · rw [d fun t ht => hh t (List.mem_cons_of_mem _ ht), List.countP_cons_of_neg (by simp [hc])]
    | true =>
      obtain ⟨h3, hlt⟩ := hb s List.mem_cons_self hc
      obtain ⟨a, b, d⟩ := foldS_at l (m.set (sIdx n s) s.f3) (fun t ht hct => by rw [List.length_set]; exact hb t (List.mem_cons_of_mem _ ht) hct) hp2
      rw [List.foldl_cons, putS_yes hc]
      refine ⟨fun t ht hct => ?_, fun j hj => ?_, fun hh => ?_⟩
      · rcases List.mem_cons.1 ht with rfl | h
        · rw [b _ fun u hu hcu => fun e => hp1 u hu hc hcu e.symm, List.getElem?_set_self hlt]
        · exact a t h hct
      · rw [b j fun t ht => hj t (List.mem_cons_of_mem _ ht), List.getElem?_set_ne (hj s List.mem_cons_self hc)]
      · have e := hh s List.mem_cons_self hc
        rw [List.getElem?_eq_getElem hlt] at e
        have e := Option.some.inj e
        rw [d fun t ht hct => by rw [List.getElem?_set_ne (hp1 t ht hc hct)]; exact hh t (List.mem_cons_of_mem _ ht) hct, List.countP_set hlt, List.countP_cons_of_pos hc, e, if_neg (by simp [isN]), if_pos (by simpa [isN] using h3)]
        omega
theorem sIdx_lt {n : Nat} {s : S51} (h : sOk (n : Int) s = true) : sIdx n s < n * n := by
  have hb := (sOk_iff.1 h).1
  obtain ⟨i, hi⟩ := Int.eq_ofNat_of_zero_le hb.1
  obtain ⟨j, hj⟩ := Int.eq_ofNat_of_zero_le hb.2.2.1
  have e : sIdx n s = i * n + j := by rw [sIdx, hi, hj, ← Int.natCast_mul, ← Int.natCast_add, Int.toNat_natCast]
  rw [e]
  exact idx_lt (by omega) (by omega)
theorem sIdx_inj {n : Nat} {s t : S51} (hs : sOk (n : Int) s = true) (ht : sOk (n : Int) t = true) (h : sIdx n s = sIdx n t) : s.f0 = t.f0 ∧ s.f2 = t.f2 := by
  have hb := (sOk_iff.1 hs).1
  have hc := (sOk_iff.1 ht).1
  obtain ⟨i, hi⟩ := Int.eq_ofNat_of_zero_le hb.1
  obtain ⟨j, hj⟩ := Int.eq_ofNat_of_zero_le hb.2.2.1
  obtain ⟨i', hi'⟩ := Int.eq_ofNat_of_zero_le hc.1
  obtain ⟨j', hj'⟩ := Int.eq_ofNat_of_zero_le hc.2.2.1
  have e : sIdx n s = i * n + j := by rw [sIdx, hi, hj, ← Int.natCast_mul, ← Int.natCast_add, Int.toNat_natCast]
  have e' : sIdx n t = i' * n + j' := by rw [sIdx, hi', hj', ← Int.natCast_mul, ← Int.natCast_add, Int.toNat_natCast]
  rw [e, e'] at h
  have d := div_idx (n := n) (i := i) (k := j) (by omega)
  have d' := div_idx (n := n) (i := i') (k := j') (by omega)
  rw [h] at d
  have x := d.1.symm.trans d'.1
  have y := d.2.symm.trans d'.2
  omega
theorem steps_apart {n : Nat} (h4 : n ≤ 4) {l : List S51} (h : stepsOk (n : Int) l = true) (c : ByteArray) : l.Pairwise (fun s t => hasC c s = true → hasC c t = true → sIdx n s ≠ sIdx n t) := by
  rw [List.pairwise_iff_getElem]
  intro p q hp hq hpq h1 h2 e
  have hk := keys_lt (by omega) h q p hpq hq hp
  obtain ⟨e1, e2⟩ := sIdx_inj (stepsOk_mem h (List.getElem_mem hp)) (stepsOk_mem h (List.getElem_mem hq)) e
  simp only [hasC, decide_eq_true_eq] at h1 h2
  have e3 : lc l[p].f1 = lc l[q].f1 := by unfold lc; rw [h1, h2]
  unfold key at hk
  rw [e1, e2, e3] at hk
  omega
/-- The matrix of a letter's steps: each cost in its place, and so many costs below what can't be had. -/
theorem stepmat_at {n : Nat} (h4 : n ≤ 4) {l : List S51} (h : stepsOk (n : Int) l = true) (c : ByteArray) : (∀ s ∈ l, hasC c s = true → (stepmat n c l)[sIdx n s]? = some s.f3) ∧ (∀ j, j < n * n → (∀ s ∈ l, hasC c s = true → sIdx n s ≠ j) → (stepmat n c l)[j]? = some 1000000) ∧ (stepmat n c l).countP isN = l.countP (hasC c) := by
  have hb : ∀ s ∈ l, hasC c s = true → s.f3 < 1000000 ∧ sIdx n s < (List.replicate (n * n) (1000000 : Int)).length := fun s hs _ => by
    have a := (sOk_iff.1 (stepsOk_mem h hs)).1
    have b := sIdx_lt (stepsOk_mem h hs)
    simp only [List.length_replicate]
    omega
  obtain ⟨a, b, d⟩ := foldS_at l (List.replicate (n * n) 1000000) hb (steps_apart h4 h c)
  refine ⟨a, fun j hj hh => ?_, ?_⟩
  · have := b j hh
    rw [List.getElem?_replicate_of_lt hj] at this
    exact this
  · have := d fun s hs _ => List.getElem?_replicate_of_lt (sIdx_lt (stepsOk_mem h hs))
    rw [show (List.replicate (n * n) (1000000 : Int)).countP isN = 0 by rw [List.countP_replicate]; simp [isN], Nat.zero_add] at this
    exact this
theorem spec_DrawStepMatrix_ev (l : List Int) (hl : ∀ x ∈ l, (Lit.int .u8 x).wf = true) : ∃ n l1 l2 l3 c, Ev (fun k => spec_DrawStepMatrix.f k l) (n, l1, l2, l3, c) ∧ l1.length ≤ 5 ∧ l2.length ≤ 4 ∧ l3.length ≤ 25 := by
  obtain ⟨s, hs, hr⟩ := spec_l13Open_ev l hl
  obtain ⟨n, l1, l2, l3, q, h, a, b, c, d, d'⟩ := spec_l3Any_ev hr (p := 0) (by omega)
  obtain ⟨v, hv⟩ := spec_l13Rd_of_ev hr (p := q) (by omega) [(⟨#[97]⟩ : ByteArray), (⟨#[98]⟩ : ByteArray), (⟨#[97]⟩ : ByteArray), (⟨#[99]⟩ : ByteArray), (⟨#[]⟩ : ByteArray)] (by simp)
  refine ⟨n, l1, l2, l3, v, ?_, a, b, c⟩
  simp only [spec_DrawStepMatrix.f, hs, Option.bind_some]
  exact Ev.bind h (Ev.bind hv (Ev.now _))
theorem hasL_count (c : ByteArray) (l : List S51) : hasL c l = decide (0 < l.countP (hasC c)) := by
  rw [Bool.eq_iff_iff, decide_eq_true_eq, List.countP_pos_iff]
  simp [hasL, hasC]
theorem SM_l3 (c : ByteArray) (x : Bool) (l : List S51) (hl : l.length ≤ 24) {n : Nat} {M : List Int} (hM : Ok n M) (hx : x = decide (0 < l.countP (hasC c))) : Ev (fun k => laws_FnStepMatrix.l3 k c 0 x 0 l (l.length : Int) 0 (n : Int) M) true := by
  have h := down l.length (P := fun i => ∀ q : Nat, q ≤ i → q + (l.drop i).countP (hasC c) = l.countP (hasC c) → Ev (fun k => laws_FnStepMatrix.l3 k c 0 x (q : Int) l (l.length : Int) (i : Int) (n : Int) M) true) ?_ ?_ 0 (by omega) 0 (by omega) (by simp)
  · simpa only [cast0] using h
  · intro q hq he
    rw [dropn] at he
    simp only [List.countP_nil, Nat.add_zero] at he
    refine Ev.step (fun k => rfl) ?_
    simp only [laws_FnStepMatrix.l3, if_neg (show ¬ (l.length : Int) < (l.length : Int) by omega), if_true]
    simp only [if_pos (show (x == decide ((q : Int) > 0)) = true by rw [hx, he]; simp)]
    have hv := impl_MatrixValid_ev (n : Int) M (by have := hM.short; omega)
    rw [hM.mv] at hv
    exact Ev.bind hv (Ev.now _)
  · intro i hi ih q hq he
    rw [dropc hi] at he
    refine Ev.step (fun k => rfl) ?_
    simp only [laws_FnStepMatrix.l3, if_pos (show (i : Int) < (l.length : Int) by omega), if_pos (nnc i), rdI_nat hi, w64n (show i < 9223372036854775807 by omega), w64n (show q < 9223372036854775807 by omega)]
    by_cases e : l[i].f1.toList = c.toList
    · simp only [if_pos e]
      rw [List.countP_cons_of_pos (by simpa [hasC] using e)] at he
      exact ih (q + 1) (by omega) (by omega)
    · simp only [if_neg e]
      rw [List.countP_cons_of_neg (by simpa [hasC] using e)] at he
      exact ih q (by omega) (by omega)
theorem SM_l2 {c : ByteArray} (hc : c.toList = [97] ∨ c.toList = [98]) {n : Int} {l1 l2 : List Int} {l3 : List S51} (hv : av n l1 l2 l3 = true) (h1 : l1.length ≤ 100) (h2 : l2.length ≤ 100) (h3 : l3.length ≤ 24) {M : List Int} {r : Bool}
    (hend : Ev (fun k => laws_FnStepMatrix.l3 k c 0 (hasL c l3) 0 l3 (l3.length : Int) 0 n M) r) : Ev (fun k => laws_FnStepMatrix.l2 k c 0 false ((lettersOf true l3).size : Int) 0 n l1 l2 l3 n M) r := by
  have hL := impl_LettersOf_ev n l1 l2 l3 (by omega) (by omega) (by omega)
  rw [hv] at hL
  have hcA : c.toList = [97] → c = bA := fun e => by rw [ByteArray.toList_eq] at e; have : c.data = bA.data := Array.toList_inj.1 e; exact congrArg ByteArray.mk this
  have hcB : c.toList = [98] → c = bB := fun e => by rw [ByteArray.toList_eq] at e; have : c.data = bB.data := Array.toList_inj.1 e; exact congrArg ByteArray.mk this
  have hcc : c = bA ∨ c = bB := hc.imp hcA hcB
  have fin : ∀ x y, x = hasL c l3 → Ev (fun k => laws_FnStepMatrix.l2 k c 0 x y y n l1 l2 l3 n M) r := fun x y hx => by
    refine Ev.step (fun k => rfl) ?_
    simp only [laws_FnStepMatrix.l2, if_neg (show ¬ y < y by omega), hx]
    exact hend
  have e1 : wrap64 (0 + 1) = 1 := by rw [w64 (by omega) (by omega)]; rfl
  have e2 : wrap64 (1 + 1) = 2 := by rw [w64 (by omega) (by omega)]; rfl
  have ab : (bA.toList == bB.toList) = false := by rw [ByteArray.toList_eq, ByteArray.toList_eq]; rfl
  have ba : (bB.toList == bA.toList) = false := by rw [ByteArray.toList_eq, ByteArray.toList_eq]; rfl
  cases hA : hasL bA l3 <;> cases hB : hasL bB l3
  · rw [show lettersOf true l3 = bE by simp [lettersOf, hA, hB]; decide] at hL ⊢
    exact fin false 0 (by rcases hcc with rfl | rfl <;> simp [hA, hB])
  · rw [show lettersOf true l3 = bB by simp [lettersOf, hA, hB]; decide] at hL ⊢
    refine Ev.step (fun k => rfl) ?_
    simp only [laws_FnStepMatrix.l2, show ((bB.size : Nat) : Int) = 1 from rfl, if_pos (show (0 : Int) < 1 by omega), Bool.false_eq_true, if_false, e1]
    refine Ev.bind hL ?_
    simp only [if_pos (show (0 : Int) ≤ 0 by omega), if_pos (show (0 : Int) ≤ 1 by omega), show ((bB.size : Nat) : Int) = 1 from rfl, if_pos (show (1 : Int) ≤ 1 by omega)]
    rw [show bB.extract (0 : Int).toNat (1 : Int).toNat = bB by decide]
    exact fin _ 1 (by rcases hcc with rfl | rfl <;> simp [hA, hB, ba])
  · rw [show lettersOf true l3 = bA by simp [lettersOf, hA, hB]; decide] at hL ⊢
    refine Ev.step (fun k => rfl) ?_
    simp only [laws_FnStepMatrix.l2, show ((bA.size : Nat) : Int) = 1 from rfl, if_pos (show (0 : Int) < 1 by omega), Bool.false_eq_true, if_false, e1]
    refine Ev.bind hL ?_
    simp only [if_pos (show (0 : Int) ≤ 0 by omega), if_pos (show (0 : Int) ≤ 1 by omega), show ((bA.size : Nat) : Int) = 1 from rfl, if_pos (show (1 : Int) ≤ 1 by omega)]
    rw [show bA.extract (0 : Int).toNat (1 : Int).toNat = bA by decide]
    exact fin _ 1 (by rcases hcc with rfl | rfl <;> simp [hA, hB, ab])
  · rw [show lettersOf true l3 = bA ++ bB by simp [lettersOf, hA, hB]] at hL ⊢
    have hs : (((bA ++ bB).size : Nat) : Int) = 2 := rfl
    have last : ∀ x, (x = true ∨ (bB.toList == c.toList) = hasL c l3) → (x = true → hasL c l3 = true) → Ev (fun k => laws_FnStepMatrix.l2 k c 0 x 2 1 n l1 l2 l3 n M) r := fun x hx hx2 => by
      refine Ev.step (fun k => rfl) ?_
      simp only [laws_FnStepMatrix.l2, if_pos (show (1 : Int) < 2 by omega), e2]
      cases x with
      | true =>
        simp only [if_true]
        exact fin true 2 (hx2 rfl).symm
      | false =>
        simp only [Bool.false_eq_true, if_false]
        refine Ev.bind hL ?_
        simp only [if_pos (show (0 : Int) ≤ 1 by omega), if_pos (show (1 : Int) ≤ 2 by omega), hs, if_pos (show (2 : Int) ≤ 2 by omega)]
        rw [show (bA ++ bB).extract (1 : Int).toNat (2 : Int).toNat = bB by decide]
        exact fin _ 2 (hx.resolve_left (by simp))
    refine Ev.step (fun k => rfl) ?_
    simp only [laws_FnStepMatrix.l2, hs, if_pos (show (0 : Int) < 2 by omega), Bool.false_eq_true, if_false, e1]
    refine Ev.bind hL ?_
    simp only [if_pos (show (0 : Int) ≤ 0 by omega), if_pos (show (0 : Int) ≤ 1 by omega), hs, if_pos (show (1 : Int) ≤ 2 by omega)]
    rw [show (bA ++ bB).extract (0 : Int).toNat (1 : Int).toNat = bA by decide]
    rcases hcc with rfl | rfl
    · exact last _ (.inl (by simp)) (fun _ => hA)
    · exact last _ (.inr (by simp [hB])) (fun h => by rw [ab] at h; cases h)
theorem SM_l1 {c : ByteArray} {n : Nat} (h4 : n ≤ 4) {l1 l2 : List Int} {l3 : List S51} (hs : stepsOk (n : Int) l3 = true) (hl : l3.length ≤ 24) (h1 : l1.length ≤ 100) (h2 : l2.length ≤ 100) (hv : av (n : Int) l1 l2 l3 = true) {M : List Int} (hM : M.length = n * n) (hat : ∀ s ∈ l3, hasC c s = true → M[sIdx n s]? = some s.f3) {r : Bool}
    (hend : Ev (fun k => laws_FnStepMatrix.l2 k c 0 false ((lettersOf true l3).size : Int) 0 (n : Int) l1 l2 l3 (n : Int) M) r) : Ev (fun k => laws_FnStepMatrix.l1 k c (l3.countP (hasC c) : Int) l3 (l3.length : Int) 0 (n : Int) l1 l2 l3 (n : Int) M) r := by
  have h := down l3.length (P := fun i => Ev (fun k => laws_FnStepMatrix.l1 k c ((l3.drop i).countP (hasC c) : Int) l3 (l3.length : Int) (i : Int) (n : Int) l1 l2 l3 (n : Int) M) r) ?_ ?_ 0 (by omega)
  · simpa only [cast0, List.drop_zero] using h
  · have hL := impl_LettersOf_ev (n : Int) l1 l2 l3 (by omega) (by omega) (by omega)
    rw [hv] at hL
    refine Ev.step (fun k => rfl) ?_
    simp only [laws_FnStepMatrix.l1, if_neg (show ¬ (l3.length : Int) < (l3.length : Int) by omega), dropn, List.countP_nil, cast0]
    exact Ev.bind hL hend
  · intro i hi ih
    have hsi := stepsOk_mem hs (List.getElem_mem hi)
    obtain ⟨q, hq, e1, e2⟩ := step_at h4 hsi
    refine Ev.step (fun k => rfl) ?_
    rw [dropc hi]
    simp only [laws_FnStepMatrix.l1, if_pos (show (i : Int) < (l3.length : Int) by omega), if_pos (nnc i), rdI_nat hi, w64n (show i < 9223372036854775807 by omega), e1, if_pos (nnc q), if_pos (show (q : Int) < (M.length : Int) by omega)]
    have hcl : (l3.drop (i + 1)).countP (hasC c) ≤ 24 := Nat.le_trans List.countP_le_length (by simp; omega)
    by_cases e : l3[i].f1.toList = c.toList
    · have hc : hasC c l3[i] = true := by simpa [hasC] using e
      have hg := hat _ (List.getElem_mem hi) hc
      rw [show sIdx n l3[i] = q from e2, List.getElem?_eq_getElem (by omega)] at hg
      simp only [if_pos e, if_pos (show rd M (q : Int) = l3[i].f3 by rw [rd_nat (by omega)]; exact Option.some.inj hg), List.countP_cons_of_pos hc, show wrap64 (((List.countP (hasC c) (List.drop (i + 1) l3) + 1 : Nat) : Int) - 1) = ((List.countP (hasC c) (List.drop (i + 1) l3) : Nat) : Int) by rw [w64 (by omega) (by omega)]; omega]
      exact ih
    · simp only [if_neg e, List.countP_cons_of_neg (show ¬ hasC c l3[i] = true by simpa [hasC] using e)]
      exact ih
theorem SM_l0 {c : ByteArray} {n : Int} {l1 l2 : List Int} {l3 : List S51} {M : List Int} (hM : M.length ≤ 16) {r : Bool}
    (hend : Ev (fun k => laws_FnStepMatrix.l1 k c (M.countP isN : Int) l3 (l3.length : Int) 0 n l1 l2 l3 n M) r) : Ev (fun k => laws_FnStepMatrix.l0 k c 0 M (M.length : Int) 0 n l1 l2 l3 n M) r := by
  have h := down M.length (P := fun i => ∀ q : Nat, q ≤ i → q + (M.drop i).countP isN = M.countP isN → Ev (fun k => laws_FnStepMatrix.l0 k c (q : Int) M (M.length : Int) (i : Int) n l1 l2 l3 n M) r) ?_ ?_ 0 (by omega) 0 (by omega) (by simp)
  · simpa only [cast0] using h
  · intro q hq he
    rw [dropn] at he
    simp only [List.countP_nil, Nat.add_zero] at he
    refine Ev.step (fun k => rfl) ?_
    simp only [laws_FnStepMatrix.l0, if_neg (show ¬ (M.length : Int) < (M.length : Int) by omega)]
    rw [he]
    exact hend
  · intro i hi ih q hq he
    rw [dropc hi] at he
    refine Ev.step (fun k => rfl) ?_
    simp only [laws_FnStepMatrix.l0, if_pos (show (i : Int) < (M.length : Int) by omega), if_pos (nnc i), rd_nat hi, w64n (show i < 9223372036854775807 by omega), w64n (show q < 9223372036854775807 by omega)]
    by_cases e : M[i] < 1000000
    · simp only [if_pos e]
      rw [List.countP_cons_of_pos (by simpa [isN] using e)] at he
      exact ih (q + 1) (by omega) (by omega)
    · simp only [if_neg e]
      rw [List.countP_cons_of_neg (by simpa [isN] using e)] at he
      exact ih q (by omega) (by omega)
theorem FnStepMatrix : laws_FnStepMatrix.Pure := by
  intro l0 _ _ h0
  refine Ev.rounds ?_
  simp only [laws_FnStepMatrix.f]
  by_cases c : (l0.length : Int) > 1048576
  · simp only [if_pos c]
    exact Ev.now _
  simp only [if_neg c]
  obtain ⟨n, l1, l2, l3, w, hd, b1, b2, b3⟩ := spec_DrawStepMatrix_ev l0 h0
  have hs := spec_StepMatrix_ev n l1 l2 l3 w (by omega) (by omega) (by omega)
  have hi := impl_StepMatrix_ev n l1 l2 l3 w (by omega) (by omega) (by omega)
  have hL := impl_LettersOf_ev n l1 l2 l3 (by omega) (by omega) (by omega)
  have hL2 := spec_LettersOf_ev n l1 l2 l3 (by omega) (by omega) (by omega)
  refine Ev.bind hd ?_
  by_cases hv : (av n l1 l2 l3 && (sA w || sB w)) = true
  · have hva := hv
    simp only [Bool.and_eq_true, Bool.or_eq_true, sA, sB, decide_eq_true_eq] at hva
    obtain ⟨m, rfl, m1, m4, -, -, hl, hso⟩ := av_nat hva.1
    have e : stepR (m : Int) l1 l2 l3 w = ((m : Int), stepmat m w l3, true) := by rw [stepR, if_pos hv, Int.toNat_natCast]
    rw [e] at hs hi
    have hM := stepmat_ok m1 m4 w (fun s h => stepsOk_mem hso h)
    obtain ⟨hat, -, hcnt⟩ := stepmat_at m4 hso w
    refine Ev.bind hi (Ev.bind hs (Ev.bind (laws_daMatrix_self _ (stepmat m w l3) (by have := hM.short; omega)) ?_))
    simp only [if_true, bne_self_eq_false, Bool.false_eq_true, if_false, Bool.not_true]
    refine Ev.bind hL (Ev.bind hL2 ?_)
    simp only [if_true]
    refine Ev.step (fun k => rfl) ?_
    simp only [laws_FnStepMatrix.j0, Bool.false_eq_true, if_false]
    refine SM_l0 hM.short ?_
    rw [hcnt]
    refine SM_l1 m4 hso hl (by omega) (by omega) hva.1 hM.len hat ?_
    refine SM_l2 hva.2 hva.1 (by omega) (by omega) hl ?_
    exact SM_l3 w _ l3 hl hM (hasL_count w l3)
  · have e : stepR n l1 l2 l3 w = (0, [], false) := by rw [stepR, if_neg hv]
    rw [e] at hs hi
    refine Ev.bind hi (Ev.bind hs (Ev.bind (laws_daMatrix_self _ [] (by simp)) ?_))
    simp only [if_true, bne_self_eq_false, Bool.false_eq_true, if_false, Bool.not_false]
    refine Ev.bind hL (Ev.bind hL2 ?_)
    simp only [if_true]
    refine Ev.step (fun k => rfl) ?_
    simp only [laws_FnStepMatrix.j0, if_true]
    refine Ev.bind (laws_daMatrix_self _ [] (by simp)) ?_
    simp only [if_true, beq_self_eq_true]
    refine Ev.bind hL (Ev.bind hL2 ?_)
    exact ev_to (Ev.now _) (by simp)

end Go.Proofs.Ytejnpldoakgadaa.Pure
