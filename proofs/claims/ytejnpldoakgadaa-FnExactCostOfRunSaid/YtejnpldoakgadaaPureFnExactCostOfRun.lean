/- The pure statement of FnExactCostOfRun: the printed functions answer true at every input that can be read. -/
import Derived.Test.YtejnpldoakgadaaPG8x5
set_option linter.unusedVariables false
set_option linter.unusedSimpArgs false
namespace Go.Proofs.Ytejnpldoakgadaa.Pure
open Go.RowKit Go.Proofs.Ytejnpldoakgadaa.PG8 Go.Proofs.YtejnpldoakgadaaW.PrintWords Go.Proofs.YtejnpldoakgadaaW.PrintLast Go.Proofs.YtejnpldoakgadaaW.PrintMore

theorem w64 {x : Int} (h0 : -9223372036854775808 ≤ x) (h1 : x ≤ 9223372036854775807) : wrap64 x = x := by unfold wrap64; omega
theorem cast0 : ((0 : Nat) : Int) = 0 := rfl
theorem w64n {i : Nat} (h : i < 9223372036854775807) : wrap64 ((i : Int) + 1) = ((i + 1 : Nat) : Int) := by rw [w64 (by omega) (by omega)]; omega
theorem rd_nat {l : List Int} {i : Nat} (h : i < l.length) : rd l (i : Int) = l[i] := by simp [rd, List.getD_eq_getElem?_getD, h]
theorem mn_eq (a b : Int) : mn a b = min a b := by unfold mn; split <;> omega
theorem mx_eq (a b : Int) : mx a b = max a b := by unfold mx; split <;> omega
theorem down (n : Nat) {P : Nat → Prop} (h0 : P n) (hs : ∀ i, i < n → P (i + 1) → P i) : ∀ i, i ≤ n → P i := by
  have h : ∀ d i, i + d = n → P i := by
    intro d
    induction d with
    | zero => intro i hi; obtain rfl : i = n := by omega
              exact h0
    | succ d ih => intro i hi; exact hs i (by omega) (ih (i + 1) (by omega))
  exact fun i hi => h (n - i) i (by omega)
theorem ev_to {α : Type} {g : Nat → Option α} {r r' : α} (h : Ev g r) (e : r = r') : Ev g r' := e ▸ h
theorem dropc {α : Type} {l : List α} {i : Nat} (h : i < l.length) : l.drop i = l[i] :: l.drop (i + 1) := List.drop_eq_getElem_cons h
theorem dropn {α : Type} (l : List α) : l.drop l.length = [] := List.drop_eq_nil_of_le (Nat.le_refl _)
theorem wf64 {x : Int} (h : (Lit.int .i64 x).wf = true) : -9223372036854775808 ≤ x ∧ x ≤ 9223372036854775807 := by
  simp [Lit.wf, IntKind.min, IntKind.max, IntKind.signed, IntKind.bits] at h
  omega
theorem wf8 {x : Int} (h : (Lit.int .u8 x).wf = true) : 0 ≤ x ∧ x ≤ 255 := by
  simp [Lit.wf, IntKind.min, IntKind.max, IntKind.signed, IntKind.bits] at h
  omega
theorem nnc (q : Nat) : (0 : Int) ≤ (q : Int) := Int.natCast_nonneg q
theorem ltc {a b : Nat} (h : a < b) : (a : Int) < (b : Int) := Int.ofNat_lt.2 h
theorem laws_toIntS_ev (l : List Int) (hl : l.length ≤ 35184372088832) : Ev (fun k => laws_toIntS.f k l) l := by
  have h := down l.length (P := fun i => ∀ out : List Int, out.length = l.length → out.take i = l.take i → Ev (fun k => laws_toIntS.l0 k l out (i : Int)) l) ?_ ?_ 0 (by omega) (List.replicate l.length 0) (by simp) (by simp)
  · simpa only [laws_toIntS.f, if_pos (show (0 : Int) ≤ (l.length : Int) by omega), Int.toNat_natCast, if_pos hl, cast0] using h
  · intro out ho ht
    refine Ev.step (fun k => rfl) ?_
    simp only [laws_toIntS.l0, if_neg (show ¬ (l.length : Int) < (l.length : Int) by omega)]
    refine ev_to (Ev.now _) ?_
    rw [List.take_length, ← ho, List.take_length] at ht
    exact ht
  · intro i hi ih out ho ht
    refine Ev.step (fun k => rfl) ?_
    simp only [laws_toIntS.l0, if_pos (show (i : Int) < (l.length : Int) by omega), if_pos (show (0 : Int) ≤ (i : Int) by omega), if_pos (show (i : Int) < (out.length : Int) by omega), rd_nat hi, w64n (show i < 9223372036854775807 by omega), Int.toNat_natCast]
    refine ih _ (by simpa using ho) ?_
    rw [List.take_succ_eq_append_getElem hi, List.take_succ_eq_append_getElem (by simpa [ho] using hi)]
    rw [List.getElem_set_self, List.take_set, ht, List.set_eq_of_length_le (by simp; omega)]
theorem laws_eqIntS_ev (a b : List Int) (hl : a.length < 9223372036854775807) : Ev (fun k => laws_eqIntS.f k a b) (decide (a = b)) := by
  by_cases hab : a.length = b.length
  · have h := down a.length (P := fun i => Ev (fun k => laws_eqIntS.l0 k a b (i : Int)) (decide (a.drop i = b.drop i))) ?_ ?_ 0 (by omega)
    · simpa only [laws_eqIntS.f, if_pos (show (a.length : Int) = (b.length : Int) by omega), List.drop_zero, cast0] using h
    · refine Ev.step (fun k => rfl) ?_
      simp only [laws_eqIntS.l0, if_neg (show ¬ (a.length : Int) < (a.length : Int) by omega)]
      exact ev_to (Ev.now _) (by rw [dropn, hab, dropn]; rfl)
    · intro i hi ih
      have hi' : i < b.length := by omega
      refine Ev.step (fun k => rfl) ?_
      simp only [laws_eqIntS.l0, if_pos (show (i : Int) < (a.length : Int) by omega), if_pos (show (0 : Int) ≤ (i : Int) by omega), if_pos (show (i : Int) < (b.length : Int) by omega), rd_nat hi, rd_nat hi', w64n (show i < 9223372036854775807 by omega), dropc hi, dropc hi']
      by_cases e : a[i] = b[i]
      · simp only [if_pos e]
        exact ev_to ih (by simp only [List.cons.injEq, e, true_and])
      · simp only [if_neg e]
        exact ev_to (Ev.now false) (by simp only [List.cons.injEq, e, false_and, decide_false])
  · simp only [laws_eqIntS.f, if_neg (show ¬ (a.length : Int) = (b.length : Int) by omega)]
    exact ev_to (Ev.now _) (by rw [eq_comm, decide_eq_false_iff_not]; exact fun e => hab (by rw [e]))
theorem rdI_nat {l : List S51} {i : Nat} (h : i < l.length) : rd_T51 l (i : Int) = l[i] := by simp [rd_T51, List.getD_eq_getElem?_getD, h]
theorem rdL_nat {l : List S90} {i : Nat} (h : i < l.length) : rd_T90 l (i : Int) = l[i] := by simp [rd_T90, List.getD_eq_getElem?_getD, h]
/-- A step of the laws as one of the program. -/
def ofL (x : S90) : S51 := ⟨x.f0, x.f1, x.f2, x.f3⟩
theorem laws_szIntS_eq (l : List Int) (hl : l.length ≤ 9223372036854775807) (m : Int) (h0 : 0 ≤ m) (h1 : m ≤ 1048576) : laws_szIntS.f l m = some (if m - l.length < 0 then -1 else m - l.length) := by
  have e : wrap64 (m - (l.length : Int)) = m - l.length := w64 (by omega) (by omega)
  simp only [laws_szIntS.f, e]
  split <;> rfl
theorem laws_szStep_eq (a : Int) (b : ByteArray) (c d : Int) (hb : b.size ≤ 9223372036854775807) (m : Int) (h0 : 0 ≤ m) (h1 : m ≤ 1048576) : laws_szStep.f a b c d m = some (if m - b.size < 0 then -1 else m - b.size) := by
  have e : wrap64 (m - (b.size : Int)) = m - b.size := w64 (by omega) (by omega)
  simp only [laws_szStep.f, e]
  split <;> rfl
theorem laws_szStepS_ev (l : List S90) (hl : l.length ≤ 9223372036854775807) (hs : ∀ x ∈ l, x.f1.size ≤ 9223372036854775807) (m : Int) (h0 : 0 ≤ m) (h1 : m ≤ 1048576) : ∃ r, Ev (fun k => laws_szStepS.f k l m) r ∧ r ≤ m ∧ (0 ≤ r → (l.length : Int) ≤ m) := by
  have h := down l.length (P := fun i => ∀ q : Int, 0 ≤ q → q ≤ 1048576 → ∃ r, Ev (fun k => laws_szStepS.l0 k l q (i : Int)) r ∧ r ≤ q) ?_ ?_ 0 (by omega)
  · have e : wrap64 (m - (l.length : Int)) = m - l.length := w64 (by omega) (by omega)
    simp only [laws_szStepS.f, e]
    by_cases hh : m - (l.length : Int) < 0
    · simp only [if_pos hh]
      exact ⟨-1, Ev.now _, by omega, by omega⟩
    · simp only [if_neg hh]
      obtain ⟨r, hr, hq⟩ := h (m - l.length) (by omega) (by omega)
      exact ⟨r, hr, by omega, by omega⟩
  · intro q _ _
    refine ⟨q, Ev.step (fun k => rfl) ?_, by omega⟩
    simp only [laws_szStepS.l0, if_neg (show ¬ (l.length : Int) < (l.length : Int) by omega)]
    exact Ev.now _
  · intro i hi ih q q0 q1
    have hsz := hs _ (List.getElem_mem hi)
    by_cases hh : q - (l[i].f1.size : Int) < 0
    · refine ⟨-1, Ev.step (fun k => rfl) ?_, by omega⟩
      simp only [laws_szStepS.l0, if_pos (show (i : Int) < (l.length : Int) by omega), if_pos (nnc i), rdL_nat hi, laws_szStep_eq _ _ _ _ hsz q q0 q1, Option.bind_some, if_pos hh, if_pos (show (-1 : Int) < 0 by omega)]
      exact Ev.now _
    · obtain ⟨r, hr, hrq⟩ := ih (q - l[i].f1.size) (by omega) (by omega)
      refine ⟨r, Ev.step (fun k => rfl) ?_, by omega⟩
      simp only [laws_szStepS.l0, if_pos (show (i : Int) < (l.length : Int) by omega), if_pos (nnc i), rdL_nat hi, laws_szStep_eq _ _ _ _ hsz q q0 q1, Option.bind_some, if_neg hh, w64n (show i < 9223372036854775807 by omega)]
      exact hr
theorem laws_szAutomaton_ev (n : Int) (l1 l2 : List Int) (l3 : List S90) (h1 : l1.length ≤ 9223372036854775807) (h2 : l2.length ≤ 9223372036854775807) (h3 : l3.length ≤ 9223372036854775807) (hs : ∀ x ∈ l3, x.f1.size ≤ 9223372036854775807) :
    ∃ r, Ev (fun k => laws_szAutomaton.f k n l1 l2 l3 1048576) r ∧ r ≤ 1048576 ∧ (0 ≤ r → l1.length ≤ 1048576 ∧ l2.length ≤ 1048576 ∧ l3.length ≤ 1048576) := by
  simp only [laws_szAutomaton.f, laws_szIntS_eq l1 h1 1048576 (by omega) (by omega), Option.bind_some]
  by_cases c1 : 1048576 - (l1.length : Int) < 0
  · simp only [if_pos c1, if_pos (show (-1 : Int) < 0 by omega)]
    exact ⟨-1, Ev.now _, by omega, by omega⟩
  · simp only [if_neg c1, laws_szIntS_eq l2 h2 (1048576 - (l1.length : Int)) (by omega) (by omega), Option.bind_some]
    by_cases c2 : 1048576 - (l1.length : Int) - (l2.length : Int) < 0
    · simp only [if_pos c2, if_pos (show (-1 : Int) < 0 by omega)]
      exact ⟨-1, Ev.now _, by omega, by omega⟩
    · simp only [if_neg c2]
      obtain ⟨r, hr, hq, hl⟩ := laws_szStepS_ev l3 h3 hs (1048576 - (l1.length : Int) - (l2.length : Int)) (by omega) (by omega)
      by_cases c3 : r < 0
      · refine ⟨-1, Ev.bind hr ?_, by omega, by omega⟩
        simp only [if_pos c3]
        exact Ev.now _
      · refine ⟨r, Ev.bind hr ?_, by omega, fun _ => by omega⟩
        simp only [if_neg c3]
        exact Ev.now _
theorem laws_toStepS_ev (l : List S90) (hl : l.length ≤ 7036874417766) : Ev (fun k => laws_toStepS.f k l) (l.map ofL) := by
  have h := down l.length (P := fun i => ∀ out : List S51, out.length = l.length → out.take i = (l.map ofL).take i → Ev (fun k => laws_toStepS.l0 k l out (i : Int)) (l.map ofL)) ?_ ?_ 0 (by omega) (List.replicate l.length z51) (by simp) (by simp)
  · simpa only [laws_toStepS.f, if_pos (show (0 : Int) ≤ (l.length : Int) by omega), Int.toNat_natCast, if_pos hl, cast0] using h
  · intro out ho ht
    refine Ev.step (fun k => rfl) ?_
    simp only [laws_toStepS.l0, if_neg (show ¬ (l.length : Int) < (l.length : Int) by omega)]
    refine ev_to (Ev.now _) ?_
    rw [show l.length = (l.map ofL).length by simp, List.take_length] at ht
    rw [← ht, List.length_map, ← ho, List.take_length]
  · intro i hi ih out ho ht
    refine Ev.step (fun k => rfl) ?_
    simp only [laws_toStepS.l0, if_pos (show (i : Int) < (l.length : Int) by omega), if_pos (show (0 : Int) ≤ (i : Int) by omega), rdL_nat hi, laws_toStep.f, Option.bind_some, if_pos (show (i : Int) < (out.length : Int) by omega), w64n (show i < 9223372036854775807 by omega), Int.toNat_natCast]
    refine ih _ (by simpa using ho) ?_
    rw [List.take_succ_eq_append_getElem (l := l.map ofL) (show i < (l.map ofL).length by simpa using hi), List.take_succ_eq_append_getElem (by simpa [ho] using hi)]
    rw [List.getElem_set_self, List.take_set, ht, List.set_eq_of_length_le (by simp; omega), List.getElem_map]
    rfl
theorem laws_toAutomaton_ev (n : Int) (l1 l2 : List Int) (l3 : List S90) (h1 : l1.length ≤ 35184372088832) (h2 : l2.length ≤ 35184372088832) (h3 : l3.length ≤ 7036874417766) : Ev (fun k => laws_toAutomaton.f k n l1 l2 l3) (n, l1, l2, l3.map ofL) := by
  simp only [laws_toAutomaton.f]
  exact Ev.bind (laws_toIntS_ev l1 h1) (Ev.bind (laws_toIntS_ev l2 h2) (Ev.bind (laws_toStepS_ev l3 h3) (Ev.now _)))
theorem laws_eqStepS_self (l : List S51) (hl : l.length < 9223372036854775807) : Ev (fun k => laws_eqStepS.f k l l) true := by
  have h := down l.length (P := fun i => Ev (fun k => laws_eqStepS.l0 k l l (i : Int)) true) ?_ ?_ 0 (by omega)
  · simpa only [laws_eqStepS.f, if_true, cast0] using h
  · refine Ev.step (fun k => rfl) ?_
    simp only [laws_eqStepS.l0, if_neg (show ¬ (l.length : Int) < (l.length : Int) by omega)]
    exact Ev.now _
  · intro i hi ih
    refine Ev.step (fun k => rfl) ?_
    simp only [laws_eqStepS.l0, if_pos (show (i : Int) < (l.length : Int) by omega), if_pos (nnc i), laws_eqStep.f, if_true, Option.bind_some, w64n (show i < 9223372036854775807 by omega)]
    exact ih
theorem laws_eqAutomaton_self (n : Int) (l1 l2 : List Int) (l3 : List S51) (h1 : l1.length < 9223372036854775807) (h2 : l2.length < 9223372036854775807) (h3 : l3.length < 9223372036854775807) : Ev (fun k => laws_eqAutomaton.f k n l1 l2 l3 n l1 l2 l3) true := by
  simp only [laws_eqAutomaton.f, if_true]
  refine Ev.bind (laws_eqIntS_ev l1 l1 h1) ?_
  simp only [decide_true, if_true]
  refine Ev.bind (laws_eqIntS_ev l2 l2 h2) ?_
  simp only [decide_true, if_true]
  refine Ev.bind (laws_eqStepS_self l3 h3) ?_
  simp only [if_true]
  exact Ev.now _
/-- p at each place from i on, below n. -/
def allFrom (p : Nat → Bool) (n i : Nat) : Bool := (List.range n).all fun j => decide (j < i) || p j
theorem allFrom_iff {p : Nat → Bool} {n i : Nat} : allFrom p n i = true ↔ ∀ j, i ≤ j → j < n → p j = true := by
  simp only [allFrom, List.all_eq_true, List.mem_range, Bool.or_eq_true, decide_eq_true_eq]
  constructor
  · intro h j h1 h2
    rcases h j h2 with e | e
    · omega
    · exact e
  · intro h j h2
    by_cases e : j < i
    · exact Or.inl e
    · exact Or.inr (h j (by omega) h2)
theorem allFrom_end (p : Nat → Bool) (n : Nat) : allFrom p n n = true := allFrom_iff.2 fun j h1 h2 => absurd h2 (by omega)
theorem allFrom_step {p : Nat → Bool} {n i : Nat} (h : i < n) : allFrom p n i = (p i && allFrom p n (i + 1)) := by
  rw [Bool.eq_iff_iff, Bool.and_eq_true, allFrom_iff, allFrom_iff]
  constructor
  · intro hh
    exact ⟨hh i (by omega) h, fun j h1 h2 => hh j (by omega) h2⟩
  · rintro ⟨h1, h2⟩ j h3 h4
    by_cases e : i = j
    · subst e; exact h1
    · exact h2 j (by omega) h4
/-- The number at this place of a list of states fits. -/
def ascAt (n : Int) (l : List Int) (j : Nat) : Bool := decide (0 ≤ rd l j) && (decide (rd l j < n) && (decide (j = 0) || decide (rd l ((j - 1 : Nat) : Int) < rd l j)))
/-- States in ascending order. -/
def asc (n : Int) (l : List Int) : Bool := allFrom (ascAt n l) l.length 0
theorem pred_w {i : Nat} (h : 0 < i) (h2 : i < 9223372036854775807) : wrap64 ((i : Int) - 1) = ((i - 1 : Nat) : Int) := by rw [w64 (by omega) (by omega)]; omega
theorem asc_iff {n : Int} {l : List Int} : asc n l = true ↔ ∀ j, j < l.length → 0 ≤ rd l j ∧ rd l j < n ∧ (0 < j → rd l ((j - 1 : Nat) : Int) < rd l j) := by
  simp only [asc, allFrom_iff, ascAt, Bool.and_eq_true, Bool.or_eq_true, decide_eq_true_eq]
  constructor
  · intro h j hj
    have := h j (by omega) hj
    exact ⟨this.1, this.2.1, fun h0 => by omega⟩
  · intro h j _ hj
    have := h j hj
    refine ⟨this.1, this.2.1, ?_⟩
    by_cases e : j = 0
    · exact Or.inl e
    · exact Or.inr (this.2.2 (by omega))
theorem spec_l1In_eq (a b c : Int) : spec_l1In.f a b c = some (decide (b ≤ a ∧ a ≤ c)) := by
  unfold spec_l1In.f
  split <;> simp <;> omega
def sA (b : ByteArray) : Bool := decide (b.toList = [97])
def sB (b : ByteArray) : Bool := decide (b.toList = [98])
/-- A step that fits so many states. -/
def sOk (n : Int) (s : S51) : Bool := decide (0 ≤ s.f0 ∧ s.f0 < n ∧ 0 ≤ s.f2 ∧ s.f2 < n ∧ 0 ≤ s.f3 ∧ s.f3 ≤ 3) && (sA s.f1 || sB s.f1)
/-- One step is in front of another one. -/
def sLt (s t : S51) : Bool := if s.f0 = t.f0 then (if s.f1.toList = t.f1.toList then decide (s.f2 < t.f2) else Op.bytesLess s.f1.toList t.f1.toList) else decide (s.f0 < t.f0)
def sAt (n : Int) (l : List S51) (j : Nat) : Bool := sOk n (rd_T51 l j) && (decide (j = 0) || sLt (rd_T51 l ((j - 1 : Nat) : Int)) (rd_T51 l j))
/-- Steps that fit so many states, in order. -/
def stepsOk (n : Int) (l : List S51) : Bool := allFrom (sAt n l) l.length 0
/-- An automaton is valid. -/
def av (n : Int) (l1 l2 : List Int) (l3 : List S51) : Bool := decide (1 ≤ n ∧ n ≤ 4) && (asc n l1 && (asc n l2 && (decide (l3.length ≤ 24) && stepsOk n l3)))
theorem spec_l3Step_eq {n : Int} (h1 : 1 ≤ n) (h4 : n ≤ 4) (s : S51) : spec_l3Step.f n s.f0 s.f1 s.f2 s.f3 = some (sOk n s) := by
  have e : wrap64 (n - 1) = n - 1 := w64 (by omega) (by omega)
  simp only [spec_l3Step.f, spec_l1In_eq, Option.bind_some, e, sOk, sA, sB]
  by_cases c0 : 0 ≤ s.f0 ∧ s.f0 ≤ n - 1
  · rw [if_pos (by simpa using c0)]
    by_cases c1 : 0 ≤ s.f2 ∧ s.f2 ≤ n - 1
    · rw [if_pos (by simpa using c1)]
      by_cases c2 : 0 ≤ s.f3 ∧ s.f3 ≤ 3
      · rw [if_pos (by simpa using c2), show decide (0 ≤ s.f0 ∧ s.f0 < n ∧ 0 ≤ s.f2 ∧ s.f2 < n ∧ 0 ≤ s.f3 ∧ s.f3 ≤ 3) = true by simp; omega]
        by_cases c3 : s.f1.toList = [97]
        · simp [c3]
        · rw [if_neg c3]
          simp only [c3, decide_false, Bool.true_and, Bool.false_or]
          congr 1
          by_cases c4 : s.f1.toList = [98] <;> simp [c4]
      · rw [if_neg (by simpa using c2), show decide (0 ≤ s.f0 ∧ s.f0 < n ∧ 0 ≤ s.f2 ∧ s.f2 < n ∧ 0 ≤ s.f3 ∧ s.f3 ≤ 3) = false by simp; omega]
        rfl
    · rw [if_neg (by simpa using c1), show decide (0 ≤ s.f0 ∧ s.f0 < n ∧ 0 ≤ s.f2 ∧ s.f2 < n ∧ 0 ≤ s.f3 ∧ s.f3 ≤ 3) = false by simp; omega]
      rfl
  · rw [if_neg (by simpa using c0), show decide (0 ≤ s.f0 ∧ s.f0 < n ∧ 0 ≤ s.f2 ∧ s.f2 < n ∧ 0 ≤ s.f3 ∧ s.f3 ≤ 3) = false by simp; omega]
    rfl
theorem spec_l3Before_eq (s t : S51) : spec_l3Before.f s.f0 s.f1 s.f2 s.f3 t.f0 t.f1 t.f2 t.f3 = some (sLt s t) := by
  simp only [spec_l3Before.f, sLt]
  split
  · split <;> rfl
  · rfl
/-- A cost: between 0 and 1000000. -/
def cv (a : Int) : Bool := decide (0 ≤ a ∧ a ≤ 1000000)
theorem cv_iff {a : Int} : cv a = true ↔ 0 ≤ a ∧ a ≤ 1000000 := by simp [cv]
/-- The sum of two costs, at most 1000000. -/
def addc (s a : Int) : Int := min (s + a) 1000000
theorem addc_bd {s a : Int} (h0 : 0 ≤ s) (h1 : 0 ≤ a) : 0 ≤ addc s a ∧ addc s a ≤ 1000000 := by unfold addc; omega
/-- A matrix: 1 to 4 rows, as many costs in each. -/
def mv (n : Int) (l : List Int) : Bool := decide (1 ≤ n ∧ n ≤ 4 ∧ (l.length : Int) = n * n) && l.all cv
theorem mv_iff {n : Int} {l : List Int} : mv n l = true ↔ (1 ≤ n ∧ n ≤ 4 ∧ (l.length : Int) = n * n) ∧ l.all cv = true := by simp [mv]
theorem sq_le {n : Int} (h1 : 1 ≤ n) (h2 : n ≤ 4) : 1 ≤ n * n ∧ n * n ≤ 16 := by
  obtain h | h | h | h : n = 1 ∨ n = 2 ∨ n = 3 ∨ n = 4 := by omega
  all_goals subst h; omega
/-- The cost in row i, column j. -/
def ent (n : Nat) (l : List Int) (i j : Nat) : Int := l.getD (i * n + j) 0
theorem rd_ent (n : Nat) (l : List Int) (i j : Nat) : rd l ((i * n + j : Nat) : Int) = ent n l i j := by
  show l.getD ((i * n + j : Nat) : Int).toNat 0 = _
  rw [Int.toNat_natCast]
  rfl
theorem idx_lt {n i j : Nat} (hi : i < n) (hj : j < n) : i * n + j < n * n := by
  have := Nat.mul_le_mul_right n (show i + 1 ≤ n from hi)
  rw [Nat.add_mul] at this
  omega
theorem sq16 {n : Nat} (h : n ≤ 4) : n * n ≤ 16 := Nat.mul_le_mul h h
theorem idx_wrap {n i j : Nat} (hn : n ≤ 4) (hi : i < n) (hj : j < n) : wrap64 ((wrap64 ((i : Int) * (n : Int))) + (j : Int)) = ((i * n + j : Nat) : Int) := by
  have h1 := idx_lt hi hj
  have h2 := sq16 hn
  have e : ((i * n + j : Nat) : Int) = (i : Int) * (n : Int) + (j : Int) := by rw [Int.natCast_add, Int.natCast_mul]
  have e2 : ((i * n : Nat) : Int) = (i : Int) * (n : Int) := Int.natCast_mul _ _
  rw [w64 (x := (i : Int) * (n : Int)) (by omega) (by omega), w64 (by omega) (by omega), e]
theorem div_idx {n i k : Nat} (hk : k < n) : (i * n + k) / n = i ∧ (i * n + k) % n = k := by
  constructor
  · rw [Nat.mul_comm, Nat.mul_add_div (by omega), Nat.div_eq_of_lt hk]; omega
  · rw [Nat.mul_comm, Nat.mul_add_mod, Nat.mod_eq_of_lt hk]
/-- The cells of a matrix, of what a function tells for each place. -/
def cells (n : Nat) (f : Nat → Nat → Int) : List Int := (List.range (n * n)).map fun t => f (t / n) (t % n)
/-- The first so many of them. -/
def cellsTo (n : Nat) (f : Nat → Nat → Int) (m : Nat) : List Int := (List.range m).map fun t => f (t / n) (t % n)
theorem cellsTo_len (n : Nat) (f : Nat → Nat → Int) (m : Nat) : (cellsTo n f m).length = m := by simp [cellsTo]
theorem cells_len (n : Nat) (f : Nat → Nat → Int) : (cells n f).length = n * n := by simp [cells]
theorem cellsTo_next (n : Nat) (f : Nat → Nat → Int) (m : Nat) : cellsTo n f m ++ [f (m / n) (m % n)] = cellsTo n f (m + 1) := by simp [cellsTo, List.range_succ]
theorem ent_cells {n : Nat} (f : Nat → Nat → Int) {i j : Nat} (hi : i < n) (hj : j < n) : ent n (cells n f) i j = f i j := by
  have h := idx_lt hi hj
  have hd := div_idx (i := i) hj
  rw [ent, cells, List.getD_eq_getElem?_getD, List.getElem?_map, List.getElem?_range h]
  simp [hd.1, hd.2]
theorem cells_ent {n : Nat} {l : List Int} (h : l.length = n * n) : cells n (ent n l) = l := by
  apply List.ext_getElem
  · rw [cells_len, h]
  · intro i h1 h2
    have e : i / n * n + i % n = i := by rw [Nat.mul_comm]; exact Nat.div_add_mod i n
    simp [cells, ent, e, h2]
theorem cells_congr {n : Nat} {f g : Nat → Nat → Int} (h : ∀ i j, i < n → j < n → f i j = g i j) : cells n f = cells n g := by
  apply List.map_congr_left
  intro t ht
  have ht : t < n * n := by simpa using ht
  have hn : 0 < n := by
    cases n with
    | zero => simp at ht
    | succ n => omega
  exact h _ _ (Nat.div_lt_of_lt_mul ht) (Nat.mod_lt _ hn)
theorem cells_all {n : Nat} {f : Nat → Nat → Int} (h : ∀ i j, i < n → j < n → cv (f i j) = true) : (cells n f).all cv = true := by
  rw [List.all_eq_true]
  intro x hx
  obtain ⟨t, ht, rfl⟩ := List.mem_map.1 hx
  have ht : t < n * n := by simpa using ht
  have hn : 0 < n := by
    cases n with
    | zero => simp at ht
    | succ n => omega
  exact h _ _ (Nat.div_lt_of_lt_mul ht) (Nat.mod_lt _ hn)
theorem mv_cells {n : Nat} (h0 : 1 ≤ n) (h1 : n ≤ 4) {f : Nat → Nat → Int} (h : ∀ i j, i < n → j < n → cv (f i j) = true) : mv (n : Int) (cells n f) = true := by
  rw [mv_iff]
  refine ⟨⟨by omega, by omega, ?_⟩, cells_all h⟩
  rw [cells_len, Int.natCast_mul]
theorem mv_nat {n : Int} {l : List Int} (h : mv n l = true) : ∃ m : Nat, n = (m : Int) ∧ 1 ≤ m ∧ m ≤ 4 ∧ l.length = m * m ∧ ∀ x ∈ l, cv x = true := by
  rw [mv_iff] at h
  obtain ⟨m, rfl⟩ := Int.eq_ofNat_of_zero_le (show 0 ≤ n by omega)
  have e := Int.natCast_mul m m
  exact ⟨m, rfl, by omega, by omega, by omega, by simpa using h.2⟩
theorem cv_ent {n : Nat} {l : List Int} (hl : l.length = n * n) (h : ∀ x ∈ l, cv x = true) {i j : Nat} (hi : i < n) (hj : j < n) : cv (ent n l i j) = true := by
  have hb := idx_lt hi hj
  have : ent n l i j = l[i * n + j]'(by omega) := by
    rw [ent, List.getD_eq_getElem?_getD, List.getElem?_eq_getElem (by omega)]
    rfl
  rw [this]
  exact h _ (List.getElem_mem _)
/-- The least of so many costs. -/
def dotTo (f : Nat → Int) (m : Nat) : Int := (List.range m).foldl (fun acc x => min acc (f x)) 1000000
theorem dotTo_next (f : Nat → Int) (m : Nat) : dotTo f (m + 1) = min (dotTo f m) (f m) := by simp [dotTo, List.range_succ]
theorem dotTo_zero (f : Nat → Int) : dotTo f 0 = 1000000 := rfl
theorem dotTo_bd {f : Nat → Int} : ∀ {m : Nat}, (∀ l, l < m → 0 ≤ f l) → 0 ≤ dotTo f m ∧ dotTo f m ≤ 1000000 := by
  intro m
  induction m with
  | zero => intro _; rw [dotTo_zero]; omega
  | succ m ih =>
    intro h
    have h1 := ih (fun l hl => h l (by omega))
    have h2 := h m (by omega)
    rw [dotTo_next]
    omega
def unitm (n : Nat) : List Int := cells n fun i j => if i = j then 0 else 1000000
def turnm (n : Nat) (a : List Int) : List Int := cells n fun i j => ent n a j i
def minm (n : Nat) (a b : List Int) : List Int := cells n fun i j => min (ent n a i j) (ent n b i j)
def mulm (n : Nat) (a b : List Int) : List Int := cells n fun i j => dotTo (fun l => addc (ent n a i l) (ent n b l j)) n
def two (n : Int) (a : List Int) (m : Int) (b : List Int) : Bool := mv n a && (mv m b && decide (n = m))
def unitR (n : Int) : Int × List Int × Bool := if 1 ≤ n ∧ n ≤ 4 then (n, unitm n.toNat, true) else (0, [], false)
def turnR (n : Int) (a : List Int) : Int × List Int × Bool := if mv n a then (n, turnm n.toNat a, true) else (0, [], false)
def minR (n : Int) (a : List Int) (m : Int) (b : List Int) : Int × List Int × Bool := if two n a m b then (n, minm n.toNat a b, true) else (0, [], false)
def mulR (n : Int) (a : List Int) (m : Int) (b : List Int) : Int × List Int × Bool := if two n a m b then (n, mulm n.toNat a b, true) else (0, [], false)
theorem two_iff {n m : Int} {a b : List Int} : two n a m b = true ↔ mv n a = true ∧ mv m b = true ∧ n = m := by simp [two]
theorem cv_bd {a : Int} (h : cv a = true) : 0 ≤ a ∧ a ≤ 1000000 := cv_iff.1 h
theorem cv_dot {n : Nat} {f : Nat → Int} (h : ∀ l, l < n → 0 ≤ f l) : cv (dotTo f n) = true := cv_iff.2 (dotTo_bd h)
theorem mv_mulm {n : Nat} (h1 : 1 ≤ n) (h4 : n ≤ 4) {a b : List Int} (hla : a.length = n * n) (hlb : b.length = n * n) (hca : ∀ x ∈ a, cv x = true) (hcb : ∀ x ∈ b, cv x = true) : mv (n : Int) (mulm n a b) = true :=
  mv_cells h1 h4 fun i j hi hj => cv_dot fun l hl => (addc_bd (cv_iff.1 (cv_ent hla hca hi hl)).1 (cv_iff.1 (cv_ent hlb hcb hl hj)).1).1
theorem mv_minm {n : Nat} (h1 : 1 ≤ n) (h4 : n ≤ 4) {a b : List Int} (hla : a.length = n * n) (hlb : b.length = n * n) (hca : ∀ x ∈ a, cv x = true) (hcb : ∀ x ∈ b, cv x = true) : mv (n : Int) (minm n a b) = true :=
  mv_cells h1 h4 fun i j hi hj => by
    have c1 := cv_iff.1 (cv_ent hla hca hi hj)
    have c2 := cv_iff.1 (cv_ent hlb hcb hi hj)
    rw [cv_iff]
    omega
theorem mv_turnm {n : Nat} (h1 : 1 ≤ n) (h4 : n ≤ 4) {a : List Int} (hla : a.length = n * n) (hca : ∀ x ∈ a, cv x = true) : mv (n : Int) (turnm n a) = true :=
  mv_cells h1 h4 fun i j hi hj => cv_ent hla hca hj hi
theorem mv_unitm {n : Nat} (h1 : 1 ≤ n) (h4 : n ≤ 4) : mv (n : Int) (unitm n) = true :=
  mv_cells h1 h4 fun i j hi hj => by
    by_cases e : i = j <;> simp [e, cv]
/-- A matrix of so many rows that is valid. -/
structure Ok (n : Nat) (l : List Int) : Prop where
  h1 : 1 ≤ n
  h4 : n ≤ 4
  len : l.length = n * n
  all : ∀ x ∈ l, cv x = true
theorem ok_of {n : Nat} {l : List Int} (h : mv (n : Int) l = true) : Ok n l := by
  obtain ⟨m, hm, h1, h4, hl, hc⟩ := mv_nat h
  obtain rfl : n = m := by omega
  exact ⟨h1, h4, hl, hc⟩
theorem Ok.mv {n : Nat} {l : List Int} (h : Ok n l) : mv (n : Int) l = true := by
  rw [mv_iff]
  refine ⟨⟨by have := h.h1; omega, by have := h.h4; omega, ?_⟩, by simpa using h.all⟩
  rw [h.len, Int.natCast_mul]
theorem Ok.two {n : Nat} {a b : List Int} (ha : Ok n a) (hb : Ok n b) : two (n : Int) a (n : Int) b = true := two_iff.2 ⟨ha.mv, hb.mv, rfl⟩
theorem Ok.mul {n : Nat} {a b : List Int} (ha : Ok n a) (hb : Ok n b) : Ok n (mulm n a b) := ok_of (mv_mulm ha.h1 ha.h4 ha.len hb.len ha.all hb.all)
theorem Ok.min {n : Nat} {a b : List Int} (ha : Ok n a) (hb : Ok n b) : Ok n (minm n a b) := ok_of (mv_minm ha.h1 ha.h4 ha.len hb.len ha.all hb.all)
theorem Ok.turn {n : Nat} {a : List Int} (ha : Ok n a) : Ok n (turnm n a) := ok_of (mv_turnm ha.h1 ha.h4 ha.len ha.all)
theorem Ok.unit {n : Nat} (h1 : 1 ≤ n) (h4 : n ≤ 4) : Ok n (unitm n) := ok_of (mv_unitm h1 h4)
theorem Ok.short {n : Nat} {a : List Int} (ha : Ok n a) : a.length ≤ 16 := by rw [ha.len]; exact sq16 ha.h4
theorem mulR_ok {n : Nat} {a b : List Int} (ha : Ok n a) (hb : Ok n b) : mulR (n : Int) a (n : Int) b = ((n : Int), mulm n a b, true) := by rw [mulR, if_pos (ha.two hb), Int.toNat_natCast]
theorem minR_ok {n : Nat} {a b : List Int} (ha : Ok n a) (hb : Ok n b) : minR (n : Int) a (n : Int) b = ((n : Int), minm n a b, true) := by rw [minR, if_pos (ha.two hb), Int.toNat_natCast]
theorem turnR_ok {n : Nat} {a : List Int} (ha : Ok n a) : turnR (n : Int) a = ((n : Int), turnm n a, true) := by rw [turnR, if_pos ha.mv, Int.toNat_natCast]
theorem unitR_ok {n : Nat} (h1 : 1 ≤ n) (h4 : n ≤ 4) : unitR (n : Int) = ((n : Int), unitm n, true) := by rw [unitR, if_pos (by omega), Int.toNat_natCast]
theorem mv_ok {n : Int} {l : List Int} (h : _root_.Go.Proofs.Ytejnpldoakgadaa.Pure.mv n l = true) : ∃ m : Nat, n = (m : Int) ∧ Ok m l := by
  obtain ⟨m, hm, h1, h4, hl, hc⟩ := mv_nat h
  exact ⟨m, hm, h1, h4, hl, hc⟩
theorem sOk_iff {n : Int} {s : S51} : sOk n s = true ↔ (0 ≤ s.f0 ∧ s.f0 < n ∧ 0 ≤ s.f2 ∧ s.f2 < n ∧ 0 ≤ s.f3 ∧ s.f3 ≤ 3) ∧ (s.f1.toList = [97] ∨ s.f1.toList = [98]) := by
  simp [sOk, sA, sB]
theorem stepsOk_mem {n : Int} {l : List S51} (h : stepsOk n l = true) {s : S51} (hs : s ∈ l) : sOk n s = true := by
  obtain ⟨i, hi, rfl⟩ := List.mem_iff_getElem.1 hs
  have := allFrom_iff.1 h i (by omega) hi
  simp only [sAt, Bool.and_eq_true, rdI_nat hi] at this
  exact this.1
theorem av_nat {n : Int} {l1 l2 : List Int} {l3 : List S51} (h : av n l1 l2 l3 = true) : ∃ m : Nat, n = (m : Int) ∧ 1 ≤ m ∧ m ≤ 4 ∧ asc n l1 = true ∧ asc n l2 = true ∧ l3.length ≤ 24 ∧ stepsOk n l3 = true := by
  simp only [av, Bool.and_eq_true, decide_eq_true_eq] at h
  obtain ⟨⟨h1, h4⟩, ha, hb, hl, hs⟩ := h
  obtain ⟨m, rfl⟩ := Int.eq_ofNat_of_zero_le (show 0 ≤ n by omega)
  exact ⟨m, rfl, by omega, by omega, ha, hb, hl, hs⟩
/-- A step's cost put into a matrix. -/
def putS (n : Nat) (c : ByteArray) (m : List Int) (s : S51) : List Int := if s.f1.toList = c.toList then m.set (s.f0 * (n : Int) + s.f2).toNat s.f3 else m
/-- The matrix of the steps by a letter. -/
def stepmat (n : Nat) (c : ByteArray) (l : List S51) : List Int := l.foldl (putS n c) (List.replicate (n * n) 1000000)
theorem putS_len (n : Nat) (c : ByteArray) (m : List Int) (s : S51) : (putS n c m s).length = m.length := by
  unfold putS
  split <;> simp
theorem foldS_len (n : Nat) (c : ByteArray) (l : List S51) : ∀ m : List Int, (l.foldl (putS n c) m).length = m.length := by
  induction l with
  | nil => intro m; rfl
  | cons s l ih => intro m; rw [List.foldl_cons, ih, putS_len]
theorem stepmat_len (n : Nat) (c : ByteArray) (l : List S51) : (stepmat n c l).length = n * n := by rw [stepmat, foldS_len]; simp
theorem foldS_cv {n : Nat} (c : ByteArray) (l : List S51) (hl : ∀ s ∈ l, sOk (n : Int) s = true) : ∀ m : List Int, (∀ x ∈ m, cv x = true) → ∀ x ∈ l.foldl (putS n c) m, cv x = true := by
  induction l with
  | nil => intro m h; exact h
  | cons s l ih =>
    intro m h
    rw [List.foldl_cons]
    refine ih (fun s hs => hl s (List.mem_cons_of_mem _ hs)) _ ?_
    intro x hx
    unfold putS at hx
    split at hx
    · rcases List.mem_or_eq_of_mem_set hx with e | e
      · exact h x e
      · have := (sOk_iff.1 (hl s List.mem_cons_self)).1
        subst e
        exact cv_iff.2 (by omega)
    · exact h x hx
theorem stepmat_ok {n : Nat} (h1 : 1 ≤ n) (h4 : n ≤ 4) (c : ByteArray) {l : List S51} (hl : ∀ s ∈ l, sOk (n : Int) s = true) : Ok n (stepmat n c l) :=
  ⟨h1, h4, stepmat_len n c l, foldS_cv c l hl _ fun x hx => by rw [(List.mem_replicate.1 hx).2]; rfl⟩
def stepR (n : Int) (l1 l2 : List Int) (l3 : List S51) (c : ByteArray) : Int × List Int × Bool := if av n l1 l2 l3 && (sA c || sB c) then (n, stepmat n.toNat c l3, true) else (0, [], false)
theorem step_at {n : Nat} (h4 : n ≤ 4) {s : S51} (h : sOk (n : Int) s = true) : ∃ q : Nat, q < n * n ∧ wrap64 ((wrap64 (s.f0 * (n : Int))) + s.f2) = (q : Int) ∧ (s.f0 * (n : Int) + s.f2).toNat = q := by
  have hb := (sOk_iff.1 h).1
  obtain ⟨i, hi⟩ := Int.eq_ofNat_of_zero_le hb.1
  obtain ⟨j, hj⟩ := Int.eq_ofNat_of_zero_le hb.2.2.1
  have hi4 : i < n := by omega
  have hj4 : j < n := by omega
  refine ⟨i * n + j, idx_lt hi4 hj4, ?_, ?_⟩
  · rw [hi, hj]; exact idx_wrap h4 hi4 hj4
  · rw [hi, hj, ← Int.natCast_mul, ← Int.natCast_add, Int.toNat_natCast]
/-- The letter of a step as a number. -/
def lc (b : ByteArray) : Int := if b.toList = [97] then 0 else 1
/-- Where a step stands: by From, by Letter, by To. -/
def key (s : S51) : Int := s.f0 * 8 + lc s.f1 * 4 + s.f2
theorem sLt_key {n : Int} (h4 : n ≤ 4) {s t : S51} (hs : sOk n s = true) (ht : sOk n t = true) : sLt s t = decide (key s < key t) := by
  have a := sOk_iff.1 hs
  have b := sOk_iff.1 ht
  have e : ([97] : List UInt8) ≠ [98] := by decide
  have e' : ([98] : List UInt8) ≠ [97] := by decide
  unfold sLt key lc
  rw [Bool.eq_iff_iff, decide_eq_true_eq]
  by_cases h0 : s.f0 = t.f0
  · rw [if_pos h0]
    rcases a.2 with a2 | a2 <;> rcases b.2 with b2 | b2
    · simp only [a2, b2, if_true, decide_eq_true_eq]; omega
    · simp only [a2, b2, if_neg e, if_neg e', if_true, show Op.bytesLess [97] [98] = true from rfl]; constructor <;> intro hh <;> first | omega | trivial
    · simp only [a2, b2, if_neg e, if_neg e', if_true, show Op.bytesLess [98] [97] = false from rfl]; constructor <;> intro hh <;> first | (exfalso; omega) | cases hh
    · simp only [a2, b2, if_neg e', if_true, decide_eq_true_eq]; omega
  · rw [if_neg h0, decide_eq_true_eq]
    split <;> split <;> omega
theorem keys_lt {n : Int} (h4 : n ≤ 4) {l : List S51} (h : stepsOk n l = true) : ∀ q p, p < q → ∀ (hq : q < l.length), ∀ (hp : p < l.length), key l[p] < key l[q] := by
  intro q
  induction q with
  | zero => intro p hp; omega
  | succ q ih =>
    intro p hpq hq hp
    have hc := allFrom_iff.1 h (q + 1) (by omega) hq
    simp only [sAt, Bool.and_eq_true, Bool.or_eq_true, decide_eq_true_eq] at hc
    have h1 : sLt l[q] l[q + 1] = true := by
      rcases hc.2 with e | e
      · omega
      · rw [show ((q + 1 - 1 : Nat) : Int) = (q : Int) by omega, rdI_nat (show q < l.length by omega), rdI_nat hq] at e
        exact e
    rw [sLt_key h4 (stepsOk_mem h (List.getElem_mem _)) (stepsOk_mem h (List.getElem_mem _)), decide_eq_true_eq] at h1
    by_cases e : p = q
    · subst e; exact h1
    · have := ih p (by omega) (by omega) hp
      omega
theorem bt_nat {s : ByteArray} {i : Nat} (h : i < s.size) : bt s (i : Int) = (s[i].toNat : Int) := by simp [bt, h]
def wordv (s : ByteArray) : Bool := s.data.toList.all (fun c => c == 97 || c == 98) && decide (s.size ≤ 1000)
def wordfrom (s : ByteArray) (i : Nat) : Bool := (s.data.toList.drop i).all (fun c => c == 97 || c == 98) && decide (s.size ≤ 1000)
theorem wordfrom_end (s : ByteArray) : wordfrom s s.size = decide ((s.size : Int) ≤ 1000) := by
  have : s.data.toList.drop s.size = [] := List.drop_eq_nil_of_le (by simp)
  simp only [wordfrom, this, List.all_nil, Bool.true_and]
  by_cases h : s.size ≤ 1000
  · rw [decide_eq_true h, decide_eq_true (by omega)]
  · rw [decide_eq_false h, decide_eq_false (by omega)]
theorem wordfrom_step {s : ByteArray} {i : Nat} (h : i < s.size) : wordfrom s i = ((s[i] == 97 || s[i] == 98) && wordfrom s (i + 1)) := by
  have : s.data.toList.drop i = s[i] :: s.data.toList.drop (i + 1) := List.drop_eq_getElem_cons (by simpa using h)
  simp only [wordfrom, this, List.all_cons, Bool.and_assoc]
theorem byte_is (c : UInt8) (n : Nat) (hn : n < 256) : ((c.toNat : Int) = (n : Int)) ↔ c = UInt8.ofNat n := by
  constructor
  · intro h
    apply UInt8.toNat_inj.1
    have : (UInt8.ofNat n).toNat = n % 256 := UInt8.toNat_ofNat'
    omega
  · intro h
    have : (UInt8.ofNat n).toNat = n % 256 := UInt8.toNat_ofNat'
    rw [h]
    omega
theorem byte97 (c : UInt8) : ((c.toNat : Int) = 97) ↔ c = 97 := byte_is c 97 (by decide)
theorem byte98 (c : UInt8) : ((c.toNat : Int) = 98) ↔ c = 98 := byte_is c 98 (by decide)
/-- A step goes on a run over a word at this place. -/
def goesAt (w : ByteArray) (run : List Int) (i : Nat) (s : S51) : Bool := decide (s.f0 = rd run (i : Int)) && (decide (s.f1.toList = (w.extract i (i + 1)).toList) && decide (s.f2 = rd run ((i + 1 : Nat) : Int)))
theorem goesAt_key {w : ByteArray} {run : List Int} {i : Nat} {s t : S51} (hs : goesAt w run i s = true) (ht : goesAt w run i t = true) : key s = key t := by
  simp only [goesAt, Bool.and_eq_true, decide_eq_true_eq] at hs ht
  unfold key lc
  rw [hs.1, ht.1, hs.2.1, ht.2.1, hs.2.2, ht.2.2]
/-- What the step costs that goes on a run there, if there is one. -/
def costAt (l : List S51) (w : ByteArray) (run : List Int) (i : Nat) : Option Int := (l.find? (goesAt w run i)).map (·.f3)
/-- The cost of a run from a place on. -/
def runFrom (f : Nat → Option Int) : Nat → Nat → Int → Int
  | 0, _, acc => acc
  | d + 1, i, acc => match f i with
    | none => -1
    | some c => runFrom f d (i + 1) (acc + c)
theorem goes_once {n : Int} (h4 : n ≤ 4) {l : List S51} (h : stepsOk n l = true) {w : ByteArray} {run : List Int} {i q : Nat} (hq : q < l.length) (hm : goesAt w run i l[q] = true) : (l.drop (q + 1)).find? (goesAt w run i) = none := by
  rw [List.find?_eq_none]
  intro s hs hg
  obtain ⟨p, hp, rfl⟩ := List.mem_iff_getElem.1 hs
  rw [List.getElem_drop] at hg
  rw [List.length_drop] at hp
  have h1 := keys_lt h4 h (q + 1 + p) q (by omega) (by omega) hq
  have h2 := goesAt_key hm hg
  omega
/-- The cost of a run. -/
def runCost (n : Int) (l1 l2 : List Int) (l3 : List S51) (w : ByteArray) (run : List Int) : Int :=
  if av n l1 l2 l3 && (wordv w && (decide (run.length = w.size + 1) && (decide (rd run 0 ∈ l1) && decide (rd run (w.size : Int) ∈ l2)))) then runFrom (costAt l3 w run) w.size 0 0 else -1
theorem wordv_le {w : ByteArray} (h : wordv w = true) : w.size ≤ 1000 := by
  simp only [wordv, Bool.and_eq_true, decide_eq_true_eq] at h
  exact h.2
theorem cost_bd {n : Int} {l : List S51} (h : stepsOk n l = true) {w : ByteArray} {run : List Int} {i : Nat} {c : Int} (hc : costAt l w run i = some c) : 0 ≤ c ∧ c ≤ 3 := by
  simp only [costAt, Option.map_eq_some_iff] at hc
  obtain ⟨s, hs, rfl⟩ := hc
  have := (sOk_iff.1 (stepsOk_mem h (List.mem_of_find?_eq_some hs))).1
  omega
theorem spec_l4In_ev (l : List Int) (x : Int) (hl : l.length < 9223372036854775807) : Ev (fun k => spec_l4In.f k l x) (decide (x ∈ l)) := by
  have h := down l.length (P := fun i => Ev (fun k => spec_l4In.l0 k x l (l.length : Int) (i : Int)) (decide (x ∈ l.drop i))) ?_ ?_ 0 (by omega)
  · simpa only [spec_l4In.f, cast0, List.drop_zero] using h
  · refine Ev.step (fun k => rfl) ?_
    simp only [spec_l4In.l0, if_neg (show ¬ (l.length : Int) < (l.length : Int) by omega), dropn]
    exact ev_to (Ev.now _) (by simp)
  · intro i hi ih
    refine Ev.step (fun k => rfl) ?_
    simp only [spec_l4In.l0, if_pos (show (i : Int) < (l.length : Int) by omega), if_pos (nnc i), rd_nat hi, w64n (show i < 9223372036854775807 by omega)]
    have hm : x ∈ l.drop i ↔ x = l[i] ∨ x ∈ l.drop (i + 1) := by rw [dropc hi, List.mem_cons]
    by_cases e : l[i] = x
    · simp only [if_pos e]
      exact ev_to (Ev.now _) (by rw [eq_comm, decide_eq_true_eq, hm]; exact Or.inl e.symm)
    · simp only [if_neg e]
      exact ev_to ih (by rw [decide_eq_decide, hm]; exact (or_iff_right fun z => e z.symm).symm)
theorem spec_WordValid_ev (s : ByteArray) (hs : s.size ≤ 140737488351232) : Ev (fun k => spec_WordValid.f k s) (wordv s) := by
  have h := down s.size (P := fun i => Ev (fun k => spec_WordValid.l0 k s (s.size : Int) (i : Int)) (wordfrom s i)) ?_ ?_ 0 (by omega)
  · simpa only [spec_WordValid.f, wordfrom, wordv, List.drop_zero, cast0] using h
  · refine Ev.step (fun k => rfl) ?_
    simp only [spec_WordValid.l0, if_neg (show ¬ (s.size : Int) < (s.size : Int) by omega), wordfrom_end]
    exact Ev.now _
  · intro i hi ih
    refine Ev.step (fun k => rfl) ?_
    simp only [spec_WordValid.l0, if_pos (show (i : Int) < (s.size : Int) by omega), if_pos (show (0 : Int) ≤ (i : Int) by omega), bt_nat hi, w64n (show i < 9223372036854775807 by omega), wordfrom_step hi, byte97, byte98]
    by_cases h1 : s[i] = 97
    · simpa [h1] using ih
    · by_cases h2 : s[i] = 98
      · simpa [h2] using ih
      · simp only [if_neg h1, if_neg h2]
        exact ev_to (Ev.now false) (by rw [beq_eq_false_iff_ne.2 h1, beq_eq_false_iff_ne.2 h2]; rfl)
theorem spec_l3Marks_ev (n : Int) (h1 : 1 ≤ n) (h4 : n ≤ 4) (l : List Int) (hl : l.length < 9223372036854775807) : Ev (fun k => spec_l3Marks.f k n l) (asc n l) := by
  have h := down l.length (P := fun i => Ev (fun k => spec_l3Marks.l0 k n l l (l.length : Int) (i : Int)) (allFrom (ascAt n l) l.length i)) ?_ ?_ 0 (by omega)
  · simpa only [spec_l3Marks.f, asc, cast0] using h
  · refine Ev.step (fun k => rfl) ?_
    simp only [spec_l3Marks.l0, if_neg (show ¬ (l.length : Int) < (l.length : Int) by omega), allFrom_end]
    exact Ev.now _
  · intro i hi ih
    refine Ev.step (fun k => rfl) ?_
    simp only [spec_l3Marks.l0, if_pos (show (i : Int) < (l.length : Int) by omega), if_pos (nnc i), spec_l1In_eq, Option.bind_some, w64n (show i < 9223372036854775807 by omega), w64 (show -9223372036854775808 ≤ n - 1 by omega) (show n - 1 ≤ 9223372036854775807 by omega)]
    rw [allFrom_step hi]
    by_cases hc : 0 ≤ rd l i ∧ rd l i ≤ n - 1
    · simp only [show decide (0 ≤ rd l i ∧ rd l i ≤ n - 1) = true by simpa using hc, if_true]
      by_cases h0 : i = 0
      · subst h0
        simp only [cast0, if_neg (show ¬ (0 : Int) > 0 by omega)]
        exact ev_to ih (by simp [ascAt, show (0 : Int) ≤ rd l 0 from hc.1, show rd l 0 < n by have := hc.2; simp at this; omega])
      · simp only [if_pos (show (i : Int) > 0 by omega), pred_w (show 0 < i by omega) (show i < 9223372036854775807 by omega), if_pos (nnc (i - 1)), if_pos (show ((i - 1 : Nat) : Int) < (l.length : Int) by omega)]
        by_cases hb : rd l ((i - 1 : Nat) : Int) ≥ rd l i
        · simp only [if_pos hb]
          exact ev_to (Ev.now _) (by simp [ascAt, h0, show ¬ rd l ((i - 1 : Nat) : Int) < rd l i by omega])
        · simp only [if_neg hb]
          exact ev_to ih (by simp [ascAt, hc.1, show rd l i < n by omega, show rd l ((i - 1 : Nat) : Int) < rd l i by omega])
    · simp only [show decide (0 ≤ rd l i ∧ rd l i ≤ n - 1) = false by simpa using hc, Bool.false_eq_true, if_false]
      refine ev_to (Ev.now _) ?_
      by_cases ha : 0 ≤ rd l i
      · simp [ascAt, show ¬ rd l i < n by omega]
      · simp [ascAt, ha]
theorem spec_AutomatonValid_steps {n : Int} (h1 : 1 ≤ n) (h4 : n ≤ 4) (l1 l2 : List Int) (l3 : List S51) (h3 : l3.length < 9223372036854775807) : Ev (fun k => spec_AutomatonValid.l0 k l3 (l3.length : Int) 0 n l1 l2 l3) (stepsOk n l3) := by
  have h := down l3.length (P := fun i => Ev (fun k => spec_AutomatonValid.l0 k l3 (l3.length : Int) (i : Int) n l1 l2 l3) (allFrom (sAt n l3) l3.length i)) ?_ ?_ 0 (by omega)
  · simpa only [stepsOk, cast0] using h
  · refine Ev.step (fun k => rfl) ?_
    simp only [spec_AutomatonValid.l0, if_neg (show ¬ (l3.length : Int) < (l3.length : Int) by omega), allFrom_end]
    exact Ev.now _
  · intro i hi ih
    refine Ev.step (fun k => rfl) ?_
    simp only [spec_AutomatonValid.l0, if_pos (show (i : Int) < (l3.length : Int) by omega), if_pos (nnc i), spec_l3Step_eq h1 h4, spec_l3Before_eq, Option.bind_some, w64n (show i < 9223372036854775807 by omega)]
    rw [allFrom_step hi]
    cases hs : sOk n (rd_T51 l3 (i : Int)) with
    | false =>
      simp only [Bool.false_eq_true, if_false]
      exact ev_to (Ev.now _) (by simp [sAt, hs])
    | true =>
      simp only [if_true]
      by_cases h0 : i = 0
      · subst h0
        simp only [cast0, if_neg (show ¬ (0 : Int) > 0 by omega)]
        exact ev_to ih (by simp only [cast0] at hs; simp [sAt, hs])
      · simp only [if_pos (show (i : Int) > 0 by omega), pred_w (show 0 < i by omega) (show i < 9223372036854775807 by omega), if_pos (nnc (i - 1)), if_pos (show ((i - 1 : Nat) : Int) < (l3.length : Int) by omega)]
        cases hb : sLt (rd_T51 l3 ((i - 1 : Nat) : Int)) (rd_T51 l3 (i : Int)) with
        | false =>
          simp only [Bool.false_eq_true, if_false]
          exact ev_to (Ev.now _) (by simp [sAt, h0, hb])
        | true =>
          simp only [if_true]
          exact ev_to ih (by simp [sAt, hs, hb])
theorem spec_AutomatonValid_ev (n : Int) (l1 l2 : List Int) (l3 : List S51) (h1 : l1.length < 9223372036854775807) (h2 : l2.length < 9223372036854775807) (h3 : l3.length < 9223372036854775807) : Ev (fun k => spec_AutomatonValid.f k n l1 l2 l3) (av n l1 l2 l3) := by
  have hno : Ev (fun k => spec_AutomatonValid.j0 k true n l1 l2 l3) false := by
    refine Ev.step (fun k => rfl) ?_
    simp only [spec_AutomatonValid.j0, if_true]
    exact Ev.now _
  simp only [spec_AutomatonValid.f, spec_l1In_eq, Option.bind_some]
  by_cases c0 : 1 ≤ n ∧ n ≤ 4
  · simp only [show decide (1 ≤ n ∧ n ≤ 4) = true by simpa using c0, if_true]
    refine Ev.bind (spec_l3Marks_ev n c0.1 c0.2 l1 h1) ?_
    cases e1 : asc n l1 with
    | false =>
      simp only [Bool.false_eq_true, if_false]
      exact ev_to hno (by simp [av, e1])
    | true =>
      simp only [if_true]
      refine Ev.bind (spec_l3Marks_ev n c0.1 c0.2 l2 h2) ?_
      cases e2 : asc n l2 with
      | false =>
        simp only [Bool.false_eq_true, if_false]
        exact ev_to hno (by simp [av, e2])
      | true =>
        simp only [if_true]
        by_cases c3 : (l3.length : Int) > 24
        · simp only [c3, decide_true]
          exact ev_to hno (by simp [av, show ¬ l3.length ≤ 24 by omega])
        · simp only [c3, decide_false]
          refine Ev.step (fun k => rfl) ?_
          simp only [spec_AutomatonValid.j0, Bool.false_eq_true, if_false]
          exact ev_to (spec_AutomatonValid_steps c0.1 c0.2 l1 l2 l3 h3) (by simp [av, e1, e2, c0.1, c0.2, show l3.length ≤ 24 by omega])
  · simp only [show decide (1 ≤ n ∧ n ≤ 4) = false by simpa using c0, Bool.false_eq_true, if_false]
    exact ev_to hno (by simp only [av]; rw [show decide (1 ≤ n ∧ n ≤ 4) = false by simpa using c0]; rfl)
theorem spec_CostOfRun_l1 {n : Int} (h4 : n ≤ 4) {l1 l2 : List Int} {l : List S51} (hl : l.length ≤ 24) (hs : stepsOk n l = true) {w : ByteArray} {run : List Int} (hw : w.size ≤ 1000) (hr : run.length = w.size + 1) {i : Nat} (hi : i < w.size) {r : Int} (acc : Int) (h0 : 0 ≤ acc) (h1 : acc ≤ 3 * i)
    (hn : costAt l w run i = none → r = -1) (hc : ∀ c, costAt l w run i = some c → Ev (fun k => spec_CostOfRun.l0 k w run (acc + c) (w.size : Int) ((i + 1 : Nat) : Int) n l1 l2 l) r) :
    Ev (fun k => spec_CostOfRun.l1 k w run acc (i : Int) false (w.size : Int) (i : Int) l (l.length : Int) 0 n l1 l2 l) r := by
  have hin := down l.length (P := fun q => ∀ (a : Int) (b : Bool), 0 ≤ a → a ≤ 3000 + (if b = true then 3 else 0) → (b = true → (l.drop q).find? (goesAt w run i) = none) →
      (∀ s, (l.drop q).find? (goesAt w run i) = some s → Ev (fun k => spec_CostOfRun.l0 k w run (a + s.f3) (w.size : Int) ((i + 1 : Nat) : Int) n l1 l2 l) r) →
      ((l.drop q).find? (goesAt w run i) = none → if b = true then Ev (fun k => spec_CostOfRun.l0 k w run a (w.size : Int) ((i + 1 : Nat) : Int) n l1 l2 l) r else r = -1) →
      Ev (fun k => spec_CostOfRun.l1 k w run a (i : Int) b (w.size : Int) (i : Int) l (l.length : Int) (q : Int) n l1 l2 l) r) ?_ ?_ 0 (by omega)
  · refine hin acc false h0 (by simp only [Bool.false_eq_true, if_false]; omega) (fun e => by cases e) ?_ ?_
    · intro s hs'
      rw [List.drop_zero] at hs'
      exact hc s.f3 (by rw [costAt, hs']; rfl)
    · intro e
      simp only [Bool.false_eq_true, if_false]
      rw [List.drop_zero] at e
      exact hn (by rw [costAt, e]; rfl)
  · intro a b _ _ _ _ hnone
    have hnone := hnone (by rw [dropn]; rfl)
    refine Ev.step (fun k => rfl) ?_
    simp only [spec_CostOfRun.l1, if_neg (show ¬ (l.length : Int) < (l.length : Int) by omega), w64n (show i < 9223372036854775807 by omega)]
    cases b with
    | true => simp only [if_true] at hnone ⊢; exact hnone
    | false =>
      simp only [Bool.false_eq_true, if_false] at hnone ⊢
      subst hnone
      exact Ev.now _
  · intro q hq ih a b a0 a1 hb hsome hnone
    have hwi : wrap64 ((i : Int) + 1) = ((i + 1 : Nat) : Int) := w64n (by omega)
    have hnot : goesAt w run i l[q] = false → Ev (fun k => spec_CostOfRun.l1 k w run a (i : Int) b (w.size : Int) (i : Int) l (l.length : Int) ((q + 1 : Nat) : Int) n l1 l2 l) r := by
      intro e
      have ef : (l.drop q).find? (goesAt w run i) = (l.drop (q + 1)).find? (goesAt w run i) := by rw [dropc hq, List.find?_cons, e]
      rw [ef] at hb hnone
      simp only [ef] at hsome
      exact ih a b a0 a1 hb hsome hnone
    refine Ev.step (fun k => rfl) ?_
    simp only [spec_CostOfRun.l1, if_pos (show (q : Int) < (l.length : Int) by omega), if_pos (nnc q), if_pos (nnc i), if_pos (show (i : Int) < (run.length : Int) by omega), rdI_nat hq, hwi, w64n (show q < 9223372036854775807 by omega)]
    by_cases c0 : l[q].f0 = rd run (i : Int)
    · simp only [if_pos c0, if_pos (show (i : Int) ≤ ((i + 1 : Nat) : Int) by omega), if_pos (show ((i + 1 : Nat) : Int) ≤ (w.size : Int) by omega), Int.toNat_natCast]
      by_cases c1 : l[q].f1.toList = (w.extract i (i + 1)).toList
      · simp only [if_pos c1, if_pos (nnc (i + 1)), if_pos (show ((i + 1 : Nat) : Int) < (run.length : Int) by omega)]
        by_cases c2 : l[q].f2 = rd run ((i + 1 : Nat) : Int)
        · simp only [if_pos c2]
          have hg : goesAt w run i l[q] = true := by simp only [goesAt, c0, c1, c2, decide_true, Bool.and_self]
          have hx := goes_once h4 hs hq hg
          have hbd := (sOk_iff.1 (stepsOk_mem hs (List.getElem_mem hq))).1
          have ef : (l.drop q).find? (goesAt w run i) = some l[q] := by rw [dropc hq, List.find?_cons, hg]
          have ha2 : a ≤ 3003 := by split at a1 <;> omega
          simp only [w64 (show -9223372036854775808 ≤ a + l[q].f3 by omega) (show a + l[q].f3 ≤ 9223372036854775807 by omega)]
          have hgo := hsome _ ef
          have hb' : b = false := by
            cases b with
            | false => rfl
            | true => have := hb rfl; rw [ef] at this; cases this
          subst hb'
          simp only [Bool.false_eq_true, if_false] at a1
          exact ih _ true (by omega) (by simp only [if_true]; omega) (fun _ => hx) (fun s e => by rw [hx] at e; cases e) (fun _ => by simpa using hgo)
        · simp only [if_neg c2]
          exact hnot (by simp only [goesAt, c2, decide_false, Bool.and_false])
      · simp only [if_neg c1]
        exact hnot (by simp only [goesAt, c1, decide_false, Bool.false_and, Bool.and_false])
    · simp only [if_neg c0]
      exact hnot (by simp only [goesAt, c0, decide_false, Bool.false_and])
theorem runFrom_next (f : Nat → Option Int) (d i : Nat) (acc : Int) : runFrom f (d + 1) i acc = match f i with | none => -1 | some c => runFrom f d (i + 1) (acc + c) := rfl
theorem spec_CostOfRun_l0 {n : Int} (h4 : n ≤ 4) {l1 l2 : List Int} {l : List S51} (hl : l.length ≤ 24) (hs : stepsOk n l = true) {w : ByteArray} {run : List Int} (hw : w.size ≤ 1000) (hr : run.length = w.size + 1) :
    Ev (fun k => spec_CostOfRun.l0 k w run 0 (w.size : Int) 0 n l1 l2 l) (runFrom (costAt l w run) w.size 0 0) := by
  have h := down w.size (P := fun i => ∀ acc : Int, 0 ≤ acc → acc ≤ 3 * i → Ev (fun k => spec_CostOfRun.l0 k w run acc (w.size : Int) (i : Int) n l1 l2 l) (runFrom (costAt l w run) (w.size - i) i acc)) ?_ ?_ 0 (by omega) 0 (by omega) (by omega)
  · simpa only [cast0, Nat.sub_zero] using h
  · intro acc _ _
    refine Ev.step (fun k => rfl) ?_
    simp only [spec_CostOfRun.l0, if_neg (show ¬ (w.size : Int) < (w.size : Int) by omega), Nat.sub_self, runFrom]
    exact Ev.now _
  · intro i hi ih acc h0 h1
    refine Ev.step (fun k => rfl) ?_
    simp only [spec_CostOfRun.l0, if_pos (show (i : Int) < (w.size : Int) by omega)]
    rw [show w.size - i = (w.size - (i + 1)) + 1 by omega, runFrom_next]
    refine spec_CostOfRun_l1 h4 hl hs hw hr hi acc h0 h1 (fun e => by rw [e]) ?_
    intro c hc
    rw [hc]
    have hb := cost_bd hs hc
    exact ih (acc + c) (by omega) (by omega)
theorem spec_CostOfRun_ev (n : Int) (l1 l2 : List Int) (l3 : List S51) (w : ByteArray) (run : List Int) (h1 : l1.length < 9223372036854775807) (h2 : l2.length < 9223372036854775807) (h3 : l3.length < 9223372036854775807) (hw : w.size ≤ 140737488351232) (hr : run.length ≤ 1048576) : Ev (fun k => spec_CostOfRun.f k n l1 l2 l3 w run) (runCost n l1 l2 l3 w run) := by
  have hno : runCost n l1 l2 l3 w run = -1 → Ev (fun k => spec_CostOfRun.j0 k w run true n l1 l2 l3) (runCost n l1 l2 l3 w run) := by
    intro e
    rw [e]
    refine Ev.step (fun k => rfl) ?_
    simp only [spec_CostOfRun.j0, if_true]
    exact Ev.now _
  have hask : Ev (fun k => spec_l4Asked.f k n l1 l2 l3 w) (av n l1 l2 l3 && wordv w) := by
    simp only [spec_l4Asked.f]
    refine Ev.bind (spec_AutomatonValid_ev n l1 l2 l3 h1 h2 h3) ?_
    cases hv : av n l1 l2 l3 with
    | false => simp only [Bool.false_eq_true, if_false]; exact Ev.now _
    | true =>
      simp only [if_true]
      exact ev_to (Ev.bind (spec_WordValid_ev w hw) (Ev.now _)) (by simp)
  simp only [spec_CostOfRun.f]
  refine Ev.bind hask ?_
  by_cases ha : (av n l1 l2 l3 && wordv w) = true
  · have hv : av n l1 l2 l3 = true := by rw [Bool.and_eq_true] at ha; exact ha.1
    have hwv : wordv w = true := by rw [Bool.and_eq_true] at ha; exact ha.2
    have hws := wordv_le hwv
    simp only [ha, if_true, w64 (show -9223372036854775808 ≤ (w.size : Int) + 1 by omega) (show (w.size : Int) + 1 ≤ 9223372036854775807 by omega)]
    by_cases hlen : (run.length : Int) = (w.size : Int) + 1
    · simp only [if_pos hlen, if_pos (show (0 : Int) < (run.length : Int) by omega)]
      refine Ev.bind (spec_l4In_ev l1 (rd run 0) h1) ?_
      by_cases m1 : rd run 0 ∈ l1
      · simp only [m1, decide_true, if_true, if_pos (nnc w.size), if_pos (show (w.size : Int) < (run.length : Int) by omega)]
        refine Ev.bind (spec_l4In_ev l2 (rd run (w.size : Int)) h2) ?_
        by_cases m2 : rd run (w.size : Int) ∈ l2
        · simp only [m2, decide_true, Bool.not_true]
          refine Ev.step (fun k => rfl) ?_
          simp only [spec_CostOfRun.j0, Bool.false_eq_true, if_false]
          obtain ⟨m, rfl, m1', m4, -, -, hl, hs⟩ := av_nat hv
          refine ev_to (spec_CostOfRun_l0 (by omega) hl hs hws (by omega)) ?_
          simp only [runCost, hv, hwv, m1, m2, show run.length = w.size + 1 by omega, decide_true, Bool.and_self, if_true]
        · simp only [m2, decide_false, Bool.not_false]
          exact hno (by simp only [runCost, m2, decide_false, Bool.and_false, Bool.false_eq_true, if_false])
      · simp only [m1, decide_false, Bool.false_eq_true, if_false]
        exact hno (by simp only [runCost, m1, decide_false, Bool.false_and, Bool.and_false, Bool.false_eq_true, if_false])
    · simp only [if_neg hlen]
      exact hno (by simp only [runCost, show ¬ run.length = w.size + 1 by omega, decide_false, Bool.false_and, Bool.and_false, Bool.false_eq_true, if_false])
  · simp only [if_neg ha]
    refine hno ?_
    have : (av n l1 l2 l3 && (wordv w && (decide (run.length = w.size + 1) && (decide (rd run 0 ∈ l1) && decide (rd run (w.size : Int) ∈ l2))))) = false := by
      rw [← Bool.and_assoc, Bool.eq_false_iff.2 ha, Bool.false_and]
    rw [runCost, this]
    simp
theorem slices_Index_ev (l : List Int) (x : Int) (hl : l.length < 9223372036854775807) : ∃ r, Ev (fun k => slices_Index_int_int.f k l x) r ∧ decide (r ≥ 0) = decide (x ∈ l) := by
  have h := down l.length (P := fun i => ∃ r, Ev (fun k => slices_Index_int_int.l0 k l x (l.length : Int) (i : Int)) r ∧ decide (r ≥ 0) = decide (x ∈ l.drop i)) ?_ ?_ 0 (by omega)
  · simpa only [slices_Index_int_int.f, cast0, List.drop_zero] using h
  · refine ⟨-1, Ev.step (fun k => rfl) ?_, by rw [dropn]; simp⟩
    simp only [slices_Index_int_int.l0, if_neg (show ¬ (l.length : Int) < (l.length : Int) by omega)]
    exact Ev.now _
  · intro i hi ih
    obtain ⟨r, hr, hd⟩ := ih
    have hm : x ∈ l.drop i ↔ x = l[i] ∨ x ∈ l.drop (i + 1) := by rw [dropc hi, List.mem_cons]
    by_cases e : x = l[i]
    · refine ⟨(i : Int), Ev.step (fun k => rfl) ?_, by rw [decide_eq_decide, hm]; exact ⟨fun _ => Or.inl e, fun _ => nnc i⟩⟩
      simp only [slices_Index_int_int.l0, if_pos (show (i : Int) < (l.length : Int) by omega), if_pos (nnc i), rd_nat hi, if_pos e]
      exact Ev.now _
    · refine ⟨r, Ev.step (fun k => rfl) ?_, by rw [hd, decide_eq_decide, hm]; exact (or_iff_right e).symm⟩
      simp only [slices_Index_int_int.l0, if_pos (show (i : Int) < (l.length : Int) by omega), if_pos (nnc i), rd_nat hi, if_neg e, w64n (show i < 9223372036854775807 by omega)]
      exact hr
theorem slices_Contains_ev (l : List Int) (x : Int) (hl : l.length < 9223372036854775807) : Ev (fun k => slices_Contains_int_int.f k l x) (decide (x ∈ l)) := by
  obtain ⟨r, hr, hd⟩ := slices_Index_ev l x hl
  simp only [slices_Contains_int_int.f]
  exact ev_to (Ev.bind hr (Ev.now _)) hd
theorem impl_WordValid_ev (s : ByteArray) (hs : s.size ≤ 140737488351232) : Ev (fun k => impl_WordValid.f k s) (wordv s) := by
  have h := down s.size (P := fun i => Ev (fun k => impl_WordValid.l0 k s (s.size : Int) (i : Int)) (wordfrom s i)) ?_ ?_ 0 (by omega)
  · simpa only [impl_WordValid.f, wordfrom, wordv, List.drop_zero, cast0] using h
  · refine Ev.step (fun k => rfl) ?_
    simp only [impl_WordValid.l0, if_neg (show ¬ (s.size : Int) < (s.size : Int) by omega), wordfrom_end]
    exact Ev.now _
  · intro i hi ih
    refine Ev.step (fun k => rfl) ?_
    simp only [impl_WordValid.l0, if_pos (show (i : Int) < (s.size : Int) by omega), if_pos (show (0 : Int) ≤ (i : Int) by omega), bt_nat hi, w64n (show i < 9223372036854775807 by omega), wordfrom_step hi, byte97, byte98]
    by_cases h1 : s[i] = 97
    · simpa [h1] using ih
    · by_cases h2 : s[i] = 98
      · simpa [h2] using ih
      · simp only [if_neg h1, if_neg h2]
        exact ev_to (Ev.now false) (by rw [beq_eq_false_iff_ne.2 h1, beq_eq_false_iff_ne.2 h2]; rfl)
theorem impl_statesOk_ev (n : Int) (l : List Int) (hl : l.length < 9223372036854775807) : Ev (fun k => impl_statesOk.f k l n) (asc n l) := by
  have h := down l.length (P := fun i => Ev (fun k => impl_statesOk.l0 k l n l (l.length : Int) (i : Int)) (allFrom (ascAt n l) l.length i)) ?_ ?_ 0 (by omega)
  · simpa only [impl_statesOk.f, asc, cast0] using h
  · refine Ev.step (fun k => rfl) ?_
    simp only [impl_statesOk.l0, if_neg (show ¬ (l.length : Int) < (l.length : Int) by omega), allFrom_end]
    exact Ev.now _
  · intro i hi ih
    refine Ev.step (fun k => rfl) ?_
    simp only [impl_statesOk.l0, if_pos (show (i : Int) < (l.length : Int) by omega), if_pos (nnc i), w64n (show i < 9223372036854775807 by omega)]
    rw [allFrom_step hi]
    by_cases ha : rd l i < 0
    · simp only [if_pos ha]
      exact ev_to (Ev.now _) (by simp [ascAt, show ¬ 0 ≤ rd l i by omega])
    · simp only [if_neg ha]
      by_cases hb : rd l i ≥ n
      · simp only [if_pos hb]
        exact ev_to (Ev.now _) (by simp [ascAt, show ¬ rd l i < n by omega])
      · simp only [if_neg hb]
        by_cases h0 : i = 0
        · subst h0
          simp only [cast0, if_neg (show ¬ (0 : Int) > 0 by omega)]
          exact ev_to ih (by simp [ascAt, show (0 : Int) ≤ rd l 0 by simp at ha; omega, show rd l 0 < n by simp at hb; omega])
        · simp only [if_pos (show (i : Int) > 0 by omega), pred_w (show 0 < i by omega) (show i < 9223372036854775807 by omega), if_pos (nnc (i - 1)), if_pos (show ((i - 1 : Nat) : Int) < (l.length : Int) by omega)]
          by_cases hc : rd l ((i - 1 : Nat) : Int) ≥ rd l i
          · simp only [if_pos hc]
            exact ev_to (Ev.now _) (by simp [ascAt, h0, show ¬ rd l ((i - 1 : Nat) : Int) < rd l i by omega])
          · simp only [if_neg hc]
            exact ev_to ih (by simp [ascAt, show 0 ≤ rd l i by omega, show rd l i < n by omega, show rd l ((i - 1 : Nat) : Int) < rd l i by omega])
theorem cmp_bytes : ∀ a b : List UInt8, Lib.compareBytes a b = if a = b then 0 else if Op.bytesLess a b then -1 else 1
  | [], [] => by simp [Lib.compareBytes]
  | [], _ :: _ => by simp [Lib.compareBytes, Op.bytesLess]
  | _ :: _, [] => by simp [Lib.compareBytes, Op.bytesLess]
  | x :: a, y :: b => by
    have ih := cmp_bytes a b
    simp only [Lib.compareBytes, Op.bytesLess]
    by_cases h1 : x < y
    · have hne : x ≠ y := fun e => by subst e; exact absurd h1 (UInt8.lt_irrefl x)
      simp [h1, hne]
    · by_cases h2 : y < x
      · have hne : x ≠ y := fun e => by subst e; exact absurd h2 (UInt8.lt_irrefl x)
        simp [h1, h2, hne]
      · have e : x = y := UInt8.le_antisymm (UInt8.not_lt.1 h2) (UInt8.not_lt.1 h1)
        subst e
        simp [h1, ih]
def cmpI (a b : Int) : Int := if a < b then -1 else if b < a then 1 else 0
theorem cmp_Compare_eq (a b : Int) : cmp_Compare_int.f a b = some (cmpI a b) := by
  simp only [cmp_Compare_int.f, cmp_isNaN_int.f, Option.bind_some, bne_self_eq_false, Bool.false_eq_true, if_false, cmpI]
  split
  · rfl
  · split <;> rfl
def ordS (s t : S51) : Int := if cmpI s.f0 t.f0 ≠ 0 then cmpI s.f0 t.f0 else if Lib.compareBytes s.f1.data.toList t.f1.data.toList ≠ 0 then Lib.compareBytes s.f1.data.toList t.f1.data.toList else cmpI s.f2 t.f2
theorem cmp_Or_ev (a b c : Int) : Ev (fun k => cmp_Or_int.f k [a, b, c]) (if a ≠ 0 then a else if b ≠ 0 then b else c) := by
  simp only [cmp_Or_int.f]
  refine Ev.step (fun k => rfl) ?_
  simp only [cmp_Or_int.l0, List.length_cons, List.length_nil, show ((0 + 1 + 1 + 1 : Nat) : Int) = 3 from rfl, if_pos (show (0 : Int) < 3 by omega), if_pos (show (0 : Int) ≤ 0 by omega), show rd [a, b, c] 0 = a from rfl, show wrap64 (0 + 1) = 1 by rw [w64 (by omega) (by omega)]; rfl]
  by_cases ha : a = 0
  · simp only [if_pos ha, ne_eq, ha, not_true_eq_false, if_false]
    refine Ev.step (fun k => rfl) ?_
    simp only [cmp_Or_int.l0, List.length_cons, List.length_nil, show ((0 + 1 + 1 + 1 : Nat) : Int) = 3 from rfl, if_pos (show (1 : Int) < 3 by omega), if_pos (show (0 : Int) ≤ 1 by omega), show rd [0, b, c] 1 = b from rfl, show wrap64 (1 + 1) = 2 by rw [w64 (by omega) (by omega)]; rfl]
    by_cases hb : b = 0
    · simp only [if_pos hb, ne_eq, hb, not_true_eq_false, if_false]
      refine Ev.step (fun k => rfl) ?_
      simp only [cmp_Or_int.l0, List.length_cons, List.length_nil, show ((0 + 1 + 1 + 1 : Nat) : Int) = 3 from rfl, if_pos (show (2 : Int) < 3 by omega), if_pos (show (0 : Int) ≤ 2 by omega), show rd [0, 0, c] 2 = c from rfl, show wrap64 (2 + 1) = 3 by rw [w64 (by omega) (by omega)]; rfl]
      by_cases hc : c = 0
      · simp only [if_pos hc]
        refine Ev.step (fun k => rfl) ?_
        simp only [cmp_Or_int.l0, List.length_cons, List.length_nil, show ((0 + 1 + 1 + 1 : Nat) : Int) = 3 from rfl, if_neg (show ¬ (3 : Int) < 3 by omega)]
        exact ev_to (Ev.now _) hc.symm
      · simp only [if_neg hc]
        exact Ev.now _
    · simp only [if_neg hb, ne_eq, hb, not_false_eq_true, if_true]
      exact Ev.now _
  · simp only [if_neg ha, ne_eq, ha, not_false_eq_true, if_true]
    exact Ev.now _
theorem impl_stepOrder_ev (s t : S51) : Ev (fun k => impl_stepOrder.f k s.f0 s.f1 s.f2 s.f3 t.f0 t.f1 t.f2 t.f3) (ordS s t) := by
  simp only [impl_stepOrder.f, cmp_Compare_eq, strings_Compare.f, Option.bind_some]
  exact Ev.bind (cmp_Or_ev _ _ _) (Ev.now _)
theorem ordS_lt (s t : S51) : (ordS s t < 0) = (sLt s t = true) := by
  simp only [ordS, sLt, cmp_bytes, cmpI, Lib.toList_data]
  by_cases h0 : s.f0 = t.f0
  · rw [h0]
    simp only [Int.lt_irrefl, if_false, ne_eq, not_true_eq_false, if_true]
    by_cases h1 : s.f1.data.toList = t.f1.data.toList
    · simp only [if_pos h1, not_true_eq_false, if_false, decide_eq_true_eq]
      apply propext
      constructor
      · intro h
        split at h
        · assumption
        · split at h <;> omega
      · intro h
        rw [if_pos h]
        omega
    · simp only [if_neg h1]
      cases hb : Op.bytesLess s.f1.data.toList t.f1.data.toList <;> simp
  · simp only [if_neg h0]
    by_cases h1 : s.f0 < t.f0
    · simp [h1]
    · simp [h1, show t.f0 < s.f0 by omega]
theorem impl_AutomatonValid_steps {n : Int} (l1 l2 : List Int) (l3 : List S51) (h3 : l3.length < 9223372036854775807) : Ev (fun k => impl_AutomatonValid.l0 k l3 (l3.length : Int) 0 n l1 l2 l3) (stepsOk n l3) := by
  have h := down l3.length (P := fun i => Ev (fun k => impl_AutomatonValid.l0 k l3 (l3.length : Int) (i : Int) n l1 l2 l3) (allFrom (sAt n l3) l3.length i)) ?_ ?_ 0 (by omega)
  · simpa only [stepsOk, cast0] using h
  · refine Ev.step (fun k => rfl) ?_
    simp only [impl_AutomatonValid.l0, if_neg (show ¬ (l3.length : Int) < (l3.length : Int) by omega), allFrom_end]
    exact Ev.now _
  · intro i hi ih
    have hno : sOk n (rd_T51 l3 (i : Int)) = false → (sAt n l3 i && allFrom (sAt n l3) l3.length (i + 1)) = false := fun e => by simp [sAt, e]
    have hlast : sOk n (rd_T51 l3 (i : Int)) = true → Ev (fun k => if (i : Int) > 0 then (if 0 ≤ wrap64 ((i : Int) - 1) then (if wrap64 ((i : Int) - 1) < (l3.length : Int) then ((impl_stepOrder.f k (rd_T51 l3 (wrap64 ((i : Int) - 1))).f0 (rd_T51 l3 (wrap64 ((i : Int) - 1))).f1 (rd_T51 l3 (wrap64 ((i : Int) - 1))).f2 (rd_T51 l3 (wrap64 ((i : Int) - 1))).f3 (rd_T51 l3 (i : Int)).f0 (rd_T51 l3 (i : Int)).f1 (rd_T51 l3 (i : Int)).f2 (rd_T51 l3 (i : Int)).f3).bind fun t => if t ≥ 0 then some false else impl_AutomatonValid.l0 k l3 (l3.length : Int) ((i + 1 : Nat) : Int) n l1 l2 l3) else none) else none) else impl_AutomatonValid.l0 k l3 (l3.length : Int) ((i + 1 : Nat) : Int) n l1 l2 l3) (sAt n l3 i && allFrom (sAt n l3) l3.length (i + 1)) := by
      intro hs
      by_cases h0 : i = 0
      · subst h0
        simp only [cast0, if_neg (show ¬ (0 : Int) > 0 by omega)]
        exact ev_to ih (by simp only [cast0] at hs; simp [sAt, hs])
      · simp only [if_pos (show (i : Int) > 0 by omega), pred_w (show 0 < i by omega) (show i < 9223372036854775807 by omega), if_pos (nnc (i - 1)), if_pos (show ((i - 1 : Nat) : Int) < (l3.length : Int) by omega)]
        refine Ev.bind (impl_stepOrder_ev _ _) ?_
        have ho := ordS_lt (rd_T51 l3 ((i - 1 : Nat) : Int)) (rd_T51 l3 (i : Int))
        cases hb : sLt (rd_T51 l3 ((i - 1 : Nat) : Int)) (rd_T51 l3 (i : Int)) with
        | false =>
          rw [hb] at ho
          simp only [if_pos (show ordS (rd_T51 l3 ((i - 1 : Nat) : Int)) (rd_T51 l3 (i : Int)) ≥ 0 by simp at ho; omega)]
          exact ev_to (Ev.now _) (by simp [sAt, h0, hb])
        | true =>
          rw [hb] at ho
          simp only [eq_self_iff_true, eq_iff_iff, iff_true] at ho
          simp only [if_neg (show ¬ ordS (rd_T51 l3 ((i - 1 : Nat) : Int)) (rd_T51 l3 (i : Int)) ≥ 0 by omega)]
          exact ev_to ih (by simp [sAt, hs, hb])
    refine Ev.step (fun k => rfl) ?_
    simp only [impl_AutomatonValid.l0, if_pos (show (i : Int) < (l3.length : Int) by omega), if_pos (nnc i), w64n (show i < 9223372036854775807 by omega)]
    rw [allFrom_step hi]
    by_cases c0 : (rd_T51 l3 (i : Int)).f0 < 0
    · simp only [if_pos c0]
      exact ev_to (Ev.now _) (hno (by simp [sOk]; omega)).symm
    simp only [if_neg c0]
    by_cases c1 : (rd_T51 l3 (i : Int)).f0 ≥ n
    · simp only [if_pos c1]
      exact ev_to (Ev.now _) (hno (by simp [sOk]; omega)).symm
    simp only [if_neg c1]
    by_cases c2 : (rd_T51 l3 (i : Int)).f2 < 0
    · simp only [if_pos c2]
      exact ev_to (Ev.now _) (hno (by simp [sOk]; omega)).symm
    simp only [if_neg c2]
    by_cases c3 : (rd_T51 l3 (i : Int)).f2 ≥ n
    · simp only [if_pos c3]
      exact ev_to (Ev.now _) (hno (by simp [sOk]; omega)).symm
    simp only [if_neg c3]
    have hcost : ∀ hl : (sA (rd_T51 l3 (i : Int)).f1 || sB (rd_T51 l3 (i : Int)).f1) = true, ∀ {g : Nat → Option Bool}, (sOk n (rd_T51 l3 (i : Int)) = true → Ev g (sAt n l3 i && allFrom (sAt n l3) l3.length (i + 1))) → Ev (fun k => if (rd_T51 l3 (i : Int)).f3 < 0 then some false else if (rd_T51 l3 (i : Int)).f3 > 3 then some false else g k) (sAt n l3 i && allFrom (sAt n l3) l3.length (i + 1)) := by
      intro hl g hg
      by_cases c4 : (rd_T51 l3 (i : Int)).f3 < 0
      · simp only [if_pos c4]
        exact ev_to (Ev.now _) (hno (by simp [sOk]; omega)).symm
      simp only [if_neg c4]
      by_cases c5 : (rd_T51 l3 (i : Int)).f3 > 3
      · simp only [if_pos c5]
        exact ev_to (Ev.now _) (hno (by simp [sOk]; omega)).symm
      simp only [if_neg c5]
      refine hg ?_
      simp only [sOk, hl, Bool.and_true, decide_eq_true_eq]
      omega
    by_cases ca : (rd_T51 l3 (i : Int)).f1.toList = [97]
    · simp only [if_pos ca]
      exact hcost (by simp [sA, ca]) hlast
    · simp only [if_neg ca]
      by_cases cb : (rd_T51 l3 (i : Int)).f1.toList = [98]
      · simp only [if_pos cb]
        exact hcost (by simp [sB, cb]) hlast
      · simp only [if_neg cb]
        exact ev_to (Ev.now _) (hno (by simp [sOk, sA, sB, ca, cb])).symm
theorem impl_AutomatonValid_ev (n : Int) (l1 l2 : List Int) (l3 : List S51) (h1 : l1.length < 9223372036854775807) (h2 : l2.length < 9223372036854775807) (h3 : l3.length < 9223372036854775807) : Ev (fun k => impl_AutomatonValid.f k n l1 l2 l3) (av n l1 l2 l3) := by
  have hno : Ev (fun k => impl_AutomatonValid.j0 k true n l1 l2 l3) false := by
    refine Ev.step (fun k => rfl) ?_
    simp only [impl_AutomatonValid.j0, if_true]
    exact Ev.now _
  simp only [impl_AutomatonValid.f]
  by_cases c0 : n < 1
  · simp only [if_pos c0]
    exact ev_to hno (by simp only [av]; rw [show decide (1 ≤ n ∧ n ≤ 4) = false by simp; omega]; rfl)
  simp only [if_neg c0]
  by_cases c1 : n > 4
  · simp only [if_pos c1]
    exact ev_to hno (by simp only [av]; rw [show decide (1 ≤ n ∧ n ≤ 4) = false by simp; omega]; rfl)
  simp only [if_neg c1]
  by_cases c3 : (l3.length : Int) > 24
  · simp only [if_pos c3]
    exact ev_to hno (by simp [av, show ¬ l3.length ≤ 24 by omega])
  simp only [if_neg c3]
  refine Ev.bind (impl_statesOk_ev n l1 h1) ?_
  cases e1 : asc n l1 with
  | false =>
    simp only [Bool.false_eq_true, if_false]
    exact ev_to hno (by simp [av, e1])
  | true =>
    simp only [if_true]
    refine Ev.bind (impl_statesOk_ev n l2 h2) ?_
    cases e2 : asc n l2 with
    | false => exact ev_to hno (by simp [av, e2])
    | true =>
      simp only [Bool.not_true]
      refine Ev.step (fun k => rfl) ?_
      simp only [impl_AutomatonValid.j0, Bool.false_eq_true, if_false]
      exact ev_to (impl_AutomatonValid_steps l1 l2 l3 h3) (by simp [av, e1, e2, show 1 ≤ n by omega, show n ≤ 4 by omega, show l3.length ≤ 24 by omega])
theorem impl_CostOfRun_1_eq {w : ByteArray} {run : List Int} (hw : w.size ≤ 1000) (hr : run.length = w.size + 1) {i : Nat} (hi : i < w.size) (s : S51) : impl_CostOfRun_1.f s.f0 s.f1 s.f2 s.f3 run (i : Int) w = some (goesAt w run i s) := by
  have hwi : wrap64 ((i : Int) + 1) = ((i + 1 : Nat) : Int) := w64n (by omega)
  simp only [impl_CostOfRun_1.f, if_pos (nnc i), if_pos (show (i : Int) < (run.length : Int) by omega), hwi]
  by_cases c0 : s.f0 = rd run (i : Int)
  · simp only [if_pos c0, if_pos (show (i : Int) ≤ ((i + 1 : Nat) : Int) by omega), if_pos (show ((i + 1 : Nat) : Int) ≤ (w.size : Int) by omega), Int.toNat_natCast]
    by_cases c1 : s.f1.toList = (w.extract i (i + 1)).toList
    · simp only [if_pos c1, if_pos (nnc (i + 1)), if_pos (show ((i + 1 : Nat) : Int) < (run.length : Int) by omega), goesAt, c0, c1, decide_true, Bool.true_and]
      rfl
    · simp only [if_neg c1]
      simp only [goesAt, c1, decide_false, Bool.false_and, Bool.and_false]
  · simp only [if_neg c0]
    simp only [goesAt, c0, decide_false, Bool.false_and]
theorem impl_RunIndex_ev {w : ByteArray} {run : List Int} (hw : w.size ≤ 1000) (hr : run.length = w.size + 1) {i : Nat} (hi : i < w.size) (l : List S51) (hl : l.length ≤ 24) : ∃ r, Ev (fun k => slices_IndexFunc_Step_at_impl_CostOfRun_1.f k l run (i : Int) w) r ∧ ((r = -1 ∧ costAt l w run i = none) ∨ ∃ (q : Nat) (hq : q < l.length), r = (q : Int) ∧ costAt l w run i = some l[q].f3) := by
  have h := down l.length (P := fun p => ∃ r, Ev (fun k => slices_IndexFunc_Step_at_impl_CostOfRun_1.l0 k l (l.length : Int) (p : Int) run (i : Int) w) r ∧ ((r = -1 ∧ (l.drop p).find? (goesAt w run i) = none) ∨ ∃ (q : Nat) (hq : q < l.length), r = (q : Int) ∧ (l.drop p).find? (goesAt w run i) = some l[q])) ?_ ?_ 0 (by omega)
  · obtain ⟨r, hr', hx⟩ := h
    refine ⟨r, by simpa only [slices_IndexFunc_Step_at_impl_CostOfRun_1.f, cast0] using hr', ?_⟩
    simp only [List.drop_zero] at hx
    rcases hx with ⟨e1, e2⟩ | ⟨q, hq, e1, e2⟩
    · exact Or.inl ⟨e1, by rw [costAt, e2]; rfl⟩
    · exact Or.inr ⟨q, hq, e1, by rw [costAt, e2]; rfl⟩
  · refine ⟨-1, Ev.step (fun k => rfl) ?_, Or.inl ⟨rfl, by rw [dropn]; rfl⟩⟩
    simp only [slices_IndexFunc_Step_at_impl_CostOfRun_1.l0, if_neg (show ¬ (l.length : Int) < (l.length : Int) by omega)]
    exact Ev.now _
  · intro p hp ih
    obtain ⟨r, hr', hx⟩ := ih
    cases hg : goesAt w run i l[p] with
    | true =>
      refine ⟨(p : Int), Ev.step (fun k => rfl) ?_, Or.inr ⟨p, hp, rfl, by rw [dropc hp, List.find?_cons, hg]⟩⟩
      simp only [slices_IndexFunc_Step_at_impl_CostOfRun_1.l0, if_pos (show (p : Int) < (l.length : Int) by omega), if_pos (nnc p), rdI_nat hp, impl_CostOfRun_1_eq hw hr hi, Option.bind_some, hg, if_true]
      exact Ev.now _
    | false =>
      refine ⟨r, Ev.step (fun k => rfl) ?_, by rw [dropc hp, List.find?_cons, hg]; exact hx⟩
      simp only [slices_IndexFunc_Step_at_impl_CostOfRun_1.l0, if_pos (show (p : Int) < (l.length : Int) by omega), if_pos (nnc p), rdI_nat hp, impl_CostOfRun_1_eq hw hr hi, Option.bind_some, hg, Bool.false_eq_true, if_false, w64n (show p < 9223372036854775807 by omega)]
      exact hr'
theorem impl_CostOfRun_l0 {n : Int} {l1 l2 : List Int} {l : List S51} (hl : l.length ≤ 24) (hs : stepsOk n l = true) {w : ByteArray} {run : List Int} (hw : w.size ≤ 1000) (hr : run.length = w.size + 1) :
    Ev (fun k => impl_CostOfRun.l0 k 0 (w.size : Int) 0 n l1 l2 l w run) (runFrom (costAt l w run) w.size 0 0) := by
  have h := down w.size (P := fun i => ∀ acc : Int, 0 ≤ acc → acc ≤ 3 * i → Ev (fun k => impl_CostOfRun.l0 k acc (w.size : Int) (i : Int) n l1 l2 l w run) (runFrom (costAt l w run) (w.size - i) i acc)) ?_ ?_ 0 (by omega) 0 (by omega) (by omega)
  · simpa only [cast0, Nat.sub_zero] using h
  · intro acc _ _
    refine Ev.step (fun k => rfl) ?_
    simp only [impl_CostOfRun.l0, if_neg (show ¬ (w.size : Int) < (w.size : Int) by omega), Nat.sub_self, runFrom]
    exact Ev.now _
  · intro i hi ih acc h0 h1
    refine Ev.step (fun k => rfl) ?_
    simp only [impl_CostOfRun.l0, if_pos (show (i : Int) < (w.size : Int) by omega)]
    rw [show w.size - i = (w.size - (i + 1)) + 1 by omega, runFrom_next]
    obtain ⟨r, hr', hx⟩ := impl_RunIndex_ev hw hr hi l hl
    refine Ev.bind hr' ?_
    rcases hx with ⟨e1, e2⟩ | ⟨q, hq, e1, e2⟩
    · rw [e2]
      subst e1
      simp only [if_pos (show (-1 : Int) < 0 by omega)]
      exact Ev.now _
    · rw [e2]
      subst e1
      have hb := cost_bd hs e2
      simp only [if_neg (show ¬ (q : Int) < 0 by omega), if_pos (nnc q), if_pos (show (q : Int) < (l.length : Int) by omega), rdI_nat hq, w64 (show -9223372036854775808 ≤ acc + l[q].f3 by omega) (show acc + l[q].f3 ≤ 9223372036854775807 by omega), w64n (show i < 9223372036854775807 by omega)]
      exact ih (acc + l[q].f3) (by omega) (by omega)
theorem impl_CostOfRun_ev (n : Int) (l1 l2 : List Int) (l3 : List S51) (w : ByteArray) (run : List Int) (h1 : l1.length < 9223372036854775807) (h2 : l2.length < 9223372036854775807) (h3 : l3.length < 9223372036854775807) (hw : w.size ≤ 140737488351232) (hr : run.length ≤ 1048576) : Ev (fun k => impl_CostOfRun.f k n l1 l2 l3 w run) (runCost n l1 l2 l3 w run) := by
  have hno : runCost n l1 l2 l3 w run = -1 → Ev (fun k => impl_CostOfRun.j0 k true n l1 l2 l3 w run) (runCost n l1 l2 l3 w run) := by
    intro e
    rw [e]
    refine Ev.step (fun k => rfl) ?_
    simp only [impl_CostOfRun.j0, if_true]
    exact Ev.now _
  simp only [impl_CostOfRun.f]
  refine Ev.bind (impl_AutomatonValid_ev n l1 l2 l3 h1 h2 h3) ?_
  cases hv : av n l1 l2 l3 with
  | false =>
    simp only [Bool.false_eq_true, if_false]
    exact hno (by simp only [runCost, hv, Bool.false_and, Bool.false_eq_true, if_false])
  | true =>
    simp only [if_true]
    refine Ev.bind (impl_WordValid_ev w hw) ?_
    cases hwv : wordv w with
    | false =>
      simp only [Bool.false_eq_true, if_false]
      exact hno (by simp only [runCost, hwv, Bool.false_and, Bool.and_false, Bool.false_eq_true, if_false])
    | true =>
      have hws := wordv_le hwv
      simp only [if_true, w64 (show -9223372036854775808 ≤ (w.size : Int) + 1 by omega) (show (w.size : Int) + 1 ≤ 9223372036854775807 by omega)]
      by_cases hlen : (run.length : Int) = (w.size : Int) + 1
      · simp only [if_pos hlen, if_pos (show (0 : Int) < (run.length : Int) by omega)]
        refine Ev.bind (slices_Contains_ev l1 (rd run 0) h1) ?_
        by_cases m1 : rd run 0 ∈ l1
        · simp only [m1, decide_true, if_true, if_pos (nnc w.size), if_pos (show (w.size : Int) < (run.length : Int) by omega)]
          refine Ev.bind (slices_Contains_ev l2 (rd run (w.size : Int)) h2) ?_
          by_cases m2 : rd run (w.size : Int) ∈ l2
          · simp only [m2, decide_true, Bool.not_true]
            refine Ev.step (fun k => rfl) ?_
            simp only [impl_CostOfRun.j0, Bool.false_eq_true, if_false]
            obtain ⟨m, rfl, m1', m4, -, -, hl, hs⟩ := av_nat hv
            refine ev_to (impl_CostOfRun_l0 hl hs hws (by omega)) ?_
            simp only [runCost, hv, hwv, m1, m2, show run.length = w.size + 1 by omega, decide_true, Bool.and_self, if_true]
          · simp only [m2, decide_false, Bool.not_false]
            exact hno (by simp only [runCost, m2, decide_false, Bool.and_false, Bool.false_eq_true, if_false])
        · simp only [m1, decide_false, Bool.false_eq_true, if_false]
          exact hno (by simp only [runCost, m1, decide_false, Bool.false_and, Bool.and_false, Bool.false_eq_true, if_false])
      · simp only [if_neg hlen]
        exact hno (by simp only [runCost, show ¬ run.length = w.size + 1 by omega, decide_false, Bool.false_and, Bool.and_false, Bool.false_eq_true, if_false])
theorem FnExactCostOfRun : laws_FnExactCostOfRun.Pure := by
  intro n l1 l2 l3 w run _ h1 _ h2 _ h3 hx hw h4 _ _
  unfold maxLen at h1 h2 h3 hx
  refine Ev.rounds ?_
  simp only [laws_FnExactCostOfRun.f]
  by_cases cw : (w.size : Int) > 1048576
  · simp only [if_pos cw]
    exact Ev.now _
  simp only [if_neg cw]
  by_cases cr : (run.length : Int) > 1048576
  · simp only [if_pos cr]
    exact Ev.now _
  simp only [if_neg cr]
  obtain ⟨r, hr, hm, hl⟩ := laws_szAutomaton_ev n l1 l2 l3 (by omega) (by omega) (by omega) (fun x hh => by have := (hx x hh).2.1; omega)
  refine Ev.bind hr ?_
  by_cases c : r < 0
  · simp only [if_pos c]
    exact Ev.now _
  simp only [if_neg c]
  have hl := hl (by omega)
  have hlm : (l3.map ofL).length = l3.length := List.length_map ..
  have ht := laws_toAutomaton_ev n l1 l2 l3 (by omega) (by omega) (by omega)
  have hi := laws_toIntS_ev run (by omega)
  refine Ev.bind ht (Ev.bind hi (Ev.bind (spec_CostOfRun_ev n l1 l2 (l3.map ofL) w run (by omega) (by omega) (by omega) hw (by omega)) (Ev.bind ht (Ev.bind hi (Ev.bind (impl_CostOfRun_ev n l1 l2 (l3.map ofL) w run (by omega) (by omega) (by omega) hw (by omega)) ?_)))))
  simp only [if_true]
  refine Ev.bind ht (Ev.bind (laws_eqAutomaton_self n l1 l2 (l3.map ofL) (by omega) (by omega) (by omega)) ?_)
  simp only [if_true]
  refine Ev.bind hi (Ev.bind (laws_eqIntS_ev run run (by omega)) ?_)
  simp only [decide_true, if_true]
  exact Ev.now _

end Go.Proofs.Ytejnpldoakgadaa.Pure
