/- The pure statement of FnExactLettersOf: the printed functions answer true at every input that can be read. -/
import Derived.Test.YtejnpldoakgadaaPG1x7
set_option linter.unusedVariables false
set_option linter.unusedSimpArgs false
namespace Go.Proofs.Ytejnpldoakgadaa.Pure
open Go.RowKit Go.Proofs.Ytejnpldoakgadaa.PG1 Go.Proofs.YtejnpldoakgadaaW.PrintWords Go.Proofs.YtejnpldoakgadaaW.PrintLast Go.Proofs.YtejnpldoakgadaaW.PrintMore

theorem w64 {x : Int} (h0 : -9223372036854775808 ≤ x) (h1 : x ≤ 9223372036854775807) : wrap64 x = x := by unfold wrap64; omega
theorem cast0 : ((0 : Nat) : Int) = 0 := rfl
theorem w64n {i : Nat} (h : i < 9223372036854775807) : wrap64 ((i : Int) + 1) = ((i + 1 : Nat) : Int) := by rw [w64 (by omega) (by omega)]; omega
theorem rd_nat {l : List Int} {i : Nat} (h : i < l.length) : rd l (i : Int) = l[i] := by simp [rd, List.getD_eq_getElem?_getD, h]
theorem mn_eq (a b : Int) : mn a b = min a b := by unfold mn; split <;> omega
theorem mx_eq (a b : Int) : mx a b = max a b := by unfold mx; split <;> omega
theorem down (n : Nat) {P : Nat → Prop} (h0 : P n) (hs : ∀ i, i < n → P (i + 1) → P i) : ∀ i, i ≤ n → P i := by
  have h : ∀ d i, i + d = n → P i := by
    intro d
    induction d with
    | zero => intro i hi; obtain rfl : i = n := by omega
              exact h0
    | succ d ih => intro i hi; exact hs i (by omega) (ih (i + 1) (by omega))
  exact fun i hi => h (n - i) i (by omega)
theorem ev_to {α : Type} {g : Nat → Option α} {r r' : α} (h : Ev g r) (e : r = r') : Ev g r' := e ▸ h
theorem dropc {α : Type} {l : List α} {i : Nat} (h : i < l.length) : l.drop i = l[i] :: l.drop (i + 1) := List.drop_eq_getElem_cons h
theorem dropn {α : Type} (l : List α) : l.drop l.length = [] := List.drop_eq_nil_of_le (Nat.le_refl _)
theorem wf64 {x : Int} (h : (Lit.int .i64 x).wf = true) : -9223372036854775808 ≤ x ∧ x ≤ 9223372036854775807 := by
  simp [Lit.wf, IntKind.min, IntKind.max, IntKind.signed, IntKind.bits] at h
  omega
theorem wf8 {x : Int} (h : (Lit.int .u8 x).wf = true) : 0 ≤ x ∧ x ≤ 255 := by
  simp [Lit.wf, IntKind.min, IntKind.max, IntKind.signed, IntKind.bits] at h
  omega
theorem nnc (q : Nat) : (0 : Int) ≤ (q : Int) := Int.natCast_nonneg q
theorem ltc {a b : Nat} (h : a < b) : (a : Int) < (b : Int) := Int.ofNat_lt.2 h
theorem laws_toIntS_ev (l : List Int) (hl : l.length ≤ 35184372088832) : Ev (fun k => laws_toIntS.f k l) l := by
  have h := down l.length (P := fun i => ∀ out : List Int, out.length = l.length → out.take i = l.take i → Ev (fun k => laws_toIntS.l0 k l out (i : Int)) l) ?_ ?_ 0 (by omega) (List.replicate l.length 0) (by simp) (by simp)
  · simpa only [laws_toIntS.f, if_pos (show (0 : Int) ≤ (l.length : Int) by omega), Int.toNat_natCast, if_pos hl, cast0] using h
  · intro out ho ht
    refine Ev.step (fun k => rfl) ?_
    simp only [laws_toIntS.l0, if_neg (show ¬ (l.length : Int) < (l.length : Int) by omega)]
    refine ev_to (Ev.now _) ?_
    rw [List.take_length, ← ho, List.take_length] at ht
    exact ht
  · intro i hi ih out ho ht
    refine Ev.step (fun k => rfl) ?_
    simp only [laws_toIntS.l0, if_pos (show (i : Int) < (l.length : Int) by omega), if_pos (show (0 : Int) ≤ (i : Int) by omega), if_pos (show (i : Int) < (out.length : Int) by omega), rd_nat hi, w64n (show i < 9223372036854775807 by omega), Int.toNat_natCast]
    refine ih _ (by simpa using ho) ?_
    rw [List.take_succ_eq_append_getElem hi, List.take_succ_eq_append_getElem (by simpa [ho] using hi)]
    rw [List.getElem_set_self, List.take_set, ht, List.set_eq_of_length_le (by simp; omega)]
theorem laws_eqIntS_ev (a b : List Int) (hl : a.length < 9223372036854775807) : Ev (fun k => laws_eqIntS.f k a b) (decide (a = b)) := by
  by_cases hab : a.length = b.length
  · have h := down a.length (P := fun i => Ev (fun k => laws_eqIntS.l0 k a b (i : Int)) (decide (a.drop i = b.drop i))) ?_ ?_ 0 (by omega)
    · simpa only [laws_eqIntS.f, if_pos (show (a.length : Int) = (b.length : Int) by omega), List.drop_zero, cast0] using h
    · refine Ev.step (fun k => rfl) ?_
      simp only [laws_eqIntS.l0, if_neg (show ¬ (a.length : Int) < (a.length : Int) by omega)]
      exact ev_to (Ev.now _) (by rw [dropn, hab, dropn]; rfl)
    · intro i hi ih
      have hi' : i < b.length := by omega
      refine Ev.step (fun k => rfl) ?_
      simp only [laws_eqIntS.l0, if_pos (show (i : Int) < (a.length : Int) by omega), if_pos (show (0 : Int) ≤ (i : Int) by omega), if_pos (show (i : Int) < (b.length : Int) by omega), rd_nat hi, rd_nat hi', w64n (show i < 9223372036854775807 by omega), dropc hi, dropc hi']
      by_cases e : a[i] = b[i]
      · simp only [if_pos e]
        exact ev_to ih (by simp only [List.cons.injEq, e, true_and])
      · simp only [if_neg e]
        exact ev_to (Ev.now false) (by simp only [List.cons.injEq, e, false_and, decide_false])
  · simp only [laws_eqIntS.f, if_neg (show ¬ (a.length : Int) = (b.length : Int) by omega)]
    exact ev_to (Ev.now _) (by rw [eq_comm, decide_eq_false_iff_not]; exact fun e => hab (by rw [e]))
theorem rdI_nat {l : List S51} {i : Nat} (h : i < l.length) : rd_T51 l (i : Int) = l[i] := by simp [rd_T51, List.getD_eq_getElem?_getD, h]
theorem rdL_nat {l : List S90} {i : Nat} (h : i < l.length) : rd_T90 l (i : Int) = l[i] := by simp [rd_T90, List.getD_eq_getElem?_getD, h]
/-- A step of the laws as one of the program. -/
def ofL (x : S90) : S51 := ⟨x.f0, x.f1, x.f2, x.f3⟩
theorem laws_szIntS_eq (l : List Int) (hl : l.length ≤ 9223372036854775807) (m : Int) (h0 : 0 ≤ m) (h1 : m ≤ 1048576) : laws_szIntS.f l m = some (if m - l.length < 0 then -1 else m - l.length) := by
  have e : wrap64 (m - (l.length : Int)) = m - l.length := w64 (by omega) (by omega)
  simp only [laws_szIntS.f, e]
  split <;> rfl
theorem laws_szStep_eq (a : Int) (b : ByteArray) (c d : Int) (hb : b.size ≤ 9223372036854775807) (m : Int) (h0 : 0 ≤ m) (h1 : m ≤ 1048576) : laws_szStep.f a b c d m = some (if m - b.size < 0 then -1 else m - b.size) := by
  have e : wrap64 (m - (b.size : Int)) = m - b.size := w64 (by omega) (by omega)
  simp only [laws_szStep.f, e]
  split <;> rfl
theorem laws_szStepS_ev (l : List S90) (hl : l.length ≤ 9223372036854775807) (hs : ∀ x ∈ l, x.f1.size ≤ 9223372036854775807) (m : Int) (h0 : 0 ≤ m) (h1 : m ≤ 1048576) : ∃ r, Ev (fun k => laws_szStepS.f k l m) r ∧ r ≤ m ∧ (0 ≤ r → (l.length : Int) ≤ m) := by
  have h := down l.length (P := fun i => ∀ q : Int, 0 ≤ q → q ≤ 1048576 → ∃ r, Ev (fun k => laws_szStepS.l0 k l q (i : Int)) r ∧ r ≤ q) ?_ ?_ 0 (by omega)
  · have e : wrap64 (m - (l.length : Int)) = m - l.length := w64 (by omega) (by omega)
    simp only [laws_szStepS.f, e]
    by_cases hh : m - (l.length : Int) < 0
    · simp only [if_pos hh]
      exact ⟨-1, Ev.now _, by omega, by omega⟩
    · simp only [if_neg hh]
      obtain ⟨r, hr, hq⟩ := h (m - l.length) (by omega) (by omega)
      exact ⟨r, hr, by omega, by omega⟩
  · intro q _ _
    refine ⟨q, Ev.step (fun k => rfl) ?_, by omega⟩
    simp only [laws_szStepS.l0, if_neg (show ¬ (l.length : Int) < (l.length : Int) by omega)]
    exact Ev.now _
  · intro i hi ih q q0 q1
    have hsz := hs _ (List.getElem_mem hi)
    by_cases hh : q - (l[i].f1.size : Int) < 0
    · refine ⟨-1, Ev.step (fun k => rfl) ?_, by omega⟩
      simp only [laws_szStepS.l0, if_pos (show (i : Int) < (l.length : Int) by omega), if_pos (nnc i), rdL_nat hi, laws_szStep_eq _ _ _ _ hsz q q0 q1, Option.bind_some, if_pos hh, if_pos (show (-1 : Int) < 0 by omega)]
      exact Ev.now _
    · obtain ⟨r, hr, hrq⟩ := ih (q - l[i].f1.size) (by omega) (by omega)
      refine ⟨r, Ev.step (fun k => rfl) ?_, by omega⟩
      simp only [laws_szStepS.l0, if_pos (show (i : Int) < (l.length : Int) by omega), if_pos (nnc i), rdL_nat hi, laws_szStep_eq _ _ _ _ hsz q q0 q1, Option.bind_some, if_neg hh, w64n (show i < 9223372036854775807 by omega)]
      exact hr
theorem laws_szAutomaton_ev (n : Int) (l1 l2 : List Int) (l3 : List S90) (h1 : l1.length ≤ 9223372036854775807) (h2 : l2.length ≤ 9223372036854775807) (h3 : l3.length ≤ 9223372036854775807) (hs : ∀ x ∈ l3, x.f1.size ≤ 9223372036854775807) :
    ∃ r, Ev (fun k => laws_szAutomaton.f k n l1 l2 l3 1048576) r ∧ r ≤ 1048576 ∧ (0 ≤ r → l1.length ≤ 1048576 ∧ l2.length ≤ 1048576 ∧ l3.length ≤ 1048576) := by
  simp only [laws_szAutomaton.f, laws_szIntS_eq l1 h1 1048576 (by omega) (by omega), Option.bind_some]
  by_cases c1 : 1048576 - (l1.length : Int) < 0
  · simp only [if_pos c1, if_pos (show (-1 : Int) < 0 by omega)]
    exact ⟨-1, Ev.now _, by omega, by omega⟩
  · simp only [if_neg c1, laws_szIntS_eq l2 h2 (1048576 - (l1.length : Int)) (by omega) (by omega), Option.bind_some]
    by_cases c2 : 1048576 - (l1.length : Int) - (l2.length : Int) < 0
    · simp only [if_pos c2, if_pos (show (-1 : Int) < 0 by omega)]
      exact ⟨-1, Ev.now _, by omega, by omega⟩
    · simp only [if_neg c2]
      obtain ⟨r, hr, hq, hl⟩ := laws_szStepS_ev l3 h3 hs (1048576 - (l1.length : Int) - (l2.length : Int)) (by omega) (by omega)
      by_cases c3 : r < 0
      · refine ⟨-1, Ev.bind hr ?_, by omega, by omega⟩
        simp only [if_pos c3]
        exact Ev.now _
      · refine ⟨r, Ev.bind hr ?_, by omega, fun _ => by omega⟩
        simp only [if_neg c3]
        exact Ev.now _
theorem laws_toStepS_ev (l : List S90) (hl : l.length ≤ 7036874417766) : Ev (fun k => laws_toStepS.f k l) (l.map ofL) := by
  have h := down l.length (P := fun i => ∀ out : List S51, out.length = l.length → out.take i = (l.map ofL).take i → Ev (fun k => laws_toStepS.l0 k l out (i : Int)) (l.map ofL)) ?_ ?_ 0 (by omega) (List.replicate l.length z51) (by simp) (by simp)
  · simpa only [laws_toStepS.f, if_pos (show (0 : Int) ≤ (l.length : Int) by omega), Int.toNat_natCast, if_pos hl, cast0] using h
  · intro out ho ht
    refine Ev.step (fun k => rfl) ?_
    simp only [laws_toStepS.l0, if_neg (show ¬ (l.length : Int) < (l.length : Int) by omega)]
    refine ev_to (Ev.now _) ?_
    rw [show l.length = (l.map ofL).length by simp, List.take_length] at ht
    rw [← ht, List.length_map, ← ho, List.take_length]
  · intro i hi ih out ho ht
    refine Ev.step (fun k => rfl) ?_
    simp only [laws_toStepS.l0, if_pos (show (i : Int) < (l.length : Int) by omega), if_pos (show (0 : Int) ≤ (i : Int) by omega), rdL_nat hi, laws_toStep.f, Option.bind_some, if_pos (show (i : Int) < (out.length : Int) by omega), w64n (show i < 9223372036854775807 by omega), Int.toNat_natCast]
    refine ih _ (by simpa using ho) ?_
    rw [List.take_succ_eq_append_getElem (l := l.map ofL) (show i < (l.map ofL).length by simpa using hi), List.take_succ_eq_append_getElem (by simpa [ho] using hi)]
    rw [List.getElem_set_self, List.take_set, ht, List.set_eq_of_length_le (by simp; omega), List.getElem_map]
    rfl
theorem laws_toAutomaton_ev (n : Int) (l1 l2 : List Int) (l3 : List S90) (h1 : l1.length ≤ 35184372088832) (h2 : l2.length ≤ 35184372088832) (h3 : l3.length ≤ 7036874417766) : Ev (fun k => laws_toAutomaton.f k n l1 l2 l3) (n, l1, l2, l3.map ofL) := by
  simp only [laws_toAutomaton.f]
  exact Ev.bind (laws_toIntS_ev l1 h1) (Ev.bind (laws_toIntS_ev l2 h2) (Ev.bind (laws_toStepS_ev l3 h3) (Ev.now _)))
theorem laws_eqStepS_self (l : List S51) (hl : l.length < 9223372036854775807) : Ev (fun k => laws_eqStepS.f k l l) true := by
  have h := down l.length (P := fun i => Ev (fun k => laws_eqStepS.l0 k l l (i : Int)) true) ?_ ?_ 0 (by omega)
  · simpa only [laws_eqStepS.f, if_true, cast0] using h
  · refine Ev.step (fun k => rfl) ?_
    simp only [laws_eqStepS.l0, if_neg (show ¬ (l.length : Int) < (l.length : Int) by omega)]
    exact Ev.now _
  · intro i hi ih
    refine Ev.step (fun k => rfl) ?_
    simp only [laws_eqStepS.l0, if_pos (show (i : Int) < (l.length : Int) by omega), if_pos (nnc i), laws_eqStep.f, if_true, Option.bind_some, w64n (show i < 9223372036854775807 by omega)]
    exact ih
theorem laws_eqAutomaton_self (n : Int) (l1 l2 : List Int) (l3 : List S51) (h1 : l1.length < 9223372036854775807) (h2 : l2.length < 9223372036854775807) (h3 : l3.length < 9223372036854775807) : Ev (fun k => laws_eqAutomaton.f k n l1 l2 l3 n l1 l2 l3) true := by
  simp only [laws_eqAutomaton.f, if_true]
  refine Ev.bind (laws_eqIntS_ev l1 l1 h1) ?_
  simp only [decide_true, if_true]
  refine Ev.bind (laws_eqIntS_ev l2 l2 h2) ?_
  simp only [decide_true, if_true]
  refine Ev.bind (laws_eqStepS_self l3 h3) ?_
  simp only [if_true]
  exact Ev.now _
/-- p at each place from i on, below n. -/
def allFrom (p : Nat → Bool) (n i : Nat) : Bool := (List.range n).all fun j => decide (j < i) || p j
theorem allFrom_iff {p : Nat → Bool} {n i : Nat} : allFrom p n i = true ↔ ∀ j, i ≤ j → j < n → p j = true := by
  simp only [allFrom, List.all_eq_true, List.mem_range, Bool.or_eq_true, decide_eq_true_eq]
  constructor
  · intro h j h1 h2
    rcases h j h2 with e | e
    · omega
    · exact e
  · intro h j h2
    by_cases e : j < i
    · exact Or.inl e
    · exact Or.inr (h j (by omega) h2)
theorem allFrom_end (p : Nat → Bool) (n : Nat) : allFrom p n n = true := allFrom_iff.2 fun j h1 h2 => absurd h2 (by omega)
theorem allFrom_step {p : Nat → Bool} {n i : Nat} (h : i < n) : allFrom p n i = (p i && allFrom p n (i + 1)) := by
  rw [Bool.eq_iff_iff, Bool.and_eq_true, allFrom_iff, allFrom_iff]
  constructor
  · intro hh
    exact ⟨hh i (by omega) h, fun j h1 h2 => hh j (by omega) h2⟩
  · rintro ⟨h1, h2⟩ j h3 h4
    by_cases e : i = j
    · subst e; exact h1
    · exact h2 j (by omega) h4
/-- The number at this place of a list of states fits. -/
def ascAt (n : Int) (l : List Int) (j : Nat) : Bool := decide (0 ≤ rd l j) && (decide (rd l j < n) && (decide (j = 0) || decide (rd l ((j - 1 : Nat) : Int) < rd l j)))
/-- States in ascending order. -/
def asc (n : Int) (l : List Int) : Bool := allFrom (ascAt n l) l.length 0
theorem pred_w {i : Nat} (h : 0 < i) (h2 : i < 9223372036854775807) : wrap64 ((i : Int) - 1) = ((i - 1 : Nat) : Int) := by rw [w64 (by omega) (by omega)]; omega
theorem asc_iff {n : Int} {l : List Int} : asc n l = true ↔ ∀ j, j < l.length → 0 ≤ rd l j ∧ rd l j < n ∧ (0 < j → rd l ((j - 1 : Nat) : Int) < rd l j) := by
  simp only [asc, allFrom_iff, ascAt, Bool.and_eq_true, Bool.or_eq_true, decide_eq_true_eq]
  constructor
  · intro h j hj
    have := h j (by omega) hj
    exact ⟨this.1, this.2.1, fun h0 => by omega⟩
  · intro h j _ hj
    have := h j hj
    refine ⟨this.1, this.2.1, ?_⟩
    by_cases e : j = 0
    · exact Or.inl e
    · exact Or.inr (this.2.2 (by omega))
theorem spec_l1In_eq (a b c : Int) : spec_l1In.f a b c = some (decide (b ≤ a ∧ a ≤ c)) := by
  unfold spec_l1In.f
  split <;> simp <;> omega
def sA (b : ByteArray) : Bool := decide (b.toList = [97])
def sB (b : ByteArray) : Bool := decide (b.toList = [98])
/-- A step that fits so many states. -/
def sOk (n : Int) (s : S51) : Bool := decide (0 ≤ s.f0 ∧ s.f0 < n ∧ 0 ≤ s.f2 ∧ s.f2 < n ∧ 0 ≤ s.f3 ∧ s.f3 ≤ 3) && (sA s.f1 || sB s.f1)
/-- One step is in front of another one. -/
def sLt (s t : S51) : Bool := if s.f0 = t.f0 then (if s.f1.toList = t.f1.toList then decide (s.f2 < t.f2) else Op.bytesLess s.f1.toList t.f1.toList) else decide (s.f0 < t.f0)
def sAt (n : Int) (l : List S51) (j : Nat) : Bool := sOk n (rd_T51 l j) && (decide (j = 0) || sLt (rd_T51 l ((j - 1 : Nat) : Int)) (rd_T51 l j))
/-- Steps that fit so many states, in order. -/
def stepsOk (n : Int) (l : List S51) : Bool := allFrom (sAt n l) l.length 0
/-- An automaton is valid. -/
def av (n : Int) (l1 l2 : List Int) (l3 : List S51) : Bool := decide (1 ≤ n ∧ n ≤ 4) && (asc n l1 && (asc n l2 && (decide (l3.length ≤ 24) && stepsOk n l3)))
theorem spec_l3Step_eq {n : Int} (h1 : 1 ≤ n) (h4 : n ≤ 4) (s : S51) : spec_l3Step.f n s.f0 s.f1 s.f2 s.f3 = some (sOk n s) := by
  have e : wrap64 (n - 1) = n - 1 := w64 (by omega) (by omega)
  simp only [spec_l3Step.f, spec_l1In_eq, Option.bind_some, e, sOk, sA, sB]
  by_cases c0 : 0 ≤ s.f0 ∧ s.f0 ≤ n - 1
  · rw [if_pos (by simpa using c0)]
    by_cases c1 : 0 ≤ s.f2 ∧ s.f2 ≤ n - 1
    · rw [if_pos (by simpa using c1)]
      by_cases c2 : 0 ≤ s.f3 ∧ s.f3 ≤ 3
      · rw [if_pos (by simpa using c2), show decide (0 ≤ s.f0 ∧ s.f0 < n ∧ 0 ≤ s.f2 ∧ s.f2 < n ∧ 0 ≤ s.f3 ∧ s.f3 ≤ 3) = true by simp; omega]
        by_cases c3 : s.f1.toList = [97]
        · simp [c3]
        · rw [if_neg c3]
          simp only [c3, decide_false, Bool.true_and, Bool.false_or]
          congr 1
          by_cases c4 : s.f1.toList = [98] <;> simp [c4]
      · rw [if_neg (by simpa using c2), show decide (0 ≤ s.f0 ∧ s.f0 < n ∧ 0 ≤ s.f2 ∧ s.f2 < n ∧ 0 ≤ s.f3 ∧ s.f3 ≤ 3) = false by simp; omega]
        rfl
    · rw [if_neg (by simpa using c1), show decide (0 ≤ s.f0 ∧ s.f0 < n ∧ 0 ≤ s.f2 ∧ s.f2 < n ∧ 0 ≤ s.f3 ∧ s.f3 ≤ 3) = false by simp; omega]
      rfl
  · rw [if_neg (by simpa using c0), show decide (0 ≤ s.f0 ∧ s.f0 < n ∧ 0 ≤ s.f2 ∧ s.f2 < n ∧ 0 ≤ s.f3 ∧ s.f3 ≤ 3) = false by simp; omega]
    rfl
theorem spec_l3Before_eq (s t : S51) : spec_l3Before.f s.f0 s.f1 s.f2 s.f3 t.f0 t.f1 t.f2 t.f3 = some (sLt s t) := by
  simp only [spec_l3Before.f, sLt]
  split
  · split <;> rfl
  · rfl
theorem spec_l3Marks_ev (n : Int) (h1 : 1 ≤ n) (h4 : n ≤ 4) (l : List Int) (hl : l.length < 9223372036854775807) : Ev (fun k => spec_l3Marks.f k n l) (asc n l) := by
  have h := down l.length (P := fun i => Ev (fun k => spec_l3Marks.l0 k n l l (l.length : Int) (i : Int)) (allFrom (ascAt n l) l.length i)) ?_ ?_ 0 (by omega)
  · simpa only [spec_l3Marks.f, asc, cast0] using h
  · refine Ev.step (fun k => rfl) ?_
    simp only [spec_l3Marks.l0, if_neg (show ¬ (l.length : Int) < (l.length : Int) by omega), allFrom_end]
    exact Ev.now _
  · intro i hi ih
    refine Ev.step (fun k => rfl) ?_
    simp only [spec_l3Marks.l0, if_pos (show (i : Int) < (l.length : Int) by omega), if_pos (nnc i), spec_l1In_eq, Option.bind_some, w64n (show i < 9223372036854775807 by omega), w64 (show -9223372036854775808 ≤ n - 1 by omega) (show n - 1 ≤ 9223372036854775807 by omega)]
    rw [allFrom_step hi]
    by_cases hc : 0 ≤ rd l i ∧ rd l i ≤ n - 1
    · simp only [show decide (0 ≤ rd l i ∧ rd l i ≤ n - 1) = true by simpa using hc, if_true]
      by_cases h0 : i = 0
      · subst h0
        simp only [cast0, if_neg (show ¬ (0 : Int) > 0 by omega)]
        exact ev_to ih (by simp [ascAt, show (0 : Int) ≤ rd l 0 from hc.1, show rd l 0 < n by have := hc.2; simp at this; omega])
      · simp only [if_pos (show (i : Int) > 0 by omega), pred_w (show 0 < i by omega) (show i < 9223372036854775807 by omega), if_pos (nnc (i - 1)), if_pos (show ((i - 1 : Nat) : Int) < (l.length : Int) by omega)]
        by_cases hb : rd l ((i - 1 : Nat) : Int) ≥ rd l i
        · simp only [if_pos hb]
          exact ev_to (Ev.now _) (by simp [ascAt, h0, show ¬ rd l ((i - 1 : Nat) : Int) < rd l i by omega])
        · simp only [if_neg hb]
          exact ev_to ih (by simp [ascAt, hc.1, show rd l i < n by omega, show rd l ((i - 1 : Nat) : Int) < rd l i by omega])
    · simp only [show decide (0 ≤ rd l i ∧ rd l i ≤ n - 1) = false by simpa using hc, Bool.false_eq_true, if_false]
      refine ev_to (Ev.now _) ?_
      by_cases ha : 0 ≤ rd l i
      · simp [ascAt, show ¬ rd l i < n by omega]
      · simp [ascAt, ha]
theorem spec_AutomatonValid_steps {n : Int} (h1 : 1 ≤ n) (h4 : n ≤ 4) (l1 l2 : List Int) (l3 : List S51) (h3 : l3.length < 9223372036854775807) : Ev (fun k => spec_AutomatonValid.l0 k l3 (l3.length : Int) 0 n l1 l2 l3) (stepsOk n l3) := by
  have h := down l3.length (P := fun i => Ev (fun k => spec_AutomatonValid.l0 k l3 (l3.length : Int) (i : Int) n l1 l2 l3) (allFrom (sAt n l3) l3.length i)) ?_ ?_ 0 (by omega)
  · simpa only [stepsOk, cast0] using h
  · refine Ev.step (fun k => rfl) ?_
    simp only [spec_AutomatonValid.l0, if_neg (show ¬ (l3.length : Int) < (l3.length : Int) by omega), allFrom_end]
    exact Ev.now _
  · intro i hi ih
    refine Ev.step (fun k => rfl) ?_
    simp only [spec_AutomatonValid.l0, if_pos (show (i : Int) < (l3.length : Int) by omega), if_pos (nnc i), spec_l3Step_eq h1 h4, spec_l3Before_eq, Option.bind_some, w64n (show i < 9223372036854775807 by omega)]
    rw [allFrom_step hi]
    cases hs : sOk n (rd_T51 l3 (i : Int)) with
    | false =>
      simp only [Bool.false_eq_true, if_false]
      exact ev_to (Ev.now _) (by simp [sAt, hs])
    | true =>
      simp only [if_true]
      by_cases h0 : i = 0
      · subst h0
        simp only [cast0, if_neg (show ¬ (0 : Int) > 0 by omega)]
        exact ev_to ih (by simp only [cast0] at hs; simp [sAt, hs])
      · simp only [if_pos (show (i : Int) > 0 by omega), pred_w (show 0 < i by omega) (show i < 9223372036854775807 by omega), if_pos (nnc (i - 1)), if_pos (show ((i - 1 : Nat) : Int) < (l3.length : Int) by omega)]
        cases hb : sLt (rd_T51 l3 ((i - 1 : Nat) : Int)) (rd_T51 l3 (i : Int)) with
        | false =>
          simp only [Bool.false_eq_true, if_false]
          exact ev_to (Ev.now _) (by simp [sAt, h0, hb])
        | true =>
          simp only [if_true]
          exact ev_to ih (by simp [sAt, hs, hb])
theorem spec_AutomatonValid_ev (n : Int) (l1 l2 : List Int) (l3 : List S51) (h1 : l1.length < 9223372036854775807) (h2 : l2.length < 9223372036854775807) (h3 : l3.length < 9223372036854775807) : Ev (fun k => spec_AutomatonValid.f k n l1 l2 l3) (av n l1 l2 l3) := by
  have hno : Ev (fun k => spec_AutomatonValid.j0 k true n l1 l2 l3) false := by
    refine Ev.step (fun k => rfl) ?_
    simp only [spec_AutomatonValid.j0, if_true]
    exact Ev.now _
  simp only [spec_AutomatonValid.f, spec_l1In_eq, Option.bind_some]
  by_cases c0 : 1 ≤ n ∧ n ≤ 4
  · simp only [show decide (1 ≤ n ∧ n ≤ 4) = true by simpa using c0, if_true]
    refine Ev.bind (spec_l3Marks_ev n c0.1 c0.2 l1 h1) ?_
    cases e1 : asc n l1 with
    | false =>
      simp only [Bool.false_eq_true, if_false]
      exact ev_to hno (by simp [av, e1])
    | true =>
      simp only [if_true]
      refine Ev.bind (spec_l3Marks_ev n c0.1 c0.2 l2 h2) ?_
      cases e2 : asc n l2 with
      | false =>
        simp only [Bool.false_eq_true, if_false]
        exact ev_to hno (by simp [av, e2])
      | true =>
        simp only [if_true]
        by_cases c3 : (l3.length : Int) > 24
        · simp only [c3, decide_true]
          exact ev_to hno (by simp [av, show ¬ l3.length ≤ 24 by omega])
        · simp only [c3, decide_false]
          refine Ev.step (fun k => rfl) ?_
          simp only [spec_AutomatonValid.j0, Bool.false_eq_true, if_false]
          exact ev_to (spec_AutomatonValid_steps c0.1 c0.2 l1 l2 l3 h3) (by simp [av, e1, e2, c0.1, c0.2, show l3.length ≤ 24 by omega])
  · simp only [show decide (1 ≤ n ∧ n ≤ 4) = false by simpa using c0, Bool.false_eq_true, if_false]
    exact ev_to hno (by simp only [av]; rw [show decide (1 ≤ n ∧ n ≤ 4) = false by simpa using c0]; rfl)
theorem impl_statesOk_ev (n : Int) (l : List Int) (hl : l.length < 9223372036854775807) : Ev (fun k => impl_statesOk.f k l n) (asc n l) := by
  have h := down l.length (P := fun i => Ev (fun k => impl_statesOk.l0 k l n l (l.length : Int) (i : Int)) (allFrom (ascAt n l) l.length i)) ?_ ?_ 0 (by omega)
  · simpa only [impl_statesOk.f, asc, cast0] using h
  · refine Ev.step (fun k => rfl) ?_
    simp only [impl_statesOk.l0, if_neg (show ¬ (l.length : Int) < (l.length : Int) by omega), allFrom_end]
    exact Ev.now _
  · intro i hi ih
    refine Ev.step (fun k => rfl) ?_
    simp only [impl_statesOk.l0, if_pos (show (i : Int) < (l.length : Int) by omega), if_pos (nnc i), w64n (show i < 9223372036854775807 by omega)]
    rw [allFrom_step hi]
    by_cases ha : rd l i < 0
    · simp only [if_pos ha]
      exact ev_to (Ev.now _) (by simp [ascAt, show ¬ 0 ≤ rd l i by omega])
    · simp only [if_neg ha]
      by_cases hb : rd l i ≥ n
      · simp only [if_pos hb]
        exact ev_to (Ev.now _) (by simp [ascAt, show ¬ rd l i < n by omega])
      · simp only [if_neg hb]
        by_cases h0 : i = 0
        · subst h0
          simp only [cast0, if_neg (show ¬ (0 : Int) > 0 by omega)]
          exact ev_to ih (by simp [ascAt, show (0 : Int) ≤ rd l 0 by simp at ha; omega, show rd l 0 < n by simp at hb; omega])
        · simp only [if_pos (show (i : Int) > 0 by omega), pred_w (show 0 < i by omega) (show i < 9223372036854775807 by omega), if_pos (nnc (i - 1)), if_pos (show ((i - 1 : Nat) : Int) < (l.length : Int) by omega)]
          by_cases hc : rd l ((i - 1 : Nat) : Int) ≥ rd l i
          · simp only [if_pos hc]
            exact ev_to (Ev.now _) (by simp [ascAt, h0, show ¬ rd l ((i - 1 : Nat) : Int) < rd l i by omega])
          · simp only [if_neg hc]
            exact ev_to ih (by simp [ascAt, show 0 ≤ rd l i by omega, show rd l i < n by omega, show rd l ((i - 1 : Nat) : Int) < rd l i by omega])
theorem cmp_bytes : ∀ a b : List UInt8, Lib.compareBytes a b = if a = b then 0 else if Op.bytesLess a b then -1 else 1
  | [], [] => by simp [Lib.compareBytes]
  | [], _ :: _ => by simp [Lib.compareBytes, Op.bytesLess]
  | _ :: _, [] => by simp [Lib.compareBytes, Op.bytesLess]
  | x :: a, y :: b => by
    have ih := cmp_bytes a b
    simp only [Lib.compareBytes, Op.bytesLess]
    by_cases h1 : x < y
    · have hne : x ≠ y := fun e => by subst e; exact absurd h1 (UInt8.lt_irrefl x)
      simp [h1, hne]
    · by_cases h2 : y < x
      · have hne : x ≠ y := fun e => by subst e; exact absurd h2 (UInt8.lt_irrefl x)
        simp [h1, h2, hne]
      · have e : x = y := UInt8.le_antisymm (UInt8.not_lt.1 h2) (UInt8.not_lt.1 h1)
        subst e
        simp [h1, ih]
def cmpI (a b : Int) : Int := if a < b then -1 else if b < a then 1 else 0
theorem cmp_Compare_eq (a b : Int) : cmp_Compare_int.f a b = some (cmpI a b) := by
  simp only [cmp_Compare_int.f, cmp_isNaN_int.f, Option.bind_some, bne_self_eq_false, Bool.false_eq_true, if_false, cmpI]
  split
  · rfl
  · split <;> rfl
def ordS (s t : S51) : Int := if cmpI s.f0 t.f0 ≠ 0 then cmpI s.f0 t.f0 else if Lib.compareBytes s.f1.data.toList t.f1.data.toList ≠ 0 then Lib.compareBytes s.f1.data.toList t.f1.data.toList else cmpI s.f2 t.f2
theorem cmp_Or_ev (a b c : Int) : Ev (fun k => cmp_Or_int.f k [a, b, c]) (if a ≠ 0 then a else if b ≠ 0 then b else c) := by
  simp only [cmp_Or_int.f]
  refine Ev.step (fun k => rfl) ?_
  simp only [cmp_Or_int.l0, List.length_cons, List.length_nil, show ((0 + 1 + 1 + 1 : Nat) : Int) = 3 from rfl, if_pos (show (0 : Int) < 3 by omega), if_pos (show (0 : Int) ≤ 0 by omega), show rd [a, b, c] 0 = a from rfl, show wrap64 (0 + 1) = 1 by rw [w64 (by omega) (by omega)]; rfl]
  by_cases ha : a = 0
  · simp only [if_pos ha, ne_eq, ha, not_true_eq_false, if_false]
    refine Ev.step (fun k => rfl) ?_
    simp only [cmp_Or_int.l0, List.length_cons, List.length_nil, show ((0 + 1 + 1 + 1 : Nat) : Int) = 3 from rfl, if_pos (show (1 : Int) < 3 by omega), if_pos (show (0 : Int) ≤ 1 by omega), show rd [0, b, c] 1 = b from rfl, show wrap64 (1 + 1) = 2 by rw [w64 (by omega) (by omega)]; rfl]
    by_cases hb : b = 0
    · simp only [if_pos hb, ne_eq, hb, not_true_eq_false, if_false]
      refine Ev.step (fun k => rfl) ?_
      simp only [cmp_Or_int.l0, List.length_cons, List.length_nil, show ((0 + 1 + 1 + 1 : Nat) : Int) = 3 from rfl, if_pos (show (2 : Int) < 3 by omega), if_pos (show (0 : Int) ≤ 2 by omega), show rd [0, 0, c] 2 = c from rfl, show wrap64 (2 + 1) = 3 by rw [w64 (by omega) (by omega)]; rfl]
      by_cases hc : c = 0
      · simp only [if_pos hc]
        refine Ev.step (fun k => rfl) ?_
        simp only [cmp_Or_int.l0, List.length_cons, List.length_nil, show ((0 + 1 + 1 + 1 : Nat) : Int) = 3 from rfl, if_neg (show ¬ (3 : Int) < 3 by omega)]
        exact ev_to (Ev.now _) hc.symm
      · simp only [if_neg hc]
        exact Ev.now _
    · simp only [if_neg hb, ne_eq, hb, not_false_eq_true, if_true]
      exact Ev.now _
  · simp only [if_neg ha, ne_eq, ha, not_false_eq_true, if_true]
    exact Ev.now _
theorem impl_stepOrder_ev (s t : S51) : Ev (fun k => impl_stepOrder.f k s.f0 s.f1 s.f2 s.f3 t.f0 t.f1 t.f2 t.f3) (ordS s t) := by
  simp only [impl_stepOrder.f, cmp_Compare_eq, strings_Compare.f, Option.bind_some]
  exact Ev.bind (cmp_Or_ev _ _ _) (Ev.now _)
theorem ordS_lt (s t : S51) : (ordS s t < 0) = (sLt s t = true) := by
  simp only [ordS, sLt, cmp_bytes, cmpI, Lib.toList_data]
  by_cases h0 : s.f0 = t.f0
  · rw [h0]
    simp only [Int.lt_irrefl, if_false, ne_eq, not_true_eq_false, if_true]
    by_cases h1 : s.f1.data.toList = t.f1.data.toList
    · simp only [if_pos h1, not_true_eq_false, if_false, decide_eq_true_eq]
      apply propext
      constructor
      · intro h
        split at h
        · assumption
        · split at h <;> omega
      · intro h
        rw [if_pos h]
        omega
    · simp only [if_neg h1]
      cases hb : Op.bytesLess s.f1.data.toList t.f1.data.toList <;> simp
  · simp only [if_neg h0]
    by_cases h1 : s.f0 < t.f0
    · simp [h1]
    · simp [h1, show t.f0 < s.f0 by omega]
theorem impl_AutomatonValid_steps {n : Int} (l1 l2 : List Int) (l3 : List S51) (h3 : l3.length < 9223372036854775807) : Ev (fun k => impl_AutomatonValid.l0 k l3 (l3.length : Int) 0 n l1 l2 l3) (stepsOk n l3) := by
  have h := down l3.length (P := fun i => Ev (fun k => impl_AutomatonValid.l0 k l3 (l3.length : Int) (i : Int) n l1 l2 l3) (allFrom (sAt n l3) l3.length i)) ?_ ?_ 0 (by omega)
  · simpa only [stepsOk, cast0] using h
  · refine Ev.step (fun k => rfl) ?_
    simp only [impl_AutomatonValid.l0, if_neg (show ¬ (l3.length : Int) < (l3.length : Int) by omega), allFrom_end]
    exact Ev.now _
  · intro i hi ih
    have hno : sOk n (rd_T51 l3 (i : Int)) = false → (sAt n l3 i && allFrom (sAt n l3) l3.length (i + 1)) = false := fun e => by simp [sAt, e]
    have hlast : sOk n (rd_T51 l3 (i : Int)) = true → Ev (fun k => if (i : Int) > 0 then (if 0 ≤ wrap64 ((i : Int) - 1) then (if wrap64 ((i : Int) - 1) < (l3.length : Int) then ((impl_stepOrder.f k (rd_T51 l3 (wrap64 ((i : Int) - 1))).f0 (rd_T51 l3 (wrap64 ((i : Int) - 1))).f1 (rd_T51 l3 (wrap64 ((i : Int) - 1))).f2 (rd_T51 l3 (wrap64 ((i : Int) - 1))).f3 (rd_T51 l3 (i : Int)).f0 (rd_T51 l3 (i : Int)).f1 (rd_T51 l3 (i : Int)).f2 (rd_T51 l3 (i : Int)).f3).bind fun t => if t ≥ 0 then some false else impl_AutomatonValid.l0 k l3 (l3.length : Int) ((i + 1 : Nat) : Int) n l1 l2 l3) else none) else none) else impl_AutomatonValid.l0 k l3 (l3.length : Int) ((i + 1 : Nat) : Int) n l1 l2 l3) (sAt n l3 i && allFrom (sAt n l3) l3.length (i + 1)) := by
      intro hs
      by_cases h0 : i = 0
      · subst h0
        simp only [cast0, if_neg (show ¬ (0 : Int) > 0 by omega)]
        exact ev_to ih (by simp only [cast0] at hs; simp [sAt, hs])
      · simp only [if_pos (show (i : Int) > 0 by omega), pred_w (show 0 < i by omega) (show i < 9223372036854775807 by omega), if_pos (nnc (i - 1)), if_pos (show ((i - 1 : Nat) : Int) < (l3.length : Int) by omega)]
        refine Ev.bind (impl_stepOrder_ev _ _) ?_
        have ho := ordS_lt (rd_T51 l3 ((i - 1 : Nat) : Int)) (rd_T51 l3 (i : Int))
        cases hb : sLt (rd_T51 l3 ((i - 1 : Nat) : Int)) (rd_T51 l3 (i : Int)) with
        | false =>
          rw [hb] at ho
          simp only [if_pos (show ordS (rd_T51 l3 ((i - 1 : Nat) : Int)) (rd_T51 l3 (i : Int)) ≥ 0 by simp at ho; omega)]
          exact ev_to (Ev.now _) (by simp [sAt, h0, hb])
        | true =>
          rw [hb] at ho
          simp only [eq_self_iff_true, eq_iff_iff, iff_true] at ho
          simp only [if_neg (show ¬ ordS (rd_T51 l3 ((i - 1 : Nat) : Int)) (rd_T51 l3 (i : Int)) ≥ 0 by omega)]
          exact ev_to ih (by simp [sAt, hs, hb])
    refine Ev.step (fun k => rfl) ?_
    simp only [impl_AutomatonValid.l0, if_pos (show (i : Int) < (l3.length : Int) by omega), if_pos (nnc i), w64n (show i < 9223372036854775807 by omega)]
    rw [allFrom_step hi]
    by_cases c0 : (rd_T51 l3 (i : Int)).f0 < 0
    · simp only [if_pos c0]
      exact ev_to (Ev.now _) (hno (by simp [sOk]; omega)).symm
    simp only [if_neg c0]
    by_cases c1 : (rd_T51 l3 (i : Int)).f0 ≥ n
    · simp only [if_pos c1]
      exact ev_to (Ev.now _) (hno (by simp [sOk]; omega)).symm
    simp only [if_neg c1]
    by_cases c2 : (rd_T51 l3 (i : Int)).f2 < 0
    · simp only [if_pos c2]
      exact ev_to (Ev.now _) (hno (by simp [sOk]; omega)).symm
    simp only [if_neg c2]
    by_cases c3 : (rd_T51 l3 (i : Int)).f2 ≥ n
    · simp only [if_pos c3]
      exact ev_to (Ev.now _) (hno (by simp [sOk]; omega)).symm
    simp only [if_neg c3]
    have hcost : ∀ hl : (sA (rd_T51 l3 (i : Int)).f1 || sB (rd_T51 l3 (i : Int)).f1) = true, ∀ {g : Nat → Option Bool}, (sOk n (rd_T51 l3 (i : Int)) = true → Ev g (sAt n l3 i && allFrom (sAt n l3) l3.length (i + 1))) → Ev (fun k => if (rd_T51 l3 (i : Int)).f3 < 0 then some false else if (rd_T51 l3 (i : Int)).f3 > 3 then some false else g k) (sAt n l3 i && allFrom (sAt n l3) l3.length (i + 1)) := by
      intro hl g hg
      by_cases c4 : (rd_T51 l3 (i : Int)).f3 < 0
      · simp only [if_pos c4]
        exact ev_to (Ev.now _) (hno (by simp [sOk]; omega)).symm
      simp only [if_neg c4]
      by_cases c5 : (rd_T51 l3 (i : Int)).f3 > 3
      · simp only [if_pos c5]
        exact ev_to (Ev.now _) (hno (by simp [sOk]; omega)).symm
      simp only [if_neg c5]
      refine hg ?_
      simp only [sOk, hl, Bool.and_true, decide_eq_true_eq]
      omega
    by_cases ca : (rd_T51 l3 (i : Int)).f1.toList = [97]
    · simp only [if_pos ca]
      exact hcost (by simp [sA, ca]) hlast
    · simp only [if_neg ca]
      by_cases cb : (rd_T51 l3 (i : Int)).f1.toList = [98]
      · simp only [if_pos cb]
        exact hcost (by simp [sB, cb]) hlast
      · simp only [if_neg cb]
        exact ev_to (Ev.now _) (hno (by simp [sOk, sA, sB, ca, cb])).symm
theorem impl_AutomatonValid_ev (n : Int) (l1 l2 : List Int) (l3 : List S51) (h1 : l1.length < 9223372036854775807) (h2 : l2.length < 9223372036854775807) (h3 : l3.length < 9223372036854775807) : Ev (fun k => impl_AutomatonValid.f k n l1 l2 l3) (av n l1 l2 l3) := by
  have hno : Ev (fun k => impl_AutomatonValid.j0 k true n l1 l2 l3) false := by
    refine Ev.step (fun k => rfl) ?_
    simp only [impl_AutomatonValid.j0, if_true]
    exact Ev.now _
  simp only [impl_AutomatonValid.f]
  by_cases c0 : n < 1
  · simp only [if_pos c0]
    exact ev_to hno (by simp only [av]; rw [show decide (1 ≤ n ∧ n ≤ 4) = false by simp; omega]; rfl)
  simp only [if_neg c0]
  by_cases c1 : n > 4
  · simp only [if_pos c1]
    exact ev_to hno (by simp only [av]; rw [show decide (1 ≤ n ∧ n ≤ 4) = false by simp; omega]; rfl)
  simp only [if_neg c1]
  by_cases c3 : (l3.length : Int) > 24
  · simp only [if_pos c3]
    exact ev_to hno (by simp [av, show ¬ l3.length ≤ 24 by omega])
  simp only [if_neg c3]
  refine Ev.bind (impl_statesOk_ev n l1 h1) ?_
  cases e1 : asc n l1 with
  | false =>
    simp only [Bool.false_eq_true, if_false]
    exact ev_to hno (by simp [av, e1])
  | true =>
    simp only [if_true]
    refine Ev.bind (impl_statesOk_ev n l2 h2) ?_
    cases e2 : asc n l2 with
    | false => exact ev_to hno (by simp [av, e2])
    | true =>
      simp only [Bool.not_true]
      refine Ev.step (fun k => rfl) ?_
      simp only [impl_AutomatonValid.j0, Bool.false_eq_true, if_false]
      exact ev_to (impl_AutomatonValid_steps l1 l2 l3 h3) (by simp [av, e1, e2, show 1 ≤ n by omega, show n ≤ 4 by omega, show l3.length ≤ 24 by omega])
def bA : ByteArray := ⟨#[97]⟩
def bB : ByteArray := ⟨#[98]⟩
def bE : ByteArray := ⟨#[]⟩
/-- Some step from i on has this letter. -/
def hasL (c : ByteArray) (l : List S51) : Bool := l.any fun s => s.f1.toList == c.toList
/-- The letters of an automaton. -/
def lettersOf (v : Bool) (l : List S51) : ByteArray := (if v && hasL bA l then bA else bE) ++ (if v && hasL bB l then bB else bE)
theorem any_drop {c : ByteArray} {l : List S51} {i : Nat} (h : i < l.length) : hasL c (l.drop i) = ((l[i].f1.toList == c.toList) || hasL c (l.drop (i + 1))) := by
  rw [dropc h]
  rfl
theorem rdOf_two0 (a b : ByteArray) : rdOf ByteArray.empty [a, b] 0 = a := rfl
theorem rdOf_two1 (a b : ByteArray) : rdOf ByteArray.empty [a, b] 1 = b := rfl
theorem spec_LettersOf_one {n : Int} {l1 l2 : List Int} {l3 : List S51} (h1 : l1.length < 9223372036854775807) (h2 : l2.length < 9223372036854775807) (h3 : l3.length < 9223372036854775807) {o c r : ByteArray} {i j : Int} (hi : 0 ≤ i ∧ i < 2) (hj : wrap64 (i + 1) = j) (hc : rdOf ByteArray.empty [bA, bB] i = c) (hs : o.size + c.size ≤ 9223372036854775807)
    (t0 : o.toList = [] ∨ ¬ o.toList = [] ∧ 0 ≤ wrap64 ((o.size : Int) - 1) ∧ wrap64 ((o.size : Int) - 1) ≤ (o.size : Int) ∧ ¬ (o.extract (wrap64 ((o.size : Int) - 1) : Int).toNat o.size).toList = c.toList)
    (t1 : ¬ (o ++ c).toList = [] ∧ 0 ≤ wrap64 (((o ++ c).size : Int) - 1) ∧ wrap64 (((o ++ c).size : Int) - 1) ≤ ((o ++ c).size : Int) ∧ ((o ++ c).extract (wrap64 (((o ++ c).size : Int) - 1) : Int).toNat (o ++ c).size).toList = c.toList)
    (h : Ev (fun k => spec_LettersOf.l0 k (if av n l1 l2 l3 && hasL c l3 then o ++ c else o) [bA, bB] 2 j n l1 l2 l3) r) : Ev (fun k => spec_LettersOf.l0 k o [bA, bB] 2 i n l1 l2 l3) r := by
  have hin := down l3.length (P := fun q => ∀ b : Bool, Ev (fun k => spec_LettersOf.l0 k (if b || (av n l1 l2 l3 && hasL c (l3.drop q)) then o ++ c else o) [bA, bB] 2 j n l1 l2 l3) r → Ev (fun k => spec_LettersOf.l1 k (if b then o ++ c else o) c [bA, bB] 2 i l3 (l3.length : Int) (q : Int) n l1 l2 l3) r) ?_ ?_ 0 (by omega) false
  · refine Ev.step (fun k => rfl) ?_
    simp only [spec_LettersOf.l0, if_pos hi.2, if_pos hi.1, List.length_cons, List.length_nil, show ((0 + 1 + 1 : Nat) : Int) = 2 from rfl, hc]
    simpa only [cast0, List.drop_zero, Bool.false_or, Bool.false_eq_true, if_false] using hin (by simpa only [cast0, List.drop_zero, Bool.false_or] using h)
  · intro b hb
    refine Ev.step (fun k => rfl) ?_
    simp only [spec_LettersOf.l1, if_neg (show ¬ (l3.length : Int) < (l3.length : Int) by omega), hj]
    simpa only [dropn, hasL, List.any_nil, Bool.and_false, Bool.or_false] using hb
  · intro q hq ih b hb
    refine Ev.step (fun k => rfl) ?_
    simp only [spec_LettersOf.l1, if_pos (show (q : Int) < (l3.length : Int) by omega), if_pos (nnc q), rdI_nat hq, w64n (show q < 9223372036854775807 by omega)]
    refine Ev.bind (spec_AutomatonValid_ev n l1 l2 l3 h1 h2 h3) ?_
    cases hv : av n l1 l2 l3 with
    | false =>
      simp only [Bool.false_eq_true, if_false]
      refine ih b ?_
      simpa only [hv, Bool.false_and] using hb
    | true =>
      simp only [if_true]
      by_cases he : l3[q].f1.toList = c.toList
      · simp only [if_pos he]
        have hb' : Ev (fun k => spec_LettersOf.l0 k (if true || (av n l1 l2 l3 && hasL c (l3.drop (q + 1))) then o ++ c else o) [bA, bB] 2 j n l1 l2 l3) r := by
          rw [any_drop hq, hv] at hb
          simpa [he] using hb
        have hgo := ih true hb'
        simp only [if_true] at hgo
        cases b with
        | true =>
          simp only [if_true]
          simp only [if_neg t1.1, if_pos t1.2.1, if_pos t1.2.2.1, if_pos t1.2.2.2]
          exact hgo
        | false =>
          simp only [Bool.false_eq_true, if_false]
          rcases t0 with e | e
          · simp only [if_pos e, if_pos hs]
            exact hgo
          · simp only [if_neg e.1, if_pos e.2.1, if_pos e.2.2.1, if_neg e.2.2.2, if_pos hs]
            exact hgo
      · simp only [if_neg he]
        refine ih b ?_
        rw [any_drop hq, hv] at hb
        simpa [he, hv] using hb
theorem spec_LettersOf_ev (n : Int) (l1 l2 : List Int) (l3 : List S51) (h1 : l1.length < 9223372036854775807) (h2 : l2.length < 9223372036854775807) (h3 : l3.length < 9223372036854775807) : Ev (fun k => spec_LettersOf.f k n l1 l2 l3) (lettersOf (av n l1 l2 l3) l3) := by
  have w0 : wrap64 (0 + 1) = 1 := by rw [w64 (by omega) (by omega)]; rfl
  have w1 : wrap64 (1 + 1) = 2 := by rw [w64 (by omega) (by omega)]; rfl
  have v0 : wrap64 ((1 : Int) - 1) = 0 := by rw [w64 (by omega) (by omega)]; rfl
  have v1 : wrap64 ((2 : Int) - 1) = 1 := by rw [w64 (by omega) (by omega)]; rfl
  simp only [spec_LettersOf.f, Option.bind_some]
  refine spec_LettersOf_one (o := bE) (c := bA) (i := 0) (j := 1) h1 h2 h3 (by omega) w0 rfl (by decide) (Or.inl (by rw [Lib.toList_data]; rfl)) ?_ ?_
  · simp only [show ((bE ++ bA).size : Int) = 1 from rfl, v0, Lib.toList_data]
    exact ⟨by decide, by omega, by omega, by decide⟩
  have key : ∀ o : ByteArray, o = bE ∨ o = bA → Ev (fun k => spec_LettersOf.l0 k o [bA, bB] 2 1 n l1 l2 l3) (o ++ (if av n l1 l2 l3 && hasL bB l3 then bB else bE)) := by
    intro o ho
    refine spec_LettersOf_one (c := bB) (i := 1) (j := 2) h1 h2 h3 (by omega) w1 rfl (by rcases ho with rfl | rfl <;> decide) ?_ ?_ ?_
    · rcases ho with rfl | rfl
      · exact Or.inl (by rw [Lib.toList_data]; rfl)
      · refine Or.inr ?_
        simp only [show (bA.size : Int) = 1 from rfl, v0, Lib.toList_data]
        exact ⟨by decide, by omega, by omega, by decide⟩
    · rcases ho with rfl | rfl
      · simp only [show ((bE ++ bB).size : Int) = 1 from rfl, v0, Lib.toList_data]
        exact ⟨by decide, by omega, by omega, by decide⟩
      · simp only [show ((bA ++ bB).size : Int) = 2 from rfl, v1, Lib.toList_data]
        exact ⟨by decide, by omega, by omega, by decide⟩
    · refine Ev.step (fun k => rfl) ?_
      simp only [spec_LettersOf.l0, if_neg (show ¬ (2 : Int) < 2 by omega)]
      refine ev_to (Ev.now _) ?_
      cases (av n l1 l2 l3 && hasL bB l3)
      · simp only [Bool.false_eq_true, if_false]; exact (ByteArray.append_empty).symm
      · simp
  cases hp : (av n l1 l2 l3 && hasL bA l3) with
  | true =>
    simp only [if_true]
    exact ev_to (key (bE ++ bA) (Or.inr (by decide))) (by unfold lettersOf; rw [hp]; rfl)
  | false =>
    simp only [Bool.false_eq_true, if_false]
    exact ev_to (key bE (Or.inl rfl)) (by unfold lettersOf; rw [hp]; rfl)
theorem impl_LettersIndex_ev (c : ByteArray) (l : List S51) (hl : l.length < 9223372036854775807) : ∃ r, Ev (fun k => slices_IndexFunc_Step_at_impl_LettersOf_1.f k l c) r ∧ decide (r ≥ 0) = hasL c l := by
  have h := down l.length (P := fun i => ∃ r, Ev (fun k => slices_IndexFunc_Step_at_impl_LettersOf_1.l0 k l (l.length : Int) (i : Int) c) r ∧ decide (r ≥ 0) = hasL c (l.drop i)) ?_ ?_ 0 (by omega)
  · simpa only [slices_IndexFunc_Step_at_impl_LettersOf_1.f, cast0, List.drop_zero] using h
  · refine ⟨-1, Ev.step (fun k => rfl) ?_, by rw [dropn]; rfl⟩
    simp only [slices_IndexFunc_Step_at_impl_LettersOf_1.l0, if_neg (show ¬ (l.length : Int) < (l.length : Int) by omega)]
    exact Ev.now _
  · intro i hi ih
    obtain ⟨r, hr, hd⟩ := ih
    cases ht : (l[i].f1.toList == c.toList) with
    | true =>
      refine ⟨(i : Int), Ev.step (fun k => rfl) ?_, by rw [any_drop hi, ht]; simp⟩
      simp only [slices_IndexFunc_Step_at_impl_LettersOf_1.l0, if_pos (show (i : Int) < (l.length : Int) by omega), if_pos (nnc i), rdI_nat hi, impl_LettersOf_1.f, Option.bind_some, ht, if_true]
      exact Ev.now _
    | false =>
      refine ⟨r, Ev.step (fun k => rfl) ?_, by rw [any_drop hi, ht, hd]; simp⟩
      simp only [slices_IndexFunc_Step_at_impl_LettersOf_1.l0, if_pos (show (i : Int) < (l.length : Int) by omega), if_pos (nnc i), rdI_nat hi, impl_LettersOf_1.f, Option.bind_some, ht, Bool.false_eq_true, if_false, w64n (show i < 9223372036854775807 by omega)]
      exact hr
theorem impl_LettersHas_ev (c : ByteArray) (l : List S51) (hl : l.length < 9223372036854775807) : Ev (fun k => slices_ContainsFunc_Step_at_impl_LettersOf_1.f k l c) (hasL c l) := by
  obtain ⟨r, hr, hd⟩ := impl_LettersIndex_ev c l hl
  simp only [slices_ContainsFunc_Step_at_impl_LettersOf_1.f]
  exact ev_to (Ev.bind hr (Ev.now _)) hd
theorem impl_LettersOf_one {n : Int} {l1 l2 : List Int} {l3 : List S51} (h1 : l1.length < 9223372036854775807) (h2 : l2.length < 9223372036854775807) (h3 : l3.length < 9223372036854775807) {o c r : ByteArray} {i j : Int} (hi : 0 ≤ i ∧ i < 2) (hj : wrap64 (i + 1) = j) (hc : rdOf ByteArray.empty [bA, bB] i = c) (hs : o.size + c.size ≤ 9223372036854775807)
    (h : Ev (fun k => impl_LettersOf.l0 k (if av n l1 l2 l3 && hasL c l3 then o ++ c else o) [bA, bB] 2 j n l1 l2 l3) r) : Ev (fun k => impl_LettersOf.l0 k o [bA, bB] 2 i n l1 l2 l3) r := by
  refine Ev.step (fun k => rfl) ?_
  simp only [impl_LettersOf.l0, if_pos hi.2, if_pos hi.1, List.length_cons, List.length_nil, show ((0 + 1 + 1 : Nat) : Int) = 2 from rfl, hc, hj]
  refine Ev.bind (impl_AutomatonValid_ev n l1 l2 l3 h1 h2 h3) ?_
  cases hv : av n l1 l2 l3 with
  | false =>
    simp only [hv, Bool.false_and, Bool.false_eq_true, if_false] at h ⊢
    exact h
  | true =>
    simp only [hv, Bool.true_and, if_true] at h ⊢
    refine Ev.bind (impl_LettersHas_ev c l3 h3) ?_
    cases ht : hasL c l3 with
    | false =>
      simp only [ht, Bool.false_eq_true, if_false] at h ⊢
      exact h
    | true =>
      simp only [ht, if_true] at h ⊢
      simp only [if_pos hs]
      exact h
theorem app_ite (p : Bool) (o c : ByteArray) : (if p = true then o ++ c else o) = o ++ (if p = true then c else bE) := by
  cases p
  · simp only [Bool.false_eq_true, if_false]; exact (ByteArray.append_empty).symm
  · simp
theorem impl_LettersOf_ev (n : Int) (l1 l2 : List Int) (l3 : List S51) (h1 : l1.length < 9223372036854775807) (h2 : l2.length < 9223372036854775807) (h3 : l3.length < 9223372036854775807) : Ev (fun k => impl_LettersOf.f k n l1 l2 l3) (lettersOf (av n l1 l2 l3) l3) := by
  simp only [impl_LettersOf.f, Option.bind_some]
  refine impl_LettersOf_one (o := bE) (c := bA) (i := 0) (j := 1) h1 h2 h3 (by omega) (by rw [w64 (by omega) (by omega)]; rfl) rfl (by decide) ?_
  refine impl_LettersOf_one (c := bB) (i := 1) (j := 2) h1 h2 h3 (by omega) (by rw [w64 (by omega) (by omega)]; rfl) rfl (by split <;> decide) ?_
  refine Ev.step (fun k => rfl) ?_
  simp only [impl_LettersOf.l0, if_neg (show ¬ (2 : Int) < 2 by omega)]
  refine ev_to (Ev.now _) ?_
  rw [app_ite, app_ite]
  unfold lettersOf
  rw [show bE ++ (if (av n l1 l2 l3 && hasL bA l3) = true then bA else bE) = (if (av n l1 l2 l3 && hasL bA l3) = true then bA else bE) from ByteArray.empty_append]
theorem FnExactLettersOf : laws_FnExactLettersOf.Pure := by
  intro n l1 l2 l3 _ h1 _ h2 _ h3 hx
  unfold maxLen at h1 h2 h3 hx
  refine Ev.rounds ?_
  simp only [laws_FnExactLettersOf.f]
  obtain ⟨r, hr, hm, hl⟩ := laws_szAutomaton_ev n l1 l2 l3 (by omega) (by omega) (by omega) (fun x hh => by have := (hx x hh).2.1; omega)
  refine Ev.bind hr ?_
  by_cases c : r < 0
  · simp only [if_pos c]
    exact Ev.now _
  · simp only [if_neg c]
    have hl := hl (by omega)
    have ht := laws_toAutomaton_ev n l1 l2 l3 (by omega) (by omega) (by omega)
    refine Ev.bind ht (Ev.bind (spec_LettersOf_ev n l1 l2 (l3.map ofL) (by omega) (by omega) (by rw [List.length_map]; omega)) (Ev.bind ht (Ev.bind (impl_LettersOf_ev n l1 l2 (l3.map ofL) (by omega) (by omega) (by rw [List.length_map]; omega)) ?_)))
    simp only [if_true]
    refine Ev.bind ht (Ev.bind (laws_eqAutomaton_self n l1 l2 (l3.map ofL) (by omega) (by omega) (by rw [List.length_map]; omega)) ?_)
    simp only [if_true]
    exact Ev.now _

end Go.Proofs.Ytejnpldoakgadaa.Pure
