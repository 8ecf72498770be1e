/- The pure statement of FnExactUsefulOf: the printed functions answer true at every input that can be read. -/
import Derived.Test.YtojfbgegankddaaPGRx18
set_option linter.unusedVariables false
set_option linter.unusedSimpArgs false
namespace Go.Proofs.Ytojfbgegankddaa.Pure
open Go.RowKit Go.Proofs.Ytojfbgegankddaa.PGR Go.Proofs.YtojfbgegankddaaW.PrintWords Go.Proofs.YtojfbgegankddaaW.PrintLast Go.Proofs.YtojfbgegankddaaW.PrintMore

theorem w64 {x : Int} (h0 : -9223372036854775808 ≤ x) (h1 : x ≤ 9223372036854775807) : wrap64 x = x := by unfold wrap64; omega
theorem cast0 : ((0 : Nat) : Int) = 0 := rfl
theorem w64n {i : Nat} (h : i < 9223372036854775807) : wrap64 ((i : Int) + 1) = ((i + 1 : Nat) : Int) := by rw [w64 (by omega) (by omega)]; omega
theorem rd_nat {l : List Int} {i : Nat} (h : i < l.length) : rd l (i : Int) = l[i] := by simp [rd, List.getD_eq_getElem?_getD, h]
theorem mn_eq (a b : Int) : mn a b = min a b := by unfold mn; split <;> omega
theorem mx_eq (a b : Int) : mx a b = max a b := by unfold mx; split <;> omega
theorem down (n : Nat) {P : Nat → Prop} (h0 : P n) (hs : ∀ i, i < n → P (i + 1) → P i) : ∀ i, i ≤ n → P i := by
  have h : ∀ d i, i + d = n → P i := by
    intro d
    induction d with
    | zero => intro i hi; obtain rfl : i = n := by omega
              exact h0
    | succ d ih => intro i hi; exact hs i (by omega) (ih (i + 1) (by omega))
  exact fun i hi => h (n - i) i (by omega)
theorem ev_to {α : Type} {g : Nat → Option α} {r r' : α} (h : Ev g r) (e : r = r') : Ev g r' := e ▸ h
theorem dropc {α : Type} {l : List α} {i : Nat} (h : i < l.length) : l.drop i = l[i] :: l.drop (i + 1) := List.drop_eq_getElem_cons h
theorem dropn {α : Type} (l : List α) : l.drop l.length = [] := List.drop_eq_nil_of_le (Nat.le_refl _)
theorem wf64 {x : Int} (h : (Lit.int .i64 x).wf = true) : -9223372036854775808 ≤ x ∧ x ≤ 9223372036854775807 := by
  simp [Lit.wf, IntKind.min, IntKind.max, IntKind.signed, IntKind.bits] at h
  omega
theorem wf8 {x : Int} (h : (Lit.int .u8 x).wf = true) : 0 ≤ x ∧ x ≤ 255 := by
  simp [Lit.wf, IntKind.min, IntKind.max, IntKind.signed, IntKind.bits] at h
  omega
theorem nnc (q : Nat) : (0 : Int) ≤ (q : Int) := Int.natCast_nonneg q
theorem ltc {a b : Nat} (h : a < b) : (a : Int) < (b : Int) := Int.ofNat_lt.2 h
theorem laws_toIntS_ev (l : List Int) (hl : l.length ≤ 35184372088832) : Ev (fun k => laws_toIntS.f k l) l := by
  have h := down l.length (P := fun i => ∀ out : List Int, out.length = l.length → out.take i = l.take i → Ev (fun k => laws_toIntS.l0 k l out (i : Int)) l) ?_ ?_ 0 (by omega) (List.replicate l.length 0) (by simp) (by simp)
  · simpa only [laws_toIntS.f, if_pos (show (0 : Int) ≤ (l.length : Int) by omega), Int.toNat_natCast, if_pos hl, cast0] using h
  · intro out ho ht
    refine Ev.step (fun k => rfl) ?_
    simp only [laws_toIntS.l0, if_neg (show ¬ (l.length : Int) < (l.length : Int) by omega)]
    refine ev_to (Ev.now _) ?_
    rw [List.take_length, ← ho, List.take_length] at ht
    exact ht
  · intro i hi ih out ho ht
    refine Ev.step (fun k => rfl) ?_
    simp only [laws_toIntS.l0, if_pos (show (i : Int) < (l.length : Int) by omega), if_pos (show (0 : Int) ≤ (i : Int) by omega), if_pos (show (i : Int) < (out.length : Int) by omega), rd_nat hi, w64n (show i < 9223372036854775807 by omega), Int.toNat_natCast]
    refine ih _ (by simpa using ho) ?_
    rw [List.take_succ_eq_append_getElem hi, List.take_succ_eq_append_getElem (by simpa [ho] using hi)]
    rw [List.getElem_set_self, List.take_set, ht, List.set_eq_of_length_le (by simp; omega)]
theorem laws_eqIntS_ev (a b : List Int) (hl : a.length < 9223372036854775807) : Ev (fun k => laws_eqIntS.f k a b) (decide (a = b)) := by
  by_cases hab : a.length = b.length
  · have h := down a.length (P := fun i => Ev (fun k => laws_eqIntS.l0 k a b (i : Int)) (decide (a.drop i = b.drop i))) ?_ ?_ 0 (by omega)
    · simpa only [laws_eqIntS.f, if_pos (show (a.length : Int) = (b.length : Int) by omega), List.drop_zero, cast0] using h
    · refine Ev.step (fun k => rfl) ?_
      simp only [laws_eqIntS.l0, if_neg (show ¬ (a.length : Int) < (a.length : Int) by omega)]
      exact ev_to (Ev.now _) (by rw [dropn, hab, dropn]; rfl)
    · intro i hi ih
      have hi' : i < b.length := by omega
      refine Ev.step (fun k => rfl) ?_
      simp only [laws_eqIntS.l0, if_pos (show (i : Int) < (a.length : Int) by omega), if_pos (show (0 : Int) ≤ (i : Int) by omega), if_pos (show (i : Int) < (b.length : Int) by omega), rd_nat hi, rd_nat hi', w64n (show i < 9223372036854775807 by omega), dropc hi, dropc hi']
      by_cases e : a[i] = b[i]
      · simp only [if_pos e]
        exact ev_to ih (by simp only [List.cons.injEq, e, true_and])
      · simp only [if_neg e]
        exact ev_to (Ev.now false) (by simp only [List.cons.injEq, e, false_and, decide_false])
  · simp only [laws_eqIntS.f, if_neg (show ¬ (a.length : Int) = (b.length : Int) by omega)]
    exact ev_to (Ev.now _) (by rw [eq_comm, decide_eq_false_iff_not]; exact fun e => hab (by rw [e]))
theorem rdI_nat {l : List S32} {i : Nat} (h : i < l.length) : rd_T32 l (i : Int) = l[i] := by simp [rd_T32, List.getD_eq_getElem?_getD, h]
theorem rdL_nat {l : List S93} {i : Nat} (h : i < l.length) : rd_T93 l (i : Int) = l[i] := by simp [rd_T93, List.getD_eq_getElem?_getD, h]
/-- A step of the laws as one of the program. -/
def ofL (x : S93) : S32 := ⟨x.f0, x.f1, x.f2, x.f3⟩
theorem laws_szIntS_eq (l : List Int) (hl : l.length ≤ 9223372036854775807) (m : Int) (h0 : 0 ≤ m) (h1 : m ≤ 1048576) : laws_szIntS.f l m = some (if m - l.length < 0 then -1 else m - l.length) := by
  have e : wrap64 (m - (l.length : Int)) = m - l.length := w64 (by omega) (by omega)
  simp only [laws_szIntS.f, e]
  split <;> rfl
theorem laws_szStep_eq (a : Int) (b : ByteArray) (c d : Int) (hb : b.size ≤ 9223372036854775807) (m : Int) (h0 : 0 ≤ m) (h1 : m ≤ 1048576) : laws_szStep.f a b c d m = some (if m - b.size < 0 then -1 else m - b.size) := by
  have e : wrap64 (m - (b.size : Int)) = m - b.size := w64 (by omega) (by omega)
  simp only [laws_szStep.f, e]
  split <;> rfl
theorem laws_szStepS_ev (l : List S93) (hl : l.length ≤ 9223372036854775807) (hs : ∀ x ∈ l, x.f1.size ≤ 9223372036854775807) (m : Int) (h0 : 0 ≤ m) (h1 : m ≤ 1048576) : ∃ r, Ev (fun k => laws_szStepS.f k l m) r ∧ r ≤ m ∧ (0 ≤ r → (l.length : Int) ≤ m) := by
  have h := down l.length (P := fun i => ∀ q : Int, 0 ≤ q → q ≤ 1048576 → ∃ r, Ev (fun k => laws_szStepS.l0 k l q (i : Int)) r ∧ r ≤ q) ?_ ?_ 0 (by omega)
  · have e : wrap64 (m - (l.length : Int)) = m - l.length := w64 (by omega) (by omega)
    simp only [laws_szStepS.f, e]
    by_cases hh : m - (l.length : Int) < 0
    · simp only [if_pos hh]
      exact ⟨-1, Ev.now _, by omega, by omega⟩
    · simp only [if_neg hh]
      obtain ⟨r, hr, hq⟩ := h (m - l.length) (by omega) (by omega)
      exact ⟨r, hr, by omega, by omega⟩
  · intro q _ _
    refine ⟨q, Ev.step (fun k => rfl) ?_, by omega⟩
    simp only [laws_szStepS.l0, if_neg (show ¬ (l.length : Int) < (l.length : Int) by omega)]
    exact Ev.now _
  · intro i hi ih q q0 q1
    have hsz := hs _ (List.getElem_mem hi)
    by_cases hh : q - (l[i].f1.size : Int) < 0
    · refine ⟨-1, Ev.step (fun k => rfl) ?_, by omega⟩
      simp only [laws_szStepS.l0, if_pos (show (i : Int) < (l.length : Int) by omega), if_pos (nnc i), rdL_nat hi, laws_szStep_eq _ _ _ _ hsz q q0 q1, Option.bind_some, if_pos hh, if_pos (show (-1 : Int) < 0 by omega)]
      exact Ev.now _
    · obtain ⟨r, hr, hrq⟩ := ih (q - l[i].f1.size) (by omega) (by omega)
      refine ⟨r, Ev.step (fun k => rfl) ?_, by omega⟩
      simp only [laws_szStepS.l0, if_pos (show (i : Int) < (l.length : Int) by omega), if_pos (nnc i), rdL_nat hi, laws_szStep_eq _ _ _ _ hsz q q0 q1, Option.bind_some, if_neg hh, w64n (show i < 9223372036854775807 by omega)]
      exact hr
theorem laws_szAutomaton_ev (n : Int) (l1 l2 : List Int) (l3 : List S93) (h1 : l1.length ≤ 9223372036854775807) (h2 : l2.length ≤ 9223372036854775807) (h3 : l3.length ≤ 9223372036854775807) (hs : ∀ x ∈ l3, x.f1.size ≤ 9223372036854775807) :
    ∃ r, Ev (fun k => laws_szAutomaton.f k n l1 l2 l3 1048576) r ∧ r ≤ 1048576 ∧ (0 ≤ r → l1.length ≤ 1048576 ∧ l2.length ≤ 1048576 ∧ l3.length ≤ 1048576) := by
  simp only [laws_szAutomaton.f, laws_szIntS_eq l1 h1 1048576 (by omega) (by omega), Option.bind_some]
  by_cases c1 : 1048576 - (l1.length : Int) < 0
  · simp only [if_pos c1, if_pos (show (-1 : Int) < 0 by omega)]
    exact ⟨-1, Ev.now _, by omega, by omega⟩
  · simp only [if_neg c1, laws_szIntS_eq l2 h2 (1048576 - (l1.length : Int)) (by omega) (by omega), Option.bind_some]
    by_cases c2 : 1048576 - (l1.length : Int) - (l2.length : Int) < 0
    · simp only [if_pos c2, if_pos (show (-1 : Int) < 0 by omega)]
      exact ⟨-1, Ev.now _, by omega, by omega⟩
    · simp only [if_neg c2]
      obtain ⟨r, hr, hq, hl⟩ := laws_szStepS_ev l3 h3 hs (1048576 - (l1.length : Int) - (l2.length : Int)) (by omega) (by omega)
      by_cases c3 : r < 0
      · refine ⟨-1, Ev.bind hr ?_, by omega, by omega⟩
        simp only [if_pos c3]
        exact Ev.now _
      · refine ⟨r, Ev.bind hr ?_, by omega, fun _ => by omega⟩
        simp only [if_neg c3]
        exact Ev.now _
theorem laws_toStepS_ev (l : List S93) (hl : l.length ≤ 7036874417766) : Ev (fun k => laws_toStepS.f k l) (l.map ofL) := by
  have h := down l.length (P := fun i => ∀ out : List S32, out.length = l.length → out.take i = (l.map ofL).take i → Ev (fun k => laws_toStepS.l0 k l out (i : Int)) (l.map ofL)) ?_ ?_ 0 (by omega) (List.replicate l.length z32) (by simp) (by simp)
  · simpa only [laws_toStepS.f, if_pos (show (0 : Int) ≤ (l.length : Int) by omega), Int.toNat_natCast, if_pos hl, cast0] using h
  · intro out ho ht
    refine Ev.step (fun k => rfl) ?_
    simp only [laws_toStepS.l0, if_neg (show ¬ (l.length : Int) < (l.length : Int) by omega)]
    refine ev_to (Ev.now _) ?_
    rw [show l.length = (l.map ofL).length by simp, List.take_length] at ht
    rw [← ht, List.length_map, ← ho, List.take_length]
  · intro i hi ih out ho ht
    refine Ev.step (fun k => rfl) ?_
    simp only [laws_toStepS.l0, if_pos (show (i : Int) < (l.length : Int) by omega), if_pos (show (0 : Int) ≤ (i : Int) by omega), rdL_nat hi, laws_toStep.f, Option.bind_some, if_pos (show (i : Int) < (out.length : Int) by omega), w64n (show i < 9223372036854775807 by omega), Int.toNat_natCast]
    refine ih _ (by simpa using ho) ?_
    rw [List.take_succ_eq_append_getElem (l := l.map ofL) (show i < (l.map ofL).length by simpa using hi), List.take_succ_eq_append_getElem (by simpa [ho] using hi)]
    rw [List.getElem_set_self, List.take_set, ht, List.set_eq_of_length_le (by simp; omega), List.getElem_map]
    rfl
theorem laws_toAutomaton_ev (n : Int) (l1 l2 : List Int) (l3 : List S93) (h1 : l1.length ≤ 35184372088832) (h2 : l2.length ≤ 35184372088832) (h3 : l3.length ≤ 7036874417766) : Ev (fun k => laws_toAutomaton.f k n l1 l2 l3) (n, l1, l2, l3.map ofL) := by
  simp only [laws_toAutomaton.f]
  exact Ev.bind (laws_toIntS_ev l1 h1) (Ev.bind (laws_toIntS_ev l2 h2) (Ev.bind (laws_toStepS_ev l3 h3) (Ev.now _)))
theorem laws_eqStepS_self (l : List S32) (hl : l.length < 9223372036854775807) : Ev (fun k => laws_eqStepS.f k l l) true := by
  have h := down l.length (P := fun i => Ev (fun k => laws_eqStepS.l0 k l l (i : Int)) true) ?_ ?_ 0 (by omega)
  · simpa only [laws_eqStepS.f, if_true, cast0] using h
  · refine Ev.step (fun k => rfl) ?_
    simp only [laws_eqStepS.l0, if_neg (show ¬ (l.length : Int) < (l.length : Int) by omega)]
    exact Ev.now _
  · intro i hi ih
    refine Ev.step (fun k => rfl) ?_
    simp only [laws_eqStepS.l0, if_pos (show (i : Int) < (l.length : Int) by omega), if_pos (nnc i), laws_eqStep.f, if_true, Option.bind_some, w64n (show i < 9223372036854775807 by omega)]
    exact ih
theorem laws_eqAutomaton_self (n : Int) (l1 l2 : List Int) (l3 : List S32) (h1 : l1.length < 9223372036854775807) (h2 : l2.length < 9223372036854775807) (h3 : l3.length < 9223372036854775807) : Ev (fun k => laws_eqAutomaton.f k n l1 l2 l3 n l1 l2 l3) true := by
  simp only [laws_eqAutomaton.f, if_true]
  refine Ev.bind (laws_eqIntS_ev l1 l1 h1) ?_
  simp only [decide_true, if_true]
  refine Ev.bind (laws_eqIntS_ev l2 l2 h2) ?_
  simp only [decide_true, if_true]
  refine Ev.bind (laws_eqStepS_self l3 h3) ?_
  simp only [if_true]
  exact Ev.now _
/-- p at each place from i on, below n. -/
def allFrom (p : Nat → Bool) (n i : Nat) : Bool := (List.range n).all fun j => decide (j < i) || p j
theorem allFrom_iff {p : Nat → Bool} {n i : Nat} : allFrom p n i = true ↔ ∀ j, i ≤ j → j < n → p j = true := by
  simp only [allFrom, List.all_eq_true, List.mem_range, Bool.or_eq_true, decide_eq_true_eq]
  constructor
  · intro h j h1 h2
    rcases h j h2 with e | e
    · omega
    · exact e
  · intro h j h2
    by_cases e : j < i
    · exact Or.inl e
    · exact Or.inr (h j (by omega) h2)
theorem allFrom_end (p : Nat → Bool) (n : Nat) : allFrom p n n = true := allFrom_iff.2 fun j h1 h2 => absurd h2 (by omega)
theorem allFrom_step {p : Nat → Bool} {n i : Nat} (h : i < n) : allFrom p n i = (p i && allFrom p n (i + 1)) := by
  rw [Bool.eq_iff_iff, Bool.and_eq_true, allFrom_iff, allFrom_iff]
  constructor
  · intro hh
    exact ⟨hh i (by omega) h, fun j h1 h2 => hh j (by omega) h2⟩
  · rintro ⟨h1, h2⟩ j h3 h4
    by_cases e : i = j
    · subst e; exact h1
    · exact h2 j (by omega) h4
/-- The number at this place of a list of states fits. -/
def ascAt (n : Int) (l : List Int) (j : Nat) : Bool := decide (0 ≤ rd l j) && (decide (rd l j < n) && (decide (j = 0) || decide (rd l ((j - 1 : Nat) : Int) < rd l j)))
/-- States in ascending order. -/
def asc (n : Int) (l : List Int) : Bool := allFrom (ascAt n l) l.length 0
theorem pred_w {i : Nat} (h : 0 < i) (h2 : i < 9223372036854775807) : wrap64 ((i : Int) - 1) = ((i - 1 : Nat) : Int) := by rw [w64 (by omega) (by omega)]; omega
theorem asc_iff {n : Int} {l : List Int} : asc n l = true ↔ ∀ j, j < l.length → 0 ≤ rd l j ∧ rd l j < n ∧ (0 < j → rd l ((j - 1 : Nat) : Int) < rd l j) := by
  simp only [asc, allFrom_iff, ascAt, Bool.and_eq_true, Bool.or_eq_true, decide_eq_true_eq]
  constructor
  · intro h j hj
    have := h j (by omega) hj
    exact ⟨this.1, this.2.1, fun h0 => by omega⟩
  · intro h j _ hj
    have := h j hj
    refine ⟨this.1, this.2.1, ?_⟩
    by_cases e : j = 0
    · exact Or.inl e
    · exact Or.inr (this.2.2 (by omega))
theorem spec_l1In_eq (a b c : Int) : spec_l1In.f a b c = some (decide (b ≤ a ∧ a ≤ c)) := by
  unfold spec_l1In.f
  split <;> simp <;> omega
def sA (b : ByteArray) : Bool := decide (b.toList = [97])
def sB (b : ByteArray) : Bool := decide (b.toList = [98])
/-- A step that fits so many states. -/
def sOk (n : Int) (s : S32) : Bool := decide (0 ≤ s.f0 ∧ s.f0 < n ∧ 0 ≤ s.f2 ∧ s.f2 < n ∧ 0 ≤ s.f3 ∧ s.f3 ≤ 3) && (sA s.f1 || sB s.f1)
/-- One step is in front of another one. -/
def sLt (s t : S32) : Bool := if s.f0 = t.f0 then (if s.f1.toList = t.f1.toList then decide (s.f2 < t.f2) else Op.bytesLess s.f1.toList t.f1.toList) else decide (s.f0 < t.f0)
def sAt (n : Int) (l : List S32) (j : Nat) : Bool := sOk n (rd_T32 l j) && (decide (j = 0) || sLt (rd_T32 l ((j - 1 : Nat) : Int)) (rd_T32 l j))
/-- Steps that fit so many states, in order. -/
def stepsOk (n : Int) (l : List S32) : Bool := allFrom (sAt n l) l.length 0
/-- An automaton is valid. -/
def av (n : Int) (l1 l2 : List Int) (l3 : List S32) : Bool := decide (1 ≤ n ∧ n ≤ 4) && (asc n l1 && (asc n l2 && (decide (l3.length ≤ 24) && stepsOk n l3)))
theorem spec_l3Step_eq {n : Int} (h1 : 1 ≤ n) (h4 : n ≤ 4) (s : S32) : spec_l3Step.f n s.f0 s.f1 s.f2 s.f3 = some (sOk n s) := by
  have e : wrap64 (n - 1) = n - 1 := w64 (by omega) (by omega)
  simp only [spec_l3Step.f, spec_l1In_eq, Option.bind_some, e, sOk, sA, sB]
  by_cases c0 : 0 ≤ s.f0 ∧ s.f0 ≤ n - 1
  · rw [if_pos (by simpa using c0)]
    by_cases c1 : 0 ≤ s.f2 ∧ s.f2 ≤ n - 1
    · rw [if_pos (by simpa using c1)]
      by_cases c2 : 0 ≤ s.f3 ∧ s.f3 ≤ 3
      · rw [if_pos (by simpa using c2), show decide (0 ≤ s.f0 ∧ s.f0 < n ∧ 0 ≤ s.f2 ∧ s.f2 < n ∧ 0 ≤ s.f3 ∧ s.f3 ≤ 3) = true by simp; omega]
        by_cases c3 : s.f1.toList = [97]
        · simp [c3]
        · rw [if_neg c3]
          simp only [c3, decide_false, Bool.true_and, Bool.false_or]
          congr 1
          by_cases c4 : s.f1.toList = [98] <;> simp [c4]
      · rw [if_neg (by simpa using c2), show decide (0 ≤ s.f0 ∧ s.f0 < n ∧ 0 ≤ s.f2 ∧ s.f2 < n ∧ 0 ≤ s.f3 ∧ s.f3 ≤ 3) = false by simp; omega]
        rfl
    · rw [if_neg (by simpa using c1), show decide (0 ≤ s.f0 ∧ s.f0 < n ∧ 0 ≤ s.f2 ∧ s.f2 < n ∧ 0 ≤ s.f3 ∧ s.f3 ≤ 3) = false by simp; omega]
      rfl
  · rw [if_neg (by simpa using c0), show decide (0 ≤ s.f0 ∧ s.f0 < n ∧ 0 ≤ s.f2 ∧ s.f2 < n ∧ 0 ≤ s.f3 ∧ s.f3 ≤ 3) = false by simp; omega]
    rfl
theorem spec_l3Before_eq (s t : S32) : spec_l3Before.f s.f0 s.f1 s.f2 s.f3 t.f0 t.f1 t.f2 t.f3 = some (sLt s t) := by
  simp only [spec_l3Before.f, sLt]
  split
  · split <;> rfl
  · rfl
theorem impl_statesOk_ev (n : Int) (l : List Int) (hl : l.length < 9223372036854775807) : Ev (fun k => impl_statesOk.f k l n) (asc n l) := by
  have h := down l.length (P := fun i => Ev (fun k => impl_statesOk.l0 k l n l (l.length : Int) (i : Int)) (allFrom (ascAt n l) l.length i)) ?_ ?_ 0 (by omega)
  · simpa only [impl_statesOk.f, asc, cast0] using h
  · refine Ev.step (fun k => rfl) ?_
    simp only [impl_statesOk.l0, if_neg (show ¬ (l.length : Int) < (l.length : Int) by omega), allFrom_end]
    exact Ev.now _
  · intro i hi ih
    refine Ev.step (fun k => rfl) ?_
    simp only [impl_statesOk.l0, if_pos (show (i : Int) < (l.length : Int) by omega), if_pos (nnc i), w64n (show i < 9223372036854775807 by omega)]
    rw [allFrom_step hi]
    by_cases ha : rd l i < 0
    · simp only [if_pos ha]
      exact ev_to (Ev.now _) (by simp [ascAt, show ¬ 0 ≤ rd l i by omega])
    · simp only [if_neg ha]
      by_cases hb : rd l i ≥ n
      · simp only [if_pos hb]
        exact ev_to (Ev.now _) (by simp [ascAt, show ¬ rd l i < n by omega])
      · simp only [if_neg hb]
        by_cases h0 : i = 0
        · subst h0
          simp only [cast0, if_neg (show ¬ (0 : Int) > 0 by omega)]
          exact ev_to ih (by simp [ascAt, show (0 : Int) ≤ rd l 0 by simp at ha; omega, show rd l 0 < n by simp at hb; omega])
        · simp only [if_pos (show (i : Int) > 0 by omega), pred_w (show 0 < i by omega) (show i < 9223372036854775807 by omega), if_pos (nnc (i - 1)), if_pos (show ((i - 1 : Nat) : Int) < (l.length : Int) by omega)]
          by_cases hc : rd l ((i - 1 : Nat) : Int) ≥ rd l i
          · simp only [if_pos hc]
            exact ev_to (Ev.now _) (by simp [ascAt, h0, show ¬ rd l ((i - 1 : Nat) : Int) < rd l i by omega])
          · simp only [if_neg hc]
            exact ev_to ih (by simp [ascAt, show 0 ≤ rd l i by omega, show rd l i < n by omega, show rd l ((i - 1 : Nat) : Int) < rd l i by omega])
theorem cmp_bytes : ∀ a b : List UInt8, Lib.compareBytes a b = if a = b then 0 else if Op.bytesLess a b then -1 else 1
  | [], [] => by simp [Lib.compareBytes]
  | [], _ :: _ => by simp [Lib.compareBytes, Op.bytesLess]
  | _ :: _, [] => by simp [Lib.compareBytes, Op.bytesLess]
  | x :: a, y :: b => by
    have ih := cmp_bytes a b
    simp only [Lib.compareBytes, Op.bytesLess]
    by_cases h1 : x < y
    · have hne : x ≠ y := fun e => by subst e; exact absurd h1 (UInt8.lt_irrefl x)
      simp [h1, hne]
    · by_cases h2 : y < x
      · have hne : x ≠ y := fun e => by subst e; exact absurd h2 (UInt8.lt_irrefl x)
        simp [h1, h2, hne]
      · have e : x = y := UInt8.le_antisymm (UInt8.not_lt.1 h2) (UInt8.not_lt.1 h1)
        subst e
        simp [h1, ih]
def cmpI (a b : Int) : Int := if a < b then -1 else if b < a then 1 else 0
theorem cmp_Compare_eq (a b : Int) : cmp_Compare_int.f a b = some (cmpI a b) := by
  simp only [cmp_Compare_int.f, cmp_isNaN_int.f, Option.bind_some, bne_self_eq_false, Bool.false_eq_true, if_false, cmpI]
  split
  · rfl
  · split <;> rfl
def ordS (s t : S32) : Int := if cmpI s.f0 t.f0 ≠ 0 then cmpI s.f0 t.f0 else if Lib.compareBytes s.f1.data.toList t.f1.data.toList ≠ 0 then Lib.compareBytes s.f1.data.toList t.f1.data.toList else cmpI s.f2 t.f2
theorem cmp_Or_ev (a b c : Int) : Ev (fun k => cmp_Or_int.f k [a, b, c]) (if a ≠ 0 then a else if b ≠ 0 then b else c) := by
  simp only [cmp_Or_int.f]
  refine Ev.step (fun k => rfl) ?_
  simp only [cmp_Or_int.l0, List.length_cons, List.length_nil, show ((0 + 1 + 1 + 1 : Nat) : Int) = 3 from rfl, if_pos (show (0 : Int) < 3 by omega), if_pos (show (0 : Int) ≤ 0 by omega), show rd [a, b, c] 0 = a from rfl, show wrap64 (0 + 1) = 1 by rw [w64 (by omega) (by omega)]; rfl]
  by_cases ha : a = 0
  · simp only [if_pos ha, ne_eq, ha, not_true_eq_false, if_false]
    refine Ev.step (fun k => rfl) ?_
    simp only [cmp_Or_int.l0, List.length_cons, List.length_nil, show ((0 + 1 + 1 + 1 : Nat) : Int) = 3 from rfl, if_pos (show (1 : Int) < 3 by omega), if_pos (show (0 : Int) ≤ 1 by omega), show rd [0, b, c] 1 = b from rfl, show wrap64 (1 + 1) = 2 by rw [w64 (by omega) (by omega)]; rfl]
    by_cases hb : b = 0
    · simp only [if_pos hb, ne_eq, hb, not_true_eq_false, if_false]
      refine Ev.step (fun k => rfl) ?_
      simp only [cmp_Or_int.l0, List.length_cons, List.length_nil, show ((0 + 1 + 1 + 1 : Nat) : Int) = 3 from rfl, if_pos (show (2 : Int) < 3 by omega), if_pos (show (0 : Int) ≤ 2 by omega), show rd [0, 0, c] 2 = c from rfl, show wrap64 (2 + 1) = 3 by rw [w64 (by omega) (by omega)]; rfl]
      by_cases hc : c = 0
      · simp only [if_pos hc]
        refine Ev.step (fun k => rfl) ?_
        simp only [cmp_Or_int.l0, List.length_cons, List.length_nil, show ((0 + 1 + 1 + 1 : Nat) : Int) = 3 from rfl, if_neg (show ¬ (3 : Int) < 3 by omega)]
        exact ev_to (Ev.now _) hc.symm
      · simp only [if_neg hc]
        exact Ev.now _
    · simp only [if_neg hb, ne_eq, hb, not_false_eq_true, if_true]
      exact Ev.now _
  · simp only [if_neg ha, ne_eq, ha, not_false_eq_true, if_true]
    exact Ev.now _
theorem impl_stepOrder_ev (s t : S32) : Ev (fun k => impl_stepOrder.f k s.f0 s.f1 s.f2 s.f3 t.f0 t.f1 t.f2 t.f3) (ordS s t) := by
  simp only [impl_stepOrder.f, cmp_Compare_eq, strings_Compare.f, Option.bind_some]
  exact Ev.bind (cmp_Or_ev _ _ _) (Ev.now _)
theorem ordS_lt (s t : S32) : (ordS s t < 0) = (sLt s t = true) := by
  simp only [ordS, sLt, cmp_bytes, cmpI, Lib.toList_data]
  by_cases h0 : s.f0 = t.f0
  · rw [h0]
    simp only [Int.lt_irrefl, if_false, ne_eq, not_true_eq_false, if_true]
    by_cases h1 : s.f1.data.toList = t.f1.data.toList
    · simp only [if_pos h1, not_true_eq_false, if_false, decide_eq_true_eq]
      apply propext
      constructor
      · intro h
        split at h
        · assumption
        · split at h <;> omega
      · intro h
        rw [if_pos h]
        omega
    · simp only [if_neg h1]
      cases hb : Op.bytesLess s.f1.data.toList t.f1.data.toList <;> simp
  · simp only [if_neg h0]
    by_cases h1 : s.f0 < t.f0
    · simp [h1]
    · simp [h1, show t.f0 < s.f0 by omega]
theorem impl_AutomatonValid_steps {n : Int} (l1 l2 : List Int) (l3 : List S32) (h3 : l3.length < 9223372036854775807) : Ev (fun k => impl_AutomatonValid.l0 k l3 (l3.length : Int) 0 n l1 l2 l3) (stepsOk n l3) := by
  have h := down l3.length (P := fun i => Ev (fun k => impl_AutomatonValid.l0 k l3 (l3.length : Int) (i : Int) n l1 l2 l3) (allFrom (sAt n l3) l3.length i)) ?_ ?_ 0 (by omega)
  · simpa only [stepsOk, cast0] using h
  · refine Ev.step (fun k => rfl) ?_
    simp only [impl_AutomatonValid.l0, if_neg (show ¬ (l3.length : Int) < (l3.length : Int) by omega), allFrom_end]
    exact Ev.now _
  · intro i hi ih
    have hno : sOk n (rd_T32 l3 (i : Int)) = false → (sAt n l3 i && allFrom (sAt n l3) l3.length (i + 1)) = false := fun e => by simp [sAt, e]
    have hlast : sOk n (rd_T32 l3 (i : Int)) = true → Ev (fun k => if (i : Int) > 0 then (if 0 ≤ wrap64 ((i : Int) - 1) then (if wrap64 ((i : Int) - 1) < (l3.length : Int) then ((impl_stepOrder.f k (rd_T32 l3 (wrap64 ((i : Int) - 1))).f0 (rd_T32 l3 (wrap64 ((i : Int) - 1))).f1 (rd_T32 l3 (wrap64 ((i : Int) - 1))).f2 (rd_T32 l3 (wrap64 ((i : Int) - 1))).f3 (rd_T32 l3 (i : Int)).f0 (rd_T32 l3 (i : Int)).f1 (rd_T32 l3 (i : Int)).f2 (rd_T32 l3 (i : Int)).f3).bind fun t => if t ≥ 0 then some false else impl_AutomatonValid.l0 k l3 (l3.length : Int) ((i + 1 : Nat) : Int) n l1 l2 l3) else none) else none) else impl_AutomatonValid.l0 k l3 (l3.length : Int) ((i + 1 : Nat) : Int) n l1 l2 l3) (sAt n l3 i && allFrom (sAt n l3) l3.length (i + 1)) := by
      intro hs
      by_cases h0 : i = 0
      · subst h0
        simp only [cast0, if_neg (show ¬ (0 : Int) > 0 by omega)]
        exact ev_to ih (by simp only [cast0] at hs; simp [sAt, hs])
      · simp only [if_pos (show (i : Int) > 0 by omega), pred_w (show 0 < i by omega) (show i < 9223372036854775807 by omega), if_pos (nnc (i - 1)), if_pos (show ((i - 1 : Nat) : Int) < (l3.length : Int) by omega)]
        refine Ev.bind (impl_stepOrder_ev _ _) ?_
        have ho := ordS_lt (rd_T32 l3 ((i - 1 : Nat) : Int)) (rd_T32 l3 (i : Int))
        cases hb : sLt (rd_T32 l3 ((i - 1 : Nat) : Int)) (rd_T32 l3 (i : Int)) with
        | false =>
          rw [hb] at ho
          simp only [if_pos (show ordS (rd_T32 l3 ((i - 1 : Nat) : Int)) (rd_T32 l3 (i : Int)) ≥ 0 by simp at ho; omega)]
          exact ev_to (Ev.now _) (by simp [sAt, h0, hb])
        | true =>
          rw [hb] at ho
          simp only [eq_self_iff_true, eq_iff_iff, iff_true] at ho
          simp only [if_neg (show ¬ ordS (rd_T32 l3 ((i - 1 : Nat) : Int)) (rd_T32 l3 (i : Int)) ≥ 0 by omega)]
          exact ev_to ih (by simp [sAt, hs, hb])
    refine Ev.step (fun k => rfl) ?_
    simp only [impl_AutomatonValid.l0, if_pos (show (i : Int) < (l3.length : Int) by omega), if_pos (nnc i), w64n (show i < 9223372036854775807 by omega)]
    rw [allFrom_step hi]
    by_cases c0 : (rd_T32 l3 (i : Int)).f0 < 0
    · simp only [if_pos c0]
      exact ev_to (Ev.now _) (hno (by simp [sOk]; omega)).symm
    simp only [if_neg c0]
    by_cases c1 : (rd_T32 l3 (i : Int)).f0 ≥ n
    · simp only [if_pos c1]
      exact ev_to (Ev.now _) (hno (by simp [sOk]; omega)).symm
    simp only [if_neg c1]
    by_cases c2 : (rd_T32 l3 (i : Int)).f2 < 0
    · simp only [if_pos c2]
      exact ev_to (Ev.now _) (hno (by simp [sOk]; omega)).symm
    simp only [if_neg c2]
    by_cases c3 : (rd_T32 l3 (i : Int)).f2 ≥ n
    · simp only [if_pos c3]
      exact ev_to (Ev.now _) (hno (by simp [sOk]; omega)).symm
    simp only [if_neg c3]
    have hcost : ∀ hl : (sA (rd_T32 l3 (i : Int)).f1 || sB (rd_T32 l3 (i : Int)).f1) = true, ∀ {g : Nat → Option Bool}, (sOk n (rd_T32 l3 (i : Int)) = true → Ev g (sAt n l3 i && allFrom (sAt n l3) l3.length (i + 1))) → Ev (fun k => if (rd_T32 l3 (i : Int)).f3 < 0 then some false else if (rd_T32 l3 (i : Int)).f3 > 3 then some false else g k) (sAt n l3 i && allFrom (sAt n l3) l3.length (i + 1)) := by
      intro hl g hg
      by_cases c4 : (rd_T32 l3 (i : Int)).f3 < 0
      · simp only [if_pos c4]
        exact ev_to (Ev.now _) (hno (by simp [sOk]; omega)).symm
      simp only [if_neg c4]
      by_cases c5 : (rd_T32 l3 (i : Int)).f3 > 3
      · simp only [if_pos c5]
        exact ev_to (Ev.now _) (hno (by simp [sOk]; omega)).symm
      simp only [if_neg c5]
      refine hg ?_
      simp only [sOk, hl, Bool.and_true, decide_eq_true_eq]
      omega
    by_cases ca : (rd_T32 l3 (i : Int)).f1.toList = [97]
    · simp only [if_pos ca]
      exact hcost (by simp [sA, ca]) hlast
    · simp only [if_neg ca]
      by_cases cb : (rd_T32 l3 (i : Int)).f1.toList = [98]
      · simp only [if_pos cb]
        exact hcost (by simp [sB, cb]) hlast
      · simp only [if_neg cb]
        exact ev_to (Ev.now _) (hno (by simp [sOk, sA, sB, ca, cb])).symm
theorem impl_AutomatonValid_ev (n : Int) (l1 l2 : List Int) (l3 : List S32) (h1 : l1.length < 9223372036854775807) (h2 : l2.length < 9223372036854775807) (h3 : l3.length < 9223372036854775807) : Ev (fun k => impl_AutomatonValid.f k n l1 l2 l3) (av n l1 l2 l3) := by
  have hno : Ev (fun k => impl_AutomatonValid.j0 k true n l1 l2 l3) false := by
    refine Ev.step (fun k => rfl) ?_
    simp only [impl_AutomatonValid.j0, if_true]
    exact Ev.now _
  simp only [impl_AutomatonValid.f]
  by_cases c0 : n < 1
  · simp only [if_pos c0]
    exact ev_to hno (by simp only [av]; rw [show decide (1 ≤ n ∧ n ≤ 4) = false by simp; omega]; rfl)
  simp only [if_neg c0]
  by_cases c1 : n > 4
  · simp only [if_pos c1]
    exact ev_to hno (by simp only [av]; rw [show decide (1 ≤ n ∧ n ≤ 4) = false by simp; omega]; rfl)
  simp only [if_neg c1]
  by_cases c3 : (l3.length : Int) > 24
  · simp only [if_pos c3]
    exact ev_to hno (by simp [av, show ¬ l3.length ≤ 24 by omega])
  simp only [if_neg c3]
  refine Ev.bind (impl_statesOk_ev n l1 h1) ?_
  cases e1 : asc n l1 with
  | false =>
    simp only [Bool.false_eq_true, if_false]
    exact ev_to hno (by simp [av, e1])
  | true =>
    simp only [if_true]
    refine Ev.bind (impl_statesOk_ev n l2 h2) ?_
    cases e2 : asc n l2 with
    | false => exact ev_to hno (by simp [av, e2])
    | true =>
      simp only [Bool.not_true]
      refine Ev.step (fun k => rfl) ?_
      simp only [impl_AutomatonValid.j0, Bool.false_eq_true, if_false]
      exact ev_to (impl_AutomatonValid_steps l1 l2 l3 h3) (by simp [av, e1, e2, show 1 ≤ n by omega, show n ≤ 4 by omega, show l3.length ≤ 24 by omega])
-- (r5) steps are in a strict order; two rows of the same steps, both in order, are the same.
theorem bl_irr : ∀ l, Op.bytesLess l l = false
  | [] => rfl
  | a :: x => by
    unfold Op.bytesLess
    simp [bl_irr x]
theorem bl_cons (a b : UInt8) (x y : List UInt8) : Op.bytesLess (a :: x) (b :: y) = true ↔ a.toNat < b.toNat ∨ (a = b ∧ Op.bytesLess x y = true) := by
  rw [show Op.bytesLess (a :: x) (b :: y) = (decide (a < b) || (a == b && Op.bytesLess x y)) from rfl]
  simp [UInt8.lt_iff_toNat_lt]
theorem bl_trans : ∀ x y z, Op.bytesLess x y = true → Op.bytesLess y z = true → Op.bytesLess x z = true
  | _, [], _, h, _ => by simp [Op.bytesLess] at h
  | _, _ :: _, [], _, h => by simp [Op.bytesLess] at h
  | [], _ :: _, _ :: _, _, _ => rfl
  | a :: x, b :: y, c :: z, h, k => by
    rw [bl_cons] at h k ⊢
    rcases h with h | ⟨rfl, h⟩
    · rcases k with k | ⟨rfl, k⟩
      · exact .inl (by omega)
      · exact .inl h
    · rcases k with k | ⟨rfl, k⟩
      · exact .inl k
      · exact .inr ⟨rfl, bl_trans x y z h k⟩
theorem bl_tri : ∀ x y, x = y ∨ Op.bytesLess x y = true ∨ Op.bytesLess y x = true
  | [], [] => .inl rfl
  | [], _ :: _ => .inr (.inl rfl)
  | _ :: _, [] => .inr (.inr rfl)
  | a :: x, b :: y => by
    rw [bl_cons, bl_cons]
    rcases Nat.lt_trichotomy a.toNat b.toNat with h | h | h
    · exact .inr (.inl (.inl h))
    · have e : a = b := UInt8.toNat_inj.1 h
      subst e
      rcases bl_tri x y with h | h | h
      · exact .inl (by rw [h])
      · exact .inr (.inl (.inr ⟨rfl, h⟩))
      · exact .inr (.inr (.inr ⟨rfl, h⟩))
    · exact .inr (.inr (.inl h))
/-- What two steps are told apart by. -/
def sameKey (s t : S32) : Prop := s.f0 = t.f0 ∧ s.f1.toList = t.f1.toList ∧ s.f2 = t.f2
theorem sLt_iff (s t : S32) : sLt s t = true ↔ s.f0 < t.f0 ∨ (s.f0 = t.f0 ∧ (Op.bytesLess s.f1.toList t.f1.toList = true ∨ (s.f1.toList = t.f1.toList ∧ s.f2 < t.f2))) := by
  unfold sLt
  by_cases h0 : s.f0 = t.f0
  · rw [if_pos h0]
    by_cases h1 : s.f1.toList = t.f1.toList
    · rw [if_pos h1, h1, bl_irr, decide_eq_true_iff]
      simp [h0]
    · rw [if_neg h1]
      simp [h0, h1]
  · rw [if_neg h0, decide_eq_true_iff]
    simp [h0]
theorem sLt_irr (s : S32) : sLt s s = false := by
  rw [Bool.eq_false_iff, ne_eq, sLt_iff, bl_irr]
  simp
theorem sLt_trans (s t u : S32) (h : sLt s t = true) (k : sLt t u = true) : sLt s u = true := by
  rw [sLt_iff] at h k ⊢
  rcases h with h | ⟨e, h⟩
  · rcases k with k | ⟨e', k⟩
    · exact .inl (by omega)
    · exact .inl (by omega)
  · rcases k with k | ⟨e', k⟩
    · exact .inl (by omega)
    · refine .inr ⟨e.trans e', ?_⟩
      rcases h with h | ⟨f, h⟩
      · rcases k with k | ⟨f', k⟩
        · exact .inl (bl_trans _ _ _ h k)
        · exact .inl (f' ▸ h)
      · rcases k with k | ⟨f', k⟩
        · exact .inl (f ▸ k)
        · exact .inr ⟨f.trans f', by omega⟩
theorem sLt_tri (s t : S32) : sameKey s t ∨ sLt s t = true ∨ sLt t s = true := by
  rw [sLt_iff, sLt_iff]
  rcases Int.lt_trichotomy s.f0 t.f0 with h | h | h
  · exact .inr (.inl (.inl h))
  · rcases bl_tri s.f1.toList t.f1.toList with k | k | k
    · rcases Int.lt_trichotomy s.f2 t.f2 with j | j | j
      · exact .inr (.inl (.inr ⟨h, .inr ⟨k, j⟩⟩))
      · exact .inl ⟨h, k, j⟩
      · exact .inr (.inr (.inr ⟨h.symm, .inr ⟨k.symm, j⟩⟩))
    · exact .inr (.inl (.inr ⟨h, .inl k⟩))
    · exact .inr (.inr (.inr ⟨h.symm, .inl k⟩))
  · exact .inr (.inr (.inl h))
theorem sLt_same {s t u v : S32} (h : sameKey s t) (k : sameKey u v) : sLt s u = sLt t v := by
  unfold sLt
  rw [h.1, h.2.1, h.2.2, k.1, k.2.1, k.2.2]
theorem sameKey.symm {s t : S32} (h : sameKey s t) : sameKey t s := ⟨h.1.symm, h.2.1.symm, h.2.2.symm⟩
theorem sLt_swo : Sort.SWO sLt where
  irrefl := sLt_irr
  trans := sLt_trans
  ntrans := fun x y z h k => by
    rcases sLt_tri x z with e | e | e
    · rw [sLt_same e ⟨rfl, rfl, rfl⟩]
      exact sLt_irr z
    · rcases sLt_tri x y with f | f | f
      · rw [sLt_same f ⟨rfl, rfl, rfl⟩] at e
        rw [e] at k
        cases k
      · rw [f] at h
        cases h
      · have := sLt_trans _ _ _ f e
        rw [this] at k
        cases k
    · rw [Bool.eq_false_iff]
      intro f
      have := sLt_trans _ _ _ e f
      rw [sLt_irr] at this
      cases this
/-- Strictly in order. -/
def inOrder (l : List S32) : Prop := l.Pairwise fun s t => sLt s t = true
theorem order_unique : ∀ (l m : List S32), inOrder l → inOrder m → (∀ x, x ∈ l ↔ x ∈ m) → l = m
  | [], [], _, _, _ => rfl
  | [], y :: m, _, _, h => absurd ((h y).2 List.mem_cons_self) List.not_mem_nil
  | x :: l, [], _, _, h => absurd ((h x).1 List.mem_cons_self) List.not_mem_nil
  | x :: l, y :: m, hl, hm, h => by
    obtain ⟨hx, hl'⟩ := List.pairwise_cons.1 hl
    obtain ⟨hy, hm'⟩ := List.pairwise_cons.1 hm
    have e : x = y := by
      rcases List.mem_cons.1 ((h x).1 List.mem_cons_self) with e | hxm
      · exact e
      · rcases List.mem_cons.1 ((h y).2 List.mem_cons_self) with e | hyl
        · exact e.symm
        · have := sLt_trans _ _ _ (hx y hyl) (hy x hxm)
          rw [sLt_irr] at this
          cases this
    subst e
    refine congrArg _ (order_unique l m hl' hm' fun z => ⟨fun hz => ?_, fun hz => ?_⟩)
    · rcases List.mem_cons.1 ((h z).1 (List.mem_cons_of_mem _ hz)) with e | hz'
      · subst e
        have := hx z hz
        rw [sLt_irr] at this
        cases this
      · exact hz'
    · rcases List.mem_cons.1 ((h z).2 (List.mem_cons_of_mem _ hz)) with e | hz'
      · subst e
        have := hy z hz
        rw [sLt_irr] at this
        cases this
      · exact hz'
/-- A step put into steps that are in order. -/
def insS (s : S32) : List S32 → List S32
  | [] => [s]
  | t :: l => if sLt t s = true then t :: insS s l else s :: t :: l
theorem insS_mem (s : S32) : ∀ (l : List S32) (x : S32), x ∈ insS s l ↔ x = s ∨ x ∈ l
  | [], x => by simp [insS]
  | t :: l, x => by
    unfold insS
    split
    · rw [List.mem_cons, insS_mem s l x, List.mem_cons]
      constructor
      · rintro (h | h | h)
        · exact .inr (.inl h)
        · exact .inl h
        · exact .inr (.inr h)
      · rintro (h | h | h)
        · exact .inr (.inl h)
        · exact .inl h
        · exact .inr (.inr h)
    · rw [List.mem_cons]
theorem insS_order {s : S32} : ∀ {l : List S32}, inOrder l → (∀ t ∈ l, ¬ sameKey s t) → inOrder (insS s l)
  | [], _, _ => List.pairwise_singleton _ _
  | t :: l, h, hn => by
    obtain ⟨ht, hl⟩ := List.pairwise_cons.1 h
    unfold insS
    split
    · rename_i c
      refine List.pairwise_cons.2 ⟨fun x hx => ?_, insS_order hl fun u hu => hn u (List.mem_cons_of_mem _ hu)⟩
      rcases (insS_mem s l x).1 hx with rfl | hx
      · exact c
      · exact ht x hx
    · rename_i c
      have hst : sLt s t = true := by
        rcases sLt_tri s t with e | e | e
        · exact absurd e (hn t List.mem_cons_self)
        · exact e
        · exact absurd e c
      refine List.pairwise_cons.2 ⟨fun x hx => ?_, h⟩
      rcases List.mem_cons.1 hx with rfl | hx
      · exact hst
      · exact sLt_trans _ _ _ hst (ht x hx)
theorem key_apart {l : List S32} (h : inOrder l) : l.Pairwise fun s t => ¬ sameKey s t := by
  refine h.imp fun {s t} hst hk => ?_
  rw [sLt_same hk ⟨rfl, rfl, rfl⟩, sLt_irr] at hst
  cases hst
/-- What a sort hands back, of steps that no two have the same key: the one row of them that is in order. -/
theorem sorted_eq [Inhabited S32] {l : List S32} {d : Array S32} (hn : l.Pairwise fun s t => ¬ sameKey s t) (hp : Sort.PermIn 0 l.length l.toArray d) (hs : Sort.SortedIn sLt 0 l.length d) {m : List S32} (hm : inOrder m) (hmem : ∀ x, x ∈ m ↔ x ∈ l) : d.toList = m := by
  obtain ⟨hz, _, hperm⟩ := hp
  have hz' : d.size = l.length := by simpa using hz
  have e1 : (d.extract 0 l.length).toList = d.toList := by
    rw [← hz', Array.extract_size]
  have e2 : (l.toArray.extract 0 l.length).toList = l := by simp
  rw [e1, e2] at hperm
  have hk : d.toList.Pairwise fun s t => ¬ sameKey s t := (hperm.pairwise_iff (fun h k => h k.symm)).2 hn
  refine order_unique _ _ ?_ hm fun x => by rw [hmem, hperm.mem_iff]
  refine List.pairwise_iff_getElem.2 fun i j hi hj hij => ?_
  have hi' : i < d.size := by simpa using hi
  have hj' : j < d.size := by simpa using hj
  have h1 := hs i j (Nat.zero_le _) hij (by omega)
  rw [getElem!_pos d j hj', getElem!_pos d i hi'] at h1
  have h2 := List.pairwise_iff_getElem.1 hk i j hi hj hij
  rw [Array.getElem_toList, Array.getElem_toList] at h2 ⊢
  rcases sLt_tri d[i] d[j] with e | e | e
  · exact absurd e h2
  · exact e
  · rw [e] at h1
    cases h1
/-- A step turned. -/
def revS (s : S32) : S32 := ⟨s.f2, s.f1, s.f0, s.f3⟩
theorem rev_key {s t : S32} (h : sameKey (revS s) (revS t)) : sameKey s t := ⟨h.2.2, h.2.1, h.1⟩
theorem rev_rev (s : S32) : revS (revS s) = s := rfl
/-- Steps put one by one into a row. -/
def insAll (l : List S32) (m : List S32) : List S32 := l.foldl (fun acc s => insS s acc) m
theorem insAll_mem : ∀ (l m : List S32) (x : S32), x ∈ insAll l m ↔ x ∈ l ∨ x ∈ m
  | [], m, x => by simp [insAll]
  | s :: l, m, x => by
    show x ∈ insAll l (insS s m) ↔ _
    rw [insAll_mem l, insS_mem, List.mem_cons]
    constructor
    · rintro (h | h | h)
      · exact .inl (.inr h)
      · exact .inl (.inl h)
      · exact .inr h
    · rintro ((h | h) | h)
      · exact .inr (.inl h)
      · exact .inl h
      · exact .inr (.inr h)
theorem insAll_order : ∀ (l m : List S32), inOrder m → (l.Pairwise fun s t => ¬ sameKey s t) → (∀ s ∈ l, ∀ t ∈ m, ¬ sameKey s t) → inOrder (insAll l m)
  | [], m, h, _, _ => h
  | s :: l, m, h, hl, hm => by
    obtain ⟨h1, h2⟩ := List.pairwise_cons.1 hl
    show inOrder (insAll l (insS s m))
    refine insAll_order l (insS s m) (insS_order h fun t ht => hm s List.mem_cons_self t ht) h2 fun u hu t ht => ?_
    rcases (insS_mem s m t).1 ht with rfl | ht
    · exact fun k => h1 u hu k.symm
    · exact hm u (List.mem_cons_of_mem _ hu) t ht
/-- The steps of the automaton turned, in order. -/
def revL (l : List S32) : List S32 := insAll (l.map revS) []
theorem rev_apart {l : List S32} (h : inOrder l) : (l.map revS).Pairwise fun s t => ¬ sameKey s t :=
  List.pairwise_map.2 ((key_apart h).imp fun {s t} hn hk => hn (rev_key hk))
theorem revL_order {l : List S32} (h : inOrder l) : inOrder (revL l) := insAll_order _ _ List.Pairwise.nil (rev_apart h) fun _ _ _ ht => (List.not_mem_nil ht).elim
theorem revL_mem (l : List S32) (x : S32) : x ∈ revL l ↔ revS x ∈ l := by
  unfold revL
  rw [insAll_mem, List.mem_map]
  constructor
  · rintro (⟨y, hy, rfl⟩ | h)
    · exact hy
    · exact (List.not_mem_nil h).elim
  · intro h
    exact .inl ⟨revS x, h, rfl⟩
theorem revL_sort [Inhabited S32] {l : List S32} {d : Array S32} (h : inOrder l) (hp : Sort.PermIn 0 (l.map revS).length (l.map revS).toArray d) (hs : Sort.SortedIn sLt 0 (l.map revS).length d) : d.toList = revL l :=
  sorted_eq (rev_apart h) hp hs (revL_order h) fun x => by
    rw [revL_mem, List.mem_map]
    exact ⟨fun hx => ⟨revS x, hx, rfl⟩, fun ⟨y, hy, e⟩ => by rw [← e]; exact hy⟩
/-- Turned twice it is what it was. -/
theorem revL_revL {l : List S32} (h : inOrder l) : revL (revL l) = l :=
  order_unique _ _ (revL_order (revL_order h)) h fun x => by rw [revL_mem, revL_mem, rev_rev]
/-- Steps in order that are sorted stay. -/
theorem sort_same [Inhabited S32] {l : List S32} {d : Array S32} (h : inOrder l) (hp : Sort.PermIn 0 l.length l.toArray d) (hs : Sort.SortedIn sLt 0 l.length d) : d.toList = l := sorted_eq (key_apart h) hp hs h fun _ => Iff.rfl
theorem filter_order {l : List S32} (h : inOrder l) (p : S32 → Bool) : inOrder (l.filter p) := h.filter p
/-- A cost: between 0 and 1000000. -/
def cv (a : Int) : Bool := decide (0 ≤ a ∧ a ≤ 1000000)
theorem cv_iff {a : Int} : cv a = true ↔ 0 ≤ a ∧ a ≤ 1000000 := by simp [cv]
/-- The sum of two costs, at most 1000000. -/
def addc (s a : Int) : Int := min (s + a) 1000000
theorem addc_bd {s a : Int} (h0 : 0 ≤ s) (h1 : 0 ≤ a) : 0 ≤ addc s a ∧ addc s a ≤ 1000000 := by unfold addc; omega
/-- A matrix: 1 to 4 rows, as many costs in each. -/
def mv (n : Int) (l : List Int) : Bool := decide (1 ≤ n ∧ n ≤ 4 ∧ (l.length : Int) = n * n) && l.all cv
theorem mv_iff {n : Int} {l : List Int} : mv n l = true ↔ (1 ≤ n ∧ n ≤ 4 ∧ (l.length : Int) = n * n) ∧ l.all cv = true := by simp [mv]
theorem sq_le {n : Int} (h1 : 1 ≤ n) (h2 : n ≤ 4) : 1 ≤ n * n ∧ n * n ≤ 16 := by
  obtain h | h | h | h : n = 1 ∨ n = 2 ∨ n = 3 ∨ n = 4 := by omega
  all_goals subst h; omega
/-- The cost in row i, column j. -/
def ent (n : Nat) (l : List Int) (i j : Nat) : Int := l.getD (i * n + j) 0
theorem rd_ent (n : Nat) (l : List Int) (i j : Nat) : rd l ((i * n + j : Nat) : Int) = ent n l i j := by
  show l.getD ((i * n + j : Nat) : Int).toNat 0 = _
  rw [Int.toNat_natCast]
  rfl
theorem idx_lt {n i j : Nat} (hi : i < n) (hj : j < n) : i * n + j < n * n := by
  have := Nat.mul_le_mul_right n (show i + 1 ≤ n from hi)
  rw [Nat.add_mul] at this
  omega
theorem sq16 {n : Nat} (h : n ≤ 4) : n * n ≤ 16 := Nat.mul_le_mul h h
theorem idx_wrap {n i j : Nat} (hn : n ≤ 4) (hi : i < n) (hj : j < n) : wrap64 ((wrap64 ((i : Int) * (n : Int))) + (j : Int)) = ((i * n + j : Nat) : Int) := by
  have h1 := idx_lt hi hj
  have h2 := sq16 hn
  have e : ((i * n + j : Nat) : Int) = (i : Int) * (n : Int) + (j : Int) := by rw [Int.natCast_add, Int.natCast_mul]
  have e2 : ((i * n : Nat) : Int) = (i : Int) * (n : Int) := Int.natCast_mul _ _
  rw [w64 (x := (i : Int) * (n : Int)) (by omega) (by omega), w64 (by omega) (by omega), e]
theorem div_idx {n i k : Nat} (hk : k < n) : (i * n + k) / n = i ∧ (i * n + k) % n = k := by
  constructor
  · rw [Nat.mul_comm, Nat.mul_add_div (by omega), Nat.div_eq_of_lt hk]; omega
  · rw [Nat.mul_comm, Nat.mul_add_mod, Nat.mod_eq_of_lt hk]
/-- The cells of a matrix, of what a function tells for each place. -/
def cells (n : Nat) (f : Nat → Nat → Int) : List Int := (List.range (n * n)).map fun t => f (t / n) (t % n)
/-- The first so many of them. -/
def cellsTo (n : Nat) (f : Nat → Nat → Int) (m : Nat) : List Int := (List.range m).map fun t => f (t / n) (t % n)
theorem cellsTo_len (n : Nat) (f : Nat → Nat → Int) (m : Nat) : (cellsTo n f m).length = m := by simp [cellsTo]
theorem cells_len (n : Nat) (f : Nat → Nat → Int) : (cells n f).length = n * n := by simp [cells]
theorem cellsTo_next (n : Nat) (f : Nat → Nat → Int) (m : Nat) : cellsTo n f m ++ [f (m / n) (m % n)] = cellsTo n f (m + 1) := by simp [cellsTo, List.range_succ]
theorem ent_cells {n : Nat} (f : Nat → Nat → Int) {i j : Nat} (hi : i < n) (hj : j < n) : ent n (cells n f) i j = f i j := by
  have h := idx_lt hi hj
  have hd := div_idx (i := i) hj
  rw [ent, cells, List.getD_eq_getElem?_getD, List.getElem?_map, List.getElem?_range h]
  simp [hd.1, hd.2]
theorem cells_ent {n : Nat} {l : List Int} (h : l.length = n * n) : cells n (ent n l) = l := by
  apply List.ext_getElem
  · rw [cells_len, h]
  · intro i h1 h2
    have e : i / n * n + i % n = i := by rw [Nat.mul_comm]; exact Nat.div_add_mod i n
    simp [cells, ent, e, h2]
theorem cells_congr {n : Nat} {f g : Nat → Nat → Int} (h : ∀ i j, i < n → j < n → f i j = g i j) : cells n f = cells n g := by
  apply List.map_congr_left
  intro t ht
  have ht : t < n * n := by simpa using ht
  have hn : 0 < n := by
    cases n with
    | zero => simp at ht
    | succ n => omega
  exact h _ _ (Nat.div_lt_of_lt_mul ht) (Nat.mod_lt _ hn)
theorem cells_all {n : Nat} {f : Nat → Nat → Int} (h : ∀ i j, i < n → j < n → cv (f i j) = true) : (cells n f).all cv = true := by
  rw [List.all_eq_true]
  intro x hx
  obtain ⟨t, ht, rfl⟩ := List.mem_map.1 hx
  have ht : t < n * n := by simpa using ht
  have hn : 0 < n := by
    cases n with
    | zero => simp at ht
    | succ n => omega
  exact h _ _ (Nat.div_lt_of_lt_mul ht) (Nat.mod_lt _ hn)
theorem mv_cells {n : Nat} (h0 : 1 ≤ n) (h1 : n ≤ 4) {f : Nat → Nat → Int} (h : ∀ i j, i < n → j < n → cv (f i j) = true) : mv (n : Int) (cells n f) = true := by
  rw [mv_iff]
  refine ⟨⟨by omega, by omega, ?_⟩, cells_all h⟩
  rw [cells_len, Int.natCast_mul]
theorem mv_nat {n : Int} {l : List Int} (h : mv n l = true) : ∃ m : Nat, n = (m : Int) ∧ 1 ≤ m ∧ m ≤ 4 ∧ l.length = m * m ∧ ∀ x ∈ l, cv x = true := by
  rw [mv_iff] at h
  obtain ⟨m, rfl⟩ := Int.eq_ofNat_of_zero_le (show 0 ≤ n by omega)
  have e := Int.natCast_mul m m
  exact ⟨m, rfl, by omega, by omega, by omega, by simpa using h.2⟩
theorem cv_ent {n : Nat} {l : List Int} (hl : l.length = n * n) (h : ∀ x ∈ l, cv x = true) {i j : Nat} (hi : i < n) (hj : j < n) : cv (ent n l i j) = true := by
  have hb := idx_lt hi hj
  have : ent n l i j = l[i * n + j]'(by omega) := by
    rw [ent, List.getD_eq_getElem?_getD, List.getElem?_eq_getElem (by omega)]
    rfl
  rw [this]
  exact h _ (List.getElem_mem _)
/-- The least of so many costs. -/
def dotTo (f : Nat → Int) (m : Nat) : Int := (List.range m).foldl (fun acc x => min acc (f x)) 1000000
theorem dotTo_next (f : Nat → Int) (m : Nat) : dotTo f (m + 1) = min (dotTo f m) (f m) := by simp [dotTo, List.range_succ]
theorem dotTo_zero (f : Nat → Int) : dotTo f 0 = 1000000 := rfl
theorem dotTo_bd {f : Nat → Int} : ∀ {m : Nat}, (∀ l, l < m → 0 ≤ f l) → 0 ≤ dotTo f m ∧ dotTo f m ≤ 1000000 := by
  intro m
  induction m with
  | zero => intro _; rw [dotTo_zero]; omega
  | succ m ih =>
    intro h
    have h1 := ih (fun l hl => h l (by omega))
    have h2 := h m (by omega)
    rw [dotTo_next]
    omega
def unitm (n : Nat) : List Int := cells n fun i j => if i = j then 0 else 1000000
def turnm (n : Nat) (a : List Int) : List Int := cells n fun i j => ent n a j i
def minm (n : Nat) (a b : List Int) : List Int := cells n fun i j => min (ent n a i j) (ent n b i j)
def mulm (n : Nat) (a b : List Int) : List Int := cells n fun i j => dotTo (fun l => addc (ent n a i l) (ent n b l j)) n
def two (n : Int) (a : List Int) (m : Int) (b : List Int) : Bool := mv n a && (mv m b && decide (n = m))
def unitR (n : Int) : Int × List Int × Bool := if 1 ≤ n ∧ n ≤ 4 then (n, unitm n.toNat, true) else (0, [], false)
def turnR (n : Int) (a : List Int) : Int × List Int × Bool := if mv n a then (n, turnm n.toNat a, true) else (0, [], false)
def minR (n : Int) (a : List Int) (m : Int) (b : List Int) : Int × List Int × Bool := if two n a m b then (n, minm n.toNat a b, true) else (0, [], false)
def mulR (n : Int) (a : List Int) (m : Int) (b : List Int) : Int × List Int × Bool := if two n a m b then (n, mulm n.toNat a b, true) else (0, [], false)
theorem two_iff {n m : Int} {a b : List Int} : two n a m b = true ↔ mv n a = true ∧ mv m b = true ∧ n = m := by simp [two]
theorem cv_bd {a : Int} (h : cv a = true) : 0 ≤ a ∧ a ≤ 1000000 := cv_iff.1 h
theorem cv_dot {n : Nat} {f : Nat → Int} (h : ∀ l, l < n → 0 ≤ f l) : cv (dotTo f n) = true := cv_iff.2 (dotTo_bd h)
theorem mv_mulm {n : Nat} (h1 : 1 ≤ n) (h4 : n ≤ 4) {a b : List Int} (hla : a.length = n * n) (hlb : b.length = n * n) (hca : ∀ x ∈ a, cv x = true) (hcb : ∀ x ∈ b, cv x = true) : mv (n : Int) (mulm n a b) = true :=
  mv_cells h1 h4 fun i j hi hj => cv_dot fun l hl => (addc_bd (cv_iff.1 (cv_ent hla hca hi hl)).1 (cv_iff.1 (cv_ent hlb hcb hl hj)).1).1
theorem mv_minm {n : Nat} (h1 : 1 ≤ n) (h4 : n ≤ 4) {a b : List Int} (hla : a.length = n * n) (hlb : b.length = n * n) (hca : ∀ x ∈ a, cv x = true) (hcb : ∀ x ∈ b, cv x = true) : mv (n : Int) (minm n a b) = true :=
  mv_cells h1 h4 fun i j hi hj => by
    have c1 := cv_iff.1 (cv_ent hla hca hi hj)
    have c2 := cv_iff.1 (cv_ent hlb hcb hi hj)
    rw [cv_iff]
    omega
theorem mv_turnm {n : Nat} (h1 : 1 ≤ n) (h4 : n ≤ 4) {a : List Int} (hla : a.length = n * n) (hca : ∀ x ∈ a, cv x = true) : mv (n : Int) (turnm n a) = true :=
  mv_cells h1 h4 fun i j hi hj => cv_ent hla hca hj hi
theorem mv_unitm {n : Nat} (h1 : 1 ≤ n) (h4 : n ≤ 4) : mv (n : Int) (unitm n) = true :=
  mv_cells h1 h4 fun i j hi hj => by
    by_cases e : i = j <;> simp [e, cv]
/-- A matrix of so many rows that is valid. -/
structure Ok (n : Nat) (l : List Int) : Prop where
  h1 : 1 ≤ n
  h4 : n ≤ 4
  len : l.length = n * n
  all : ∀ x ∈ l, cv x = true
theorem ok_of {n : Nat} {l : List Int} (h : mv (n : Int) l = true) : Ok n l := by
  obtain ⟨m, hm, h1, h4, hl, hc⟩ := mv_nat h
  obtain rfl : n = m := by omega
  exact ⟨h1, h4, hl, hc⟩
theorem Ok.mv {n : Nat} {l : List Int} (h : Ok n l) : mv (n : Int) l = true := by
  rw [mv_iff]
  refine ⟨⟨by have := h.h1; omega, by have := h.h4; omega, ?_⟩, by simpa using h.all⟩
  rw [h.len, Int.natCast_mul]
theorem Ok.two {n : Nat} {a b : List Int} (ha : Ok n a) (hb : Ok n b) : two (n : Int) a (n : Int) b = true := two_iff.2 ⟨ha.mv, hb.mv, rfl⟩
theorem Ok.mul {n : Nat} {a b : List Int} (ha : Ok n a) (hb : Ok n b) : Ok n (mulm n a b) := ok_of (mv_mulm ha.h1 ha.h4 ha.len hb.len ha.all hb.all)
theorem Ok.min {n : Nat} {a b : List Int} (ha : Ok n a) (hb : Ok n b) : Ok n (minm n a b) := ok_of (mv_minm ha.h1 ha.h4 ha.len hb.len ha.all hb.all)
theorem Ok.turn {n : Nat} {a : List Int} (ha : Ok n a) : Ok n (turnm n a) := ok_of (mv_turnm ha.h1 ha.h4 ha.len ha.all)
theorem Ok.unit {n : Nat} (h1 : 1 ≤ n) (h4 : n ≤ 4) : Ok n (unitm n) := ok_of (mv_unitm h1 h4)
theorem Ok.short {n : Nat} {a : List Int} (ha : Ok n a) : a.length ≤ 16 := by rw [ha.len]; exact sq16 ha.h4
theorem mulR_ok {n : Nat} {a b : List Int} (ha : Ok n a) (hb : Ok n b) : mulR (n : Int) a (n : Int) b = ((n : Int), mulm n a b, true) := by rw [mulR, if_pos (ha.two hb), Int.toNat_natCast]
theorem minR_ok {n : Nat} {a b : List Int} (ha : Ok n a) (hb : Ok n b) : minR (n : Int) a (n : Int) b = ((n : Int), minm n a b, true) := by rw [minR, if_pos (ha.two hb), Int.toNat_natCast]
theorem turnR_ok {n : Nat} {a : List Int} (ha : Ok n a) : turnR (n : Int) a = ((n : Int), turnm n a, true) := by rw [turnR, if_pos ha.mv, Int.toNat_natCast]
theorem unitR_ok {n : Nat} (h1 : 1 ≤ n) (h4 : n ≤ 4) : unitR (n : Int) = ((n : Int), unitm n, true) := by rw [unitR, if_pos (by omega), Int.toNat_natCast]
theorem mv_ok {n : Int} {l : List Int} (h : _root_.Go.Proofs.Ytojfbgegankddaa.Pure.mv n l = true) : ∃ m : Nat, n = (m : Int) ∧ Ok m l := by
  obtain ⟨m, hm, h1, h4, hl, hc⟩ := mv_nat h
  exact ⟨m, hm, h1, h4, hl, hc⟩
theorem sOk_iff {n : Int} {s : S32} : sOk n s = true ↔ (0 ≤ s.f0 ∧ s.f0 < n ∧ 0 ≤ s.f2 ∧ s.f2 < n ∧ 0 ≤ s.f3 ∧ s.f3 ≤ 3) ∧ (s.f1.toList = [97] ∨ s.f1.toList = [98]) := by
  simp [sOk, sA, sB]
theorem stepsOk_mem {n : Int} {l : List S32} (h : stepsOk n l = true) {s : S32} (hs : s ∈ l) : sOk n s = true := by
  obtain ⟨i, hi, rfl⟩ := List.mem_iff_getElem.1 hs
  have := allFrom_iff.1 h i (by omega) hi
  simp only [sAt, Bool.and_eq_true, rdI_nat hi] at this
  exact this.1
theorem av_nat {n : Int} {l1 l2 : List Int} {l3 : List S32} (h : av n l1 l2 l3 = true) : ∃ m : Nat, n = (m : Int) ∧ 1 ≤ m ∧ m ≤ 4 ∧ asc n l1 = true ∧ asc n l2 = true ∧ l3.length ≤ 24 ∧ stepsOk n l3 = true := by
  simp only [av, Bool.and_eq_true, decide_eq_true_eq] at h
  obtain ⟨⟨h1, h4⟩, ha, hb, hl, hs⟩ := h
  obtain ⟨m, rfl⟩ := Int.eq_ofNat_of_zero_le (show 0 ≤ n by omega)
  exact ⟨m, rfl, by omega, by omega, ha, hb, hl, hs⟩
/-- A step's cost put into a matrix. -/
def putS (n : Nat) (c : ByteArray) (m : List Int) (s : S32) : List Int := if s.f1.toList = c.toList then m.set (s.f0 * (n : Int) + s.f2).toNat s.f3 else m
/-- The matrix of the steps by a letter. -/
def stepmat (n : Nat) (c : ByteArray) (l : List S32) : List Int := l.foldl (putS n c) (List.replicate (n * n) 1000000)
theorem putS_len (n : Nat) (c : ByteArray) (m : List Int) (s : S32) : (putS n c m s).length = m.length := by
  unfold putS
  split <;> simp
theorem foldS_len (n : Nat) (c : ByteArray) (l : List S32) : ∀ m : List Int, (l.foldl (putS n c) m).length = m.length := by
  induction l with
  | nil => intro m; rfl
  | cons s l ih => intro m; rw [List.foldl_cons, ih, putS_len]
theorem stepmat_len (n : Nat) (c : ByteArray) (l : List S32) : (stepmat n c l).length = n * n := by rw [stepmat, foldS_len]; simp
theorem foldS_cv {n : Nat} (c : ByteArray) (l : List S32) (hl : ∀ s ∈ l, sOk (n : Int) s = true) : ∀ m : List Int, (∀ x ∈ m, cv x = true) → ∀ x ∈ l.foldl (putS n c) m, cv x = true := by
  induction l with
  | nil => intro m h; exact h
  | cons s l ih =>
    intro m h
    rw [List.foldl_cons]
    refine ih (fun s hs => hl s (List.mem_cons_of_mem _ hs)) _ ?_
    intro x hx
    unfold putS at hx
    split at hx
    · rcases List.mem_or_eq_of_mem_set hx with e | e
      · exact h x e
      · have := (sOk_iff.1 (hl s List.mem_cons_self)).1
        subst e
        exact cv_iff.2 (by omega)
    · exact h x hx
theorem stepmat_ok {n : Nat} (h1 : 1 ≤ n) (h4 : n ≤ 4) (c : ByteArray) {l : List S32} (hl : ∀ s ∈ l, sOk (n : Int) s = true) : Ok n (stepmat n c l) :=
  ⟨h1, h4, stepmat_len n c l, foldS_cv c l hl _ fun x hx => by rw [(List.mem_replicate.1 hx).2]; rfl⟩
def stepR (n : Int) (l1 l2 : List Int) (l3 : List S32) (c : ByteArray) : Int × List Int × Bool := if av n l1 l2 l3 && (sA c || sB c) then (n, stepmat n.toNat c l3, true) else (0, [], false)
theorem step_at {n : Nat} (h4 : n ≤ 4) {s : S32} (h : sOk (n : Int) s = true) : ∃ q : Nat, q < n * n ∧ wrap64 ((wrap64 (s.f0 * (n : Int))) + s.f2) = (q : Int) ∧ (s.f0 * (n : Int) + s.f2).toNat = q := by
  have hb := (sOk_iff.1 h).1
  obtain ⟨i, hi⟩ := Int.eq_ofNat_of_zero_le hb.1
  obtain ⟨j, hj⟩ := Int.eq_ofNat_of_zero_le hb.2.2.1
  have hi4 : i < n := by omega
  have hj4 : j < n := by omega
  refine ⟨i * n + j, idx_lt hi4 hj4, ?_, ?_⟩
  · rw [hi, hj]; exact idx_wrap h4 hi4 hj4
  · rw [hi, hj, ← Int.natCast_mul, ← Int.natCast_add, Int.toNat_natCast]
theorem stepsOk_iff {n : Int} {l : List S32} : stepsOk n l = true ↔ (∀ s ∈ l, sOk n s = true) ∧ inOrder l := by
  constructor
  · intro h
    refine ⟨fun s hs => stepsOk_mem h hs, ?_⟩
    have adj : ∀ j (hj : j + 1 < l.length), sLt l[j] l[j + 1] = true := fun j hj => by
      have := allFrom_iff.1 h (j + 1) (by omega) hj
      simp only [sAt, Bool.and_eq_true, Bool.or_eq_true, decide_eq_true_eq] at this
      rcases this.2 with h0 | h0
      · omega
      · rw [show j + 1 - 1 = j by omega, rdI_nat (show j < l.length by omega), rdI_nat hj] at h0
        exact h0
    refine List.pairwise_iff_getElem.2 fun i j hi hj hij => ?_
    have key : ∀ d (hd : i + d + 1 < l.length), sLt l[i] l[i + d + 1] = true := by
      intro d
      induction d with
      | zero => intro hd; exact adj i hd
      | succ d ih => intro hd; exact sLt_trans _ _ _ (ih (by omega)) (adj (i + d + 1) hd)
    obtain ⟨d, rfl⟩ : ∃ d, j = i + d + 1 := ⟨j - i - 1, by omega⟩
    exact key d hj
  · rintro ⟨h1, h2⟩
    refine allFrom_iff.2 fun j _ hj => ?_
    simp only [sAt, Bool.and_eq_true, Bool.or_eq_true, decide_eq_true_eq, rdI_nat hj]
    refine ⟨h1 _ (List.getElem_mem hj), ?_⟩
    by_cases h0 : j = 0
    · exact .inl h0
    · right
      rw [rdI_nat (show j - 1 < l.length by omega)]
      exact List.pairwise_iff_getElem.1 h2 (j - 1) j (by omega) hj (by omega)
theorem sOk_rev {n : Int} {s : S32} : sOk n (revS s) = true ↔ sOk n s = true := by
  rw [sOk_iff, sOk_iff]
  show (0 ≤ s.f2 ∧ s.f2 < n ∧ 0 ≤ s.f0 ∧ s.f0 < n ∧ 0 ≤ s.f3 ∧ s.f3 ≤ 3) ∧ _ ↔ _
  constructor
  · rintro ⟨⟨a, b, c, d, e, f⟩, g⟩
    exact ⟨⟨c, d, a, b, e, f⟩, g⟩
  · rintro ⟨⟨a, b, c, d, e, f⟩, g⟩
    exact ⟨⟨c, d, a, b, e, f⟩, g⟩
theorem insS_len (s : S32) : ∀ l : List S32, (insS s l).length = l.length + 1
  | [] => rfl
  | t :: l => by
    unfold insS
    split
    · rw [List.length_cons, insS_len s l, List.length_cons]
    · rfl
theorem insAll_len : ∀ (l m : List S32), (insAll l m).length = l.length + m.length
  | [], m => by simp [insAll]
  | s :: l, m => by
    show (insAll l (insS s m)).length = _
    rw [insAll_len l, insS_len, List.length_cons]
    omega
theorem revL_len (l : List S32) : (revL l).length = l.length := by
  unfold revL
  rw [insAll_len, List.length_map]
  rfl
theorem av_rev {n : Int} {l1 l2 : List Int} {l3 : List S32} (h : av n l1 l2 l3 = true) : av n l2 l1 (revL l3) = true := by
  simp only [av, Bool.and_eq_true, decide_eq_true_eq] at h ⊢
  obtain ⟨h1, ha, hb, hl, hs⟩ := h
  obtain ⟨hk, ho⟩ := stepsOk_iff.1 hs
  refine ⟨h1, hb, ha, by rw [revL_len]; exact hl, stepsOk_iff.2 ⟨fun s hs => ?_, revL_order ho⟩⟩
  exact sOk_rev.1 (hk _ ((revL_mem l3 s).1 hs))
theorem av_free {n : Int} {l1 l2 : List Int} {l3 : List S32} (h : av n l1 l2 l3 = true) (p : S32 → Bool) : av n l1 l2 (l3.filter p) = true := by
  simp only [av, Bool.and_eq_true, decide_eq_true_eq] at h ⊢
  obtain ⟨h1, ha, hb, hl, hs⟩ := h
  obtain ⟨hk, ho⟩ := stepsOk_iff.1 hs
  refine ⟨h1, ha, hb, Nat.le_trans (List.length_filter_le _ _) hl, stepsOk_iff.2 ⟨fun s hs => hk s (List.mem_filter.1 hs).1, filter_order ho p⟩⟩
/-- The letter of a step as a number. -/
def lc (b : ByteArray) : Int := if b.toList = [97] then 0 else 1
/-- Where a step stands: by From, by Letter, by To. -/
def key (s : S32) : Int := s.f0 * 8 + lc s.f1 * 4 + s.f2
theorem sLt_key {n : Int} (h4 : n ≤ 4) {s t : S32} (hs : sOk n s = true) (ht : sOk n t = true) : sLt s t = decide (key s < key t) := by
  have a := sOk_iff.1 hs
  have b := sOk_iff.1 ht
  have e : ([97] : List UInt8) ≠ [98] := by decide
  have e' : ([98] : List UInt8) ≠ [97] := by decide
  unfold sLt key lc
  rw [Bool.eq_iff_iff, decide_eq_true_eq]
  by_cases h0 : s.f0 = t.f0
  · rw [if_pos h0]
    rcases a.2 with a2 | a2 <;> rcases b.2 with b2 | b2
    · simp only [a2, b2, if_true, decide_eq_true_eq]; omega
    · simp only [a2, b2, if_neg e, if_neg e', if_true, show Op.bytesLess [97] [98] = true from rfl]; constructor <;> intro hh <;> first | omega | trivial
    · simp only [a2, b2, if_neg e, if_neg e', if_true, show Op.bytesLess [98] [97] = false from rfl]; constructor <;> intro hh <;> first | (exfalso; omega) | cases hh
    · simp only [a2, b2, if_neg e', if_true, decide_eq_true_eq]; omega
  · rw [if_neg h0, decide_eq_true_eq]
    split <;> split <;> omega
theorem keys_lt {n : Int} (h4 : n ≤ 4) {l : List S32} (h : stepsOk n l = true) : ∀ q p, p < q → ∀ (hq : q < l.length), ∀ (hp : p < l.length), key l[p] < key l[q] := by
  intro q
  induction q with
  | zero => intro p hp; omega
  | succ q ih =>
    intro p hpq hq hp
    have hc := allFrom_iff.1 h (q + 1) (by omega) hq
    simp only [sAt, Bool.and_eq_true, Bool.or_eq_true, decide_eq_true_eq] at hc
    have h1 : sLt l[q] l[q + 1] = true := by
      rcases hc.2 with e | e
      · omega
      · rw [show ((q + 1 - 1 : Nat) : Int) = (q : Int) by omega, rdI_nat (show q < l.length by omega), rdI_nat hq] at e
        exact e
    rw [sLt_key h4 (stepsOk_mem h (List.getElem_mem _)) (stepsOk_mem h (List.getElem_mem _)), decide_eq_true_eq] at h1
    by_cases e : p = q
    · subst e; exact h1
    · have := ih p (by omega) (by omega) hp
      omega
/-- A step bears the letter. -/
def hasC (c : ByteArray) (s : S32) : Bool := decide (s.f1.toList = c.toList)
/-- Where a step's cost stands. -/
def sIdx (n : Nat) (s : S32) : Nat := (s.f0 * (n : Int) + s.f2).toNat
def isN (x : Int) : Bool := decide (x < 1000000)
theorem putS_yes {n : Nat} {c : ByteArray} {m : List Int} {s : S32} (h : hasC c s = true) : putS n c m s = m.set (sIdx n s) s.f3 := by
  simp only [hasC, decide_eq_true_eq] at h
  rw [putS, if_pos h]; rfl
theorem putS_no {n : Nat} {c : ByteArray} {m : List Int} {s : S32} (h : hasC c s = false) : putS n c m s = m := by
  simp only [hasC, decide_eq_false_iff_not] at h
  rw [putS, if_neg h]
/-- What the steps lay, if no two of them lie at one place. -/
theorem foldS_at {n : Nat} {c : ByteArray} : ∀ (l : List S32) (m : List Int), (∀ s ∈ l, hasC c s = true → s.f3 < 1000000 ∧ sIdx n s < m.length) → l.Pairwise (fun s t => hasC c s = true → hasC c t = true → sIdx n s ≠ sIdx n t) →
    (∀ s ∈ l, hasC c s = true → (l.foldl (putS n c) m)[sIdx n s]? = some s.f3) ∧ (∀ j, (∀ s ∈ l, hasC c s = true → sIdx n s ≠ j) → (l.foldl (putS n c) m)[j]? = m[j]?) ∧
    ((∀ s ∈ l, hasC c s = true → m[sIdx n s]? = some 1000000) → (l.foldl (putS n c) m).countP isN = m.countP isN + l.countP (hasC c))
  | [], m, _, _ => ⟨fun s hs => by simp at hs, fun j _ => rfl, fun _ => by simp⟩
  | s :: l, m, hb, hp => by
    obtain ⟨hp1, hp2⟩ := List.pairwise_cons.1 hp
    cases hc : hasC c s with
    | false =>
      obtain ⟨a, b, d⟩ := foldS_at l m (fun t ht => hb t (List.mem_cons_of_mem _ ht)) hp2
      rw [List.foldl_cons, putS_no hc]
      refine ⟨fun t ht hct => ?_, fun j hj => b j fun t ht => hj t (List.mem_cons_of_mem _ ht), fun hh => ?_⟩
      · rcases List.mem_cons.1 ht with rfl | h
        · rw [hc] at hct; cases hct
        · exact a t h hct
      · rw [d fun t ht => hh t (List.mem_cons_of_mem _ ht), List.countP_cons_of_neg (by simp [hc])]
    | true =>
      obtain ⟨h3, hlt⟩ := hb s List.mem_cons_self hc
      obtain ⟨a, b, d⟩ := foldS_at l (m.set (sIdx n s) s.f3) (fun t ht hct => by rw [List.length_set]; exact hb t (List.mem_cons_of_mem _ ht) hct) hp2
      rw [List.foldl_cons, putS_yes hc]
      refine ⟨fun t ht hct => ?_, fun j hj => ?_, fun hh => ?_⟩
      · rcases List.mem_cons.1 ht with rfl | h
        · rw [b _ fun u hu hcu => fun e => hp1 u hu hc hcu e.symm, List.getElem?_set_self hlt]
        · exact a t h hct
      · rw [b j fun t ht => hj t (List.mem_cons_of_mem _ ht), List.getElem?_set_ne (hj s List.mem_cons_self hc)]
      · have e := hh s List.mem_cons_self hc
        rw [List.getElem?_eq_getElem hlt] at e
        have e := Option.some.inj e
        rw [d fun t ht hct => by rw [List.getElem?_set_ne (hp1 t ht hc hct)]; exact hh t (List.mem_cons_of_mem _ ht) hct, List.countP_set hlt, List.countP_cons_of_pos hc, e, if_neg (by simp [isN]), if_pos (by simpa [isN] using h3)]
        omega
theorem sIdx_lt {n : Nat} {s : S32} (h : sOk (n : Int) s = true) : sIdx n s < n * n := by
  have hb := (sOk_iff.1 h).1
  obtain ⟨i, hi⟩ := Int.eq_ofNat_of_zero_le hb.1
  obtain ⟨j, hj⟩ := Int.eq_ofNat_of_zero_le hb.2.2.1
  have e : sIdx n s = i * n + j := by rw [sIdx, hi, hj, ← Int.natCast_mul, ← Int.natCast_add, Int.toNat_natCast]
  rw [e]
  exact idx_lt (by omega) (by omega)
theorem sIdx_inj {n : Nat} {s t : S32} (hs : sOk (n : Int) s = true) (ht : sOk (n : Int) t = true) (h : sIdx n s = sIdx n t) : s.f0 = t.f0 ∧ s.f2 = t.f2 := by
  have hb := (sOk_iff.1 hs).1
  have hc := (sOk_iff.1 ht).1
  obtain ⟨i, hi⟩ := Int.eq_ofNat_of_zero_le hb.1
  obtain ⟨j, hj⟩ := Int.eq_ofNat_of_zero_le hb.2.2.1
  obtain ⟨i', hi'⟩ := Int.eq_ofNat_of_zero_le hc.1
  obtain ⟨j', hj'⟩ := Int.eq_ofNat_of_zero_le hc.2.2.1
  have e : sIdx n s = i * n + j := by rw [sIdx, hi, hj, ← Int.natCast_mul, ← Int.natCast_add, Int.toNat_natCast]
  have e' : sIdx n t = i' * n + j' := by rw [sIdx, hi', hj', ← Int.natCast_mul, ← Int.natCast_add, Int.toNat_natCast]
  rw [e, e'] at h
  have d := div_idx (n := n) (i := i) (k := j) (by omega)
  have d' := div_idx (n := n) (i := i') (k := j') (by omega)
  rw [h] at d
  have x := d.1.symm.trans d'.1
  have y := d.2.symm.trans d'.2
  omega
theorem steps_apart {n : Nat} (h4 : n ≤ 4) {l : List S32} (h : stepsOk (n : Int) l = true) (c : ByteArray) : l.Pairwise (fun s t => hasC c s = true → hasC c t = true → sIdx n s ≠ sIdx n t) := by
  rw [List.pairwise_iff_getElem]
  intro p q hp hq hpq h1 h2 e
  have hk := keys_lt (by omega) h q p hpq hq hp
  obtain ⟨e1, e2⟩ := sIdx_inj (stepsOk_mem h (List.getElem_mem hp)) (stepsOk_mem h (List.getElem_mem hq)) e
  simp only [hasC, decide_eq_true_eq] at h1 h2
  have e3 : lc l[p].f1 = lc l[q].f1 := by unfold lc; rw [h1, h2]
  unfold key at hk
  rw [e1, e2, e3] at hk
  omega
/-- The matrix of a letter's steps: each cost in its place, and so many costs below what can't be had. -/
theorem stepmat_at {n : Nat} (h4 : n ≤ 4) {l : List S32} (h : stepsOk (n : Int) l = true) (c : ByteArray) : (∀ s ∈ l, hasC c s = true → (stepmat n c l)[sIdx n s]? = some s.f3) ∧ (∀ j, j < n * n → (∀ s ∈ l, hasC c s = true → sIdx n s ≠ j) → (stepmat n c l)[j]? = some 1000000) ∧ (stepmat n c l).countP isN = l.countP (hasC c) := by
  have hb : ∀ s ∈ l, hasC c s = true → s.f3 < 1000000 ∧ sIdx n s < (List.replicate (n * n) (1000000 : Int)).length := fun s hs _ => by
    have a := (sOk_iff.1 (stepsOk_mem h hs)).1
    have b := sIdx_lt (stepsOk_mem h hs)
    simp only [List.length_replicate]
    omega
  obtain ⟨a, b, d⟩ := foldS_at l (List.replicate (n * n) 1000000) hb (steps_apart h4 h c)
  refine ⟨a, fun j hj hh => ?_, ?_⟩
  · have := b j hh
    rw [List.getElem?_replicate_of_lt hj] at this
    exact this
  · have := d fun s hs _ => List.getElem?_replicate_of_lt (sIdx_lt (stepsOk_mem h hs))
    rw [show (List.replicate (n * n) (1000000 : Int)).countP isN = 0 by rw [List.countP_replicate]; simp [isN], Nat.zero_add] at this
    exact this
theorem le_dot {f : Nat → Int} {x : Int} : ∀ {m : Nat}, x ≤ dotTo f m ↔ x ≤ 1000000 ∧ ∀ l, l < m → x ≤ f l := by
  intro m
  induction m with
  | zero => simp [dotTo_zero]
  | succ m ih =>
    rw [dotTo_next]
    constructor
    · intro h
      have h1 := ih.1 (by omega)
      refine ⟨h1.1, fun l hl => ?_⟩
      by_cases e : l = m
      · subst e; omega
      · exact h1.2 l (by omega)
    · intro h
      have h1 := ih.2 ⟨h.1, fun l hl => h.2 l (by omega)⟩
      have h2 := h.2 m (by omega)
      omega
theorem eq_le {a b : Int} (h : ∀ x, x ≤ a ↔ x ≤ b) : a = b := by
  have h1 := (h a).1 (by omega)
  have h2 := (h b).2 (by omega)
  omega
theorem addc_comm (a b : Int) : addc a b = addc b a := by unfold addc; omega
theorem addc_assoc {a c : Int} (b : Int) (ha : 0 ≤ a) (hc : 0 ≤ c) : addc (addc a b) c = addc a (addc b c) := by unfold addc; omega
theorem addc_dot {f : Nat → Int} {c : Int} (hc : 0 ≤ c) : ∀ {m : Nat}, addc (dotTo f m) c = dotTo (fun l => addc (f l) c) m := by
  intro m
  induction m with
  | zero => rw [dotTo_zero, dotTo_zero]; unfold addc; omega
  | succ m ih => rw [dotTo_next, dotTo_next, ← ih]; unfold addc; omega
theorem dot_addc {f : Nat → Int} {c : Int} (hc : 0 ≤ c) {m : Nat} : addc c (dotTo f m) = dotTo (fun l => addc c (f l)) m := by
  rw [addc_comm, addc_dot hc]
  congr 1
  funext l
  exact addc_comm _ _
theorem dot_swap {f : Nat → Nat → Int} {m k : Nat} : dotTo (fun l => dotTo (fun j => f l j) k) m = dotTo (fun j => dotTo (fun l => f l j) m) k := by
  apply eq_le
  intro x
  simp only [le_dot]
  constructor
  · rintro ⟨h0, h⟩
    exact ⟨h0, fun j hj => ⟨h0, fun l hl => (h l hl).2 j hj⟩⟩
  · rintro ⟨h0, h⟩
    exact ⟨h0, fun j hj => ⟨h0, fun l hl => (h l hl).2 j hj⟩⟩
theorem dot_congr {f g : Nat → Int} {m : Nat} (h : ∀ l, l < m → f l = g l) : dotTo f m = dotTo g m := by
  apply eq_le
  intro x
  simp only [le_dot]
  constructor
  · rintro ⟨h0, h1⟩; exact ⟨h0, fun l hl => by rw [← h l hl]; exact h1 l hl⟩
  · rintro ⟨h0, h1⟩; exact ⟨h0, fun l hl => by rw [h l hl]; exact h1 l hl⟩
theorem ent_mul {n : Nat} (a b : List Int) {i j : Nat} (hi : i < n) (hj : j < n) : ent n (mulm n a b) i j = dotTo (fun l => addc (ent n a i l) (ent n b l j)) n := ent_cells _ hi hj
theorem ent_min {n : Nat} (a b : List Int) {i j : Nat} (hi : i < n) (hj : j < n) : ent n (minm n a b) i j = min (ent n a i j) (ent n b i j) := ent_cells _ hi hj
theorem ent_turn {n : Nat} (a : List Int) {i j : Nat} (hi : i < n) (hj : j < n) : ent n (turnm n a) i j = ent n a j i := ent_cells _ hi hj
theorem ent_unit {n : Nat} {i j : Nat} (hi : i < n) (hj : j < n) : ent n (unitm n) i j = if i = j then 0 else 1000000 := ent_cells _ hi hj
theorem Ok.ext {n : Nat} {a b : List Int} (ha : Ok n a) (hb : Ok n b) (h : ∀ i j, i < n → j < n → ent n a i j = ent n b i j) : a = b := by
  rw [← cells_ent ha.len, ← cells_ent hb.len]
  exact cells_congr h
theorem Ok.bd {n : Nat} {a : List Int} (ha : Ok n a) {i j : Nat} (hi : i < n) (hj : j < n) : 0 ≤ ent n a i j ∧ ent n a i j ≤ 1000000 := cv_iff.1 (cv_ent ha.len ha.all hi hj)
theorem mul_assoc {n : Nat} {a b c : List Int} (ha : Ok n a) (hb : Ok n b) (hc : Ok n c) : mulm n (mulm n a b) c = mulm n a (mulm n b c) := by
  refine ((ha.mul hb).mul hc).ext (ha.mul (hb.mul hc)) fun i j hi hj => ?_
  rw [ent_mul _ _ hi hj, ent_mul _ _ hi hj]
  have h1 : dotTo (fun l => addc (ent n (mulm n a b) i l) (ent n c l j)) n = dotTo (fun l => dotTo (fun k => addc (ent n a i k) (addc (ent n b k l) (ent n c l j))) n) n := by
    refine dot_congr fun l hl => ?_
    rw [ent_mul _ _ hi hl, addc_dot (hc.bd hl hj).1]
    refine dot_congr fun k hk => ?_
    exact addc_assoc _ (ha.bd hi hk).1 (hc.bd hl hj).1
  have h2 : dotTo (fun k => addc (ent n a i k) (ent n (mulm n b c) k j)) n = dotTo (fun k => dotTo (fun l => addc (ent n a i k) (addc (ent n b k l) (ent n c l j))) n) n := by
    refine dot_congr fun k hk => ?_
    rw [ent_mul _ _ hk hj, dot_addc (ha.bd hi hk).1]
  rw [h1, h2, dot_swap]
theorem mul_unit {n : Nat} {a : List Int} (ha : Ok n a) : mulm n a (unitm n) = a := by
  refine (ha.mul (Ok.unit ha.h1 ha.h4)).ext ha fun i j hi hj => ?_
  rw [ent_mul _ _ hi hj]
  apply eq_le
  intro x
  rw [le_dot]
  have hb := ha.bd hi hj
  constructor
  · rintro ⟨-, h⟩
    have := h j hj
    rw [ent_unit hj hj, if_pos rfl] at this
    unfold addc at this
    omega
  · intro h
    refine ⟨by omega, fun l hl => ?_⟩
    rw [ent_unit hl hj]
    have hc := ha.bd hi hl
    by_cases e : l = j
    · subst e; rw [if_pos rfl]; unfold addc; omega
    · rw [if_neg e]; unfold addc; omega
theorem unit_mul {n : Nat} {a : List Int} (ha : Ok n a) : mulm n (unitm n) a = a := by
  refine ((Ok.unit ha.h1 ha.h4).mul ha).ext ha fun i j hi hj => ?_
  rw [ent_mul _ _ hi hj]
  apply eq_le
  intro x
  rw [le_dot]
  have hb := ha.bd hi hj
  constructor
  · rintro ⟨-, h⟩
    have := h i hi
    rw [ent_unit hi hi, if_pos rfl] at this
    unfold addc at this
    omega
  · intro h
    refine ⟨by omega, fun l hl => ?_⟩
    rw [ent_unit hi hl]
    have hc := ha.bd hl hj
    by_cases e : i = l
    · subst e; rw [if_pos rfl]; unfold addc; omega
    · rw [if_neg e]; unfold addc; omega
theorem turn_mul {n : Nat} {a b : List Int} (ha : Ok n a) (hb : Ok n b) : mulm n (turnm n b) (turnm n a) = turnm n (mulm n a b) := by
  refine (hb.turn.mul ha.turn).ext (ha.mul hb).turn fun i j hi hj => ?_
  rw [ent_mul _ _ hi hj, ent_turn _ hi hj, ent_mul _ _ hj hi]
  refine dot_congr fun l hl => ?_
  rw [ent_turn _ hi hl, ent_turn _ hl hj, addc_comm]
theorem turn_turn {n : Nat} {a : List Int} (ha : Ok n a) : turnm n (turnm n a) = a := by
  refine ha.turn.turn.ext ha fun i j hi hj => ?_
  rw [ent_turn _ hi hj, ent_turn _ hj hi]
theorem addc_min (a b c : Int) : addc (min a b) c = min (addc a c) (addc b c) := by unfold addc; omega
theorem dot_min {f g : Nat → Int} {m : Nat} : dotTo (fun l => min (f l) (g l)) m = min (dotTo f m) (dotTo g m) := by
  apply eq_le
  intro x
  rw [le_dot]
  have h1 := @le_dot f x m
  have h2 := @le_dot g x m
  constructor
  · rintro ⟨h0, h⟩
    have a1 := h1.2 ⟨h0, fun l hl => by have := h l hl; omega⟩
    have a2 := h2.2 ⟨h0, fun l hl => by have := h l hl; omega⟩
    omega
  · intro h
    have a1 := h1.1 (by omega)
    have a2 := h2.1 (by omega)
    exact ⟨a1.1, fun l hl => by have := a1.2 l hl; have := a2.2 l hl; omega⟩
theorem min_mul {n : Nat} {a b c : List Int} (ha : Ok n a) (hb : Ok n b) (hc : Ok n c) : mulm n (minm n a b) c = minm n (mulm n a c) (mulm n b c) := by
  refine ((ha.min hb).mul hc).ext ((ha.mul hc).min (hb.mul hc)) fun i j hi hj => ?_
  rw [ent_mul _ _ hi hj, ent_min _ _ hi hj, ent_mul _ _ hi hj, ent_mul _ _ hi hj, ← dot_min]
  refine dot_congr fun l hl => ?_
  rw [ent_min _ _ hi hl, addc_min]
theorem mul_min {n : Nat} {a b c : List Int} (ha : Ok n a) (hb : Ok n b) (hc : Ok n c) : mulm n c (minm n a b) = minm n (mulm n c a) (mulm n c b) := by
  refine (hc.mul (ha.min hb)).ext ((hc.mul ha).min (hc.mul hb)) fun i j hi hj => ?_
  rw [ent_mul _ _ hi hj, ent_min _ _ hi hj, ent_mul _ _ hi hj, ent_mul _ _ hi hj, ← dot_min]
  refine dot_congr fun l hl => ?_
  rw [ent_min _ _ hl hj, addc_comm, addc_min, addc_comm, addc_comm _ (ent n c i l)]
theorem min_comm' {n : Nat} {a b : List Int} (ha : Ok n a) (hb : Ok n b) : minm n b a = minm n a b := by
  refine (hb.min ha).ext (ha.min hb) fun i j hi hj => ?_
  rw [ent_min _ _ hi hj, ent_min _ _ hi hj]
  omega
theorem min_assoc' {n : Nat} {a b c : List Int} (ha : Ok n a) (hb : Ok n b) (hc : Ok n c) : minm n (minm n a b) c = minm n a (minm n b c) := by
  refine ((ha.min hb).min hc).ext (ha.min (hb.min hc)) fun i j hi hj => ?_
  rw [ent_min _ _ hi hj, ent_min _ _ hi hj, ent_min _ _ hi hj, ent_min _ _ hi hj]
  omega
theorem min_self' {n : Nat} {a : List Int} (ha : Ok n a) : minm n a a = a := by
  refine (ha.min ha).ext ha fun i j hi hj => ?_
  rw [ent_min _ _ hi hj]
  omega
/-- The power's loop: so many rounds at most. -/
def pw (sz : Nat) : Nat → List Int → List Int → Int → List Int
  | 0, out, _, _ => out
  | f + 1, out, x, n => if n > 0 then pw sz f (if n % 2 = 1 then mulm sz out x else out) (mulm sz x x) (n / 2) else out
def powR (n : Int) (l : List Int) (e : Int) : Int × List Int × Bool := if mv n l = true ∧ 0 ≤ e then (n, pw n.toNat 64 (unitm n.toNat) l e, true) else (0, [], false)
theorem Ok.pw {n : Nat} : ∀ (f : Nat) {a b : List Int} (_ : Ok n a) (_ : Ok n b) (e : Int), Ok n (pw n f a b e) := by
  intro f
  induction f with
  | zero => intro a b ha hb e; exact ha
  | succ f ih =>
    intro a b ha hb e
    unfold Go.Proofs.Ytojfbgegankddaa.Pure.pw
    split
    · refine ih ?_ (hb.mul hb) _
      split
      · exact ha.mul hb
      · exact ha
    · exact ha
theorem half_lt {e : Int} {f : Nat} (h0 : 0 ≤ e) (h : e < 2 ^ (f + 1)) : e / 2 < 2 ^ f := by
  rw [Int.pow_succ] at h
  omega
def starIt (sz : Nat) : Nat → List Int → List Int
  | 0, x => x
  | f + 1, x => starIt sz f (mulm sz x x)
def starR (n : Int) (l : List Int) : Int × List Int × Bool := if mv n l then (n, starIt n.toNat n.toNat (minm n.toNat l (unitm n.toNat)), true) else (0, [], false)
theorem Ok.starIt {n : Nat} : ∀ (f : Nat) {a : List Int} (_ : Ok n a), Ok n (starIt n f a) := by
  intro f
  induction f with
  | zero => intro a ha; exact ha
  | succ f ih => intro a ha; exact ih (ha.mul ha)
def powN (n : Nat) (a : List Int) : Nat → List Int
  | 0 => unitm n
  | k + 1 => mulm n (powN n a k) a
theorem Ok.powN {n : Nat} {a : List Int} (ha : Ok n a) : ∀ k, Ok n (powN n a k) := by
  intro k
  induction k with
  | zero => exact Ok.unit ha.h1 ha.h4
  | succ k ih => exact ih.mul ha
theorem powN_add {n : Nat} {a : List Int} (ha : Ok n a) (i : Nat) : ∀ j, powN n a (i + j) = mulm n (powN n a i) (powN n a j) := by
  intro j
  induction j with
  | zero => exact (mul_unit (ha.powN i)).symm
  | succ j ih =>
    show mulm n (powN n a (i + j)) a = mulm n (powN n a i) (mulm n (powN n a j) a)
    rw [ih, mul_assoc (ha.powN i) (ha.powN j) ha]
theorem powN_one {n : Nat} {a : List Int} (ha : Ok n a) : powN n a 1 = a := unit_mul ha
theorem powN_sq {n : Nat} {a : List Int} (ha : Ok n a) : ∀ k, powN n (mulm n a a) k = powN n a (2 * k) := by
  intro k
  induction k with
  | zero => rfl
  | succ k ih =>
    show mulm n (powN n (mulm n a a) k) (mulm n a a) = powN n a (2 * k + 1 + 1)
    rw [ih, ← mul_assoc (ha.powN _) ha ha]
    rfl
theorem pw_powN {n : Nat} : ∀ (f : Nat) {o x : List Int} (ho : Ok n o) (hx : Ok n x) (e : Int), 0 ≤ e → e < 2 ^ f → pw n f o x e = mulm n o (powN n x e.toNat) := by
  intro f
  induction f with
  | zero =>
    intro o x ho hx e h0 h1
    obtain rfl : e = 0 := by omega
    exact (mul_unit ho).symm
  | succ f ih =>
    intro o x ho hx e h0 h1
    unfold pw
    by_cases hp : e > 0
    · rw [if_pos hp]
      have hh := half_lt h0 h1
      by_cases hodd : e % 2 = 1
      · rw [if_pos hodd, ih (ho.mul hx) (hx.mul hx) _ (by omega) hh, powN_sq hx, mul_assoc ho hx (hx.powN _)]
        have e1 : e.toNat = 1 + 2 * (e / 2).toNat := by omega
        rw [e1, powN_add hx, powN_one hx]
      · rw [if_neg hodd, ih ho (hx.mul hx) _ (by omega) hh, powN_sq hx]
        have e1 : e.toNat = 2 * (e / 2).toNat := by omega
        rw [← e1]
    · rw [if_neg hp]
      obtain rfl : e = 0 := by omega
      exact (mul_unit ho).symm
theorem powR_ok {n : Nat} {a : List Int} (ha : Ok n a) {e : Int} (h0 : 0 ≤ e) (h1 : e ≤ 9223372036854775807) : powR (n : Int) a e = ((n : Int), powN n a e.toNat, true) := by
  rw [powR, if_pos ⟨ha.mv, h0⟩, Int.toNat_natCast, pw_powN 64 (Ok.unit ha.h1 ha.h4) ha e h0 (by omega), unit_mul (ha.powN _)]
theorem starIt_powN {n : Nat} : ∀ (f : Nat) {x : List Int} (hx : Ok n x), starIt n f x = powN n x (2 ^ f) := by
  intro f
  induction f with
  | zero => intro x hx; exact (powN_one hx).symm
  | succ f ih =>
    intro x hx
    unfold starIt
    rw [ih (hx.mul hx), powN_sq hx, Nat.pow_succ, Nat.mul_comm]
/-- What a walk costs, from a first place through so many others. -/
def wcost (g : Nat → Nat → Int) : Nat → List Nat → Int
  | _, [] => 0
  | i, v :: vs => addc (g i v) (wcost g v vs)
/-- Where a walk ends. -/
def wend : Nat → List Nat → Nat
  | i, [] => i
  | _, v :: vs => wend v vs
def within (n : Nat) (l : List Nat) : Prop := ∀ x ∈ l, x < n
theorem within_cons {n v : Nat} {vs : List Nat} (h : within n (v :: vs)) : v < n ∧ within n vs := ⟨h v (by simp), fun x hx => h x (by simp [hx])⟩
theorem wcost_nn {n : Nat} {g : Nat → Nat → Int} (hg : ∀ i j, i < n → j < n → 0 ≤ g i j ∧ g i j ≤ 1000000) : ∀ (vs : List Nat) (i : Nat), i < n → within n vs → 0 ≤ wcost g i vs ∧ wcost g i vs ≤ 1000000 := by
  intro vs
  induction vs with
  | nil => intro i _ _; simp [wcost]
  | cons v vs ih =>
    intro i hi hv
    obtain ⟨h1, h2⟩ := within_cons hv
    have a := hg i v hi h1
    have b := ih v h1 h2
    simp only [wcost]
    unfold addc
    omega
theorem wcost_suffix {n : Nat} {g : Nat → Nat → Int} (hg : ∀ i j, i < n → j < n → 0 ≤ g i j ∧ g i j ≤ 1000000) : ∀ (p : List Nat) (i u : Nat) (r : List Nat), i < n → within n (p ++ u :: r) → wcost g u r ≤ wcost g i (p ++ u :: r) ∧ wend i (p ++ u :: r) = wend u r := by
  intro p
  induction p with
  | nil =>
    intro i u r hi hw
    obtain ⟨h1, h2⟩ := within_cons hw
    have a := hg i u hi h1
    have b := wcost_nn hg r u h1 h2
    refine ⟨?_, rfl⟩
    simp only [List.nil_append, wcost]
    unfold addc
    omega
  | cons v p ih =>
    intro i u r hi hw
    obtain ⟨h1, h2⟩ := within_cons hw
    have a := hg i v hi h1
    have b := wcost_nn hg (p ++ u :: r) v h1 h2
    have c := ih v u r h1 h2
    refine ⟨?_, c.2⟩
    simp only [List.cons_append, wcost]
    have d := c.1
    unfold addc
    omega
theorem shorter {n : Nat} {g : Nat → Nat → Int} (hg : ∀ i j, i < n → j < n → 0 ≤ g i j ∧ g i j ≤ 1000000) : ∀ (vs : List Nat) (i : Nat), i < n → within n vs → ¬ (i :: vs).Nodup → ∃ ws, ws.length < vs.length ∧ within n ws ∧ wend i ws = wend i vs ∧ wcost g i ws ≤ wcost g i vs := by
  intro vs
  induction vs with
  | nil => intro i _ _ h; simp at h
  | cons v vs ih =>
    intro i hi hv hd
    obtain ⟨h1, h2⟩ := within_cons hv
    by_cases hm : i ∈ v :: vs
    · obtain ⟨p, r, e⟩ := List.append_of_mem hm
      have hw : within n (p ++ i :: r) := by rw [← e]; exact hv
      have hs := wcost_suffix hg p i i r hi hw
      refine ⟨r, ?_, fun x hx => hw x (by simp [hx]), ?_, ?_⟩
      · rw [e]; simp; omega
      · rw [e, hs.2]
      · rw [e]; exact hs.1
    · have hd2 : ¬ (v :: vs).Nodup := fun h => hd (List.nodup_cons.2 ⟨hm, h⟩)
      obtain ⟨ws, hl, hw, he, hc⟩ := ih v h1 h2 hd2
      refine ⟨v :: ws, by simp; omega, ?_, he, ?_⟩
      · intro x hx
        rcases List.mem_cons.1 hx with rfl | hx
        · exact h1
        · exact hw x hx
      · simp only [wcost]
        unfold addc
        omega
theorem nodup_short : ∀ (n : Nat) (l : List Nat), within n l → l.Nodup → l.length ≤ n := by
  intro n
  induction n with
  | zero =>
    intro l hw _
    cases l with
    | nil => simp
    | cons a l => have := (within_cons hw).1; omega
  | succ n ih =>
    intro l hw hd
    by_cases hm : n ∈ l
    · have hl := List.length_erase_of_mem hm
      have h2 := ih (l.erase n) (fun x hx => by
        have h3 := (hd.mem_erase_iff).1 hx
        have := hw x h3.2
        omega) (hd.erase n)
      have : 0 < l.length := List.length_pos_of_mem hm
      omega
    · have := ih l (fun x hx => by
        have := hw x hx
        have : x ≠ n := fun e => hm (e ▸ hx)
        omega) hd
      omega
theorem le_powN {n : Nat} {a : List Int} (ha : Ok n a) : ∀ (k i j : Nat), i < n → j < n → ∀ x, (x ≤ ent n (powN n a k) i j ↔ x ≤ 1000000 ∧ ∀ vs, vs.length = k → within n vs → wend i vs = j → x ≤ wcost (ent n a) i vs) := by
  intro k
  induction k with
  | zero =>
    intro i j hi hj x
    show x ≤ ent n (unitm n) i j ↔ _
    rw [ent_unit hi hj]
    constructor
    · intro h
      refine ⟨by split at h <;> omega, fun vs hl _ he => ?_⟩
      obtain rfl := List.eq_nil_of_length_eq_zero hl
      simp only [wend] at he
      rw [if_pos he] at h
      simpa [wcost] using h
    · rintro ⟨h0, h⟩
      by_cases e : i = j
      · rw [if_pos e]
        simpa [wcost] using h [] rfl (fun _ h => by simp at h) (by simpa [wend] using e)
      · rw [if_neg e]; exact h0
  | succ k ih =>
    intro i j hi hj x
    have hp : powN n a (k + 1) = mulm n a (powN n a k) := by
      rw [Nat.add_comm, powN_add ha, powN_one ha]
    rw [hp, ent_mul _ _ hi hj, le_dot]
    constructor
    · rintro ⟨h0, h⟩
      refine ⟨h0, fun vs hl hw he => ?_⟩
      cases vs with
      | nil => simp at hl
      | cons v vs =>
        obtain ⟨h1, h2⟩ := within_cons hw
        have h3 := h v h1
        have b := ha.bd hi h1
        have h4 := (ih v j h1 hj (x - ent n a i v)).1 (by unfold addc at h3; omega)
        have h5 := h4.2 vs (by simpa using hl) h2 he
        simp only [wcost]
        unfold addc
        omega
    · rintro ⟨h0, h⟩
      refine ⟨h0, fun l hl => ?_⟩
      have b := ha.bd hi hl
      have h4 := (ih l j hl hj (x - ent n a i l)).2 ⟨by omega, fun vs hv hw he => by
        have h5 := h (l :: vs) (by simpa using hv) (fun y hy => by
          rcases List.mem_cons.1 hy with rfl | hy
          · exact hl
          · exact hw y hy) he
        simp only [wcost] at h5
        unfold addc at h5
        omega⟩
      unfold addc
      omega
/-- Walks that stay where they are first. -/
theorem wcost_stay {n : Nat} {g : Nat → Nat → Int} (hg : ∀ i j, i < n → j < n → 0 ≤ g i j ∧ g i j ≤ 1000000) (hz : ∀ i, i < n → g i i = 0) {i : Nat} (hi : i < n) {vs : List Nat} (hw : within n vs) : ∀ d, wcost g i (List.replicate d i ++ vs) = wcost g i vs ∧ wend i (List.replicate d i ++ vs) = wend i vs ∧ within n (List.replicate d i ++ vs) := by
  intro d
  induction d with
  | zero => exact ⟨rfl, rfl, hw⟩
  | succ d ih =>
    have b := wcost_nn hg (List.replicate d i ++ vs) i hi ih.2.2
    refine ⟨?_, ih.2.1, ?_⟩
    · simp only [List.replicate_succ, List.cons_append, wcost, hz i hi]
      rw [← ih.1]
      unfold addc
      omega
    · intro x hx
      simp only [List.replicate_succ, List.cons_append] at hx
      rcases List.mem_cons.1 hx with rfl | hx
      · exact hi
      · exact ih.2.2 x hx
theorem powN_stable {n : Nat} {a : List Int} (ha : Ok n a) (hz : ∀ i, i < n → ent n a i i = 0) : powN n a (n + 1) = powN n a n := by
  have hg : ∀ i j, i < n → j < n → 0 ≤ ent n a i j ∧ ent n a i j ≤ 1000000 := fun i j hi hj => ha.bd hi hj
  refine (ha.powN _).ext (ha.powN _) fun i j hi hj => ?_
  apply eq_le
  intro x
  rw [le_powN ha _ i j hi hj, le_powN ha _ i j hi hj]
  constructor
  · rintro ⟨h0, h⟩
    refine ⟨h0, fun vs hl hw he => ?_⟩
    have hs := wcost_stay hg hz hi hw 1
    have := h _ (by simp; omega) hs.2.2 (by rw [hs.2.1, he])
    rw [hs.1] at this
    exact this
  · rintro ⟨h0, h⟩
    refine ⟨h0, fun vs hl hw he => ?_⟩
    have hd : ¬ (i :: vs).Nodup := fun hd => by
      have := nodup_short n (i :: vs) (fun y hy => by
        rcases List.mem_cons.1 hy with rfl | hy
        · exact hi
        · exact hw y hy) hd
      simp at this
      omega
    obtain ⟨ws, hl2, hw2, he2, hc⟩ := shorter hg vs i hi hw hd
    have hs := wcost_stay hg hz hi hw2 (n - ws.length)
    have := h _ (by simp; omega) hs.2.2 (by rw [hs.2.1, he2, he])
    rw [hs.1] at this
    omega
theorem powN_after {n : Nat} {a : List Int} (ha : Ok n a) (hz : ∀ i, i < n → ent n a i i = 0) : ∀ d, powN n a (n + d) = powN n a n := by
  intro d
  induction d with
  | zero => rfl
  | succ d ih =>
    show mulm n (powN n a (n + d)) a = _
    rw [ih]
    exact powN_stable ha hz
theorem le_two_pow (n : Nat) : n ≤ 2 ^ n := Nat.le_of_lt Nat.lt_two_pow_self
/-- With no cost of staying: the star. -/
def starm (n : Nat) (a : List Int) : List Int := powN n (minm n a (unitm n)) n
theorem zero_diag {n : Nat} {a : List Int} (ha : Ok n a) : ∀ i, i < n → ent n (minm n a (unitm n)) i i = 0 := by
  intro i hi
  have := ha.bd hi hi
  rw [ent_min _ _ hi hi, ent_unit hi hi, if_pos rfl]
  omega
theorem starR_ok {n : Nat} {a : List Int} (ha : Ok n a) : starR (n : Int) a = ((n : Int), starm n a, true) := by
  have hU := Ok.unit ha.h1 ha.h4
  rw [starR, if_pos ha.mv, Int.toNat_natCast, starIt_powN n (ha.min hU)]
  have e : 2 ^ n = n + (2 ^ n - n) := by have := le_two_pow n; omega
  rw [e, powN_after (ha.min hU) (zero_diag ha)]
  rfl
theorem Ok.star {n : Nat} {a : List Int} (ha : Ok n a) : Ok n (starm n a) := (ha.min (Ok.unit ha.h1 ha.h4)).powN n
theorem star_mul_star {n : Nat} {a : List Int} (ha : Ok n a) : mulm n (starm n a) (starm n a) = starm n a := by
  have hB := ha.min (Ok.unit ha.h1 ha.h4)
  show mulm n (powN n _ n) (powN n _ n) = powN n _ n
  rw [← powN_add hB, powN_after hB (zero_diag ha)]
theorem star_min_unit {n : Nat} {a : List Int} (ha : Ok n a) : minm n (starm n a) (unitm n) = starm n a := by
  have hB := ha.min (Ok.unit ha.h1 ha.h4)
  have hU := Ok.unit ha.h1 ha.h4
  refine (ha.star.min hU).ext ha.star fun i j hi hj => ?_
  rw [ent_min _ _ hi hj, ent_unit hi hj]
  have b := ha.star.bd hi hj
  by_cases e : i = j
  · subst e
    rw [if_pos rfl]
    have hg : ∀ i j, i < n → j < n → 0 ≤ ent n (minm n a (unitm n)) i j ∧ ent n (minm n a (unitm n)) i j ≤ 1000000 := fun i j hi hj => hB.bd hi hj
    have hs := wcost_stay hg (zero_diag ha) hi (vs := []) (fun _ h => by simp at h) n
    have h1 := ((le_powN hB n i i hi hi (ent n (starm n a) i i)).1 (Int.le_refl _)).2 _ (by simp) hs.2.2 hs.2.1
    rw [hs.1] at h1
    simp only [wcost] at h1
    omega
  · rw [if_neg e]; omega
theorem star_star {n : Nat} {a : List Int} (ha : Ok n a) : starm n (starm n a) = starm n a := by
  have h : ∀ k, powN n (starm n a) (k + 1) = starm n a := by
    intro k
    induction k with
    | zero => exact powN_one ha.star
    | succ k ih => show mulm n (powN n (starm n a) (k + 1)) (starm n a) = _; rw [ih, star_mul_star ha]
  show powN n (minm n (starm n a) (unitm n)) n = _
  rw [star_min_unit ha]
  obtain ⟨m, rfl⟩ : ∃ m, n = m + 1 := ⟨n - 1, by have := ha.h1; omega⟩
  exact h m
/-- The least one of the powers up to so many. -/
def leastTo (n : Nat) (a : List Int) : Nat → List Int
  | 0 => unitm n
  | k + 1 => minm n (leastTo n a k) (powN n a k)
theorem Ok.leastTo {n : Nat} {a : List Int} (ha : Ok n a) : ∀ k, Ok n (leastTo n a k) := by
  intro k
  induction k with
  | zero => exact Ok.unit ha.h1 ha.h4
  | succ k ih => exact ih.min (ha.powN k)
theorem leastTo_mul {n : Nat} {a : List Int} (ha : Ok n a) : ∀ k, minm n (mulm n (leastTo n a (k + 1)) a) (leastTo n a (k + 1)) = leastTo n a (k + 2) := by
  have hU := Ok.unit ha.h1 ha.h4
  intro k
  induction k with
  | zero =>
    show minm n (mulm n (minm n (unitm n) (unitm n)) a) (minm n (unitm n) (unitm n)) = minm n (minm n (unitm n) (unitm n)) (powN n a 1)
    rw [min_self' hU, unit_mul ha, powN_one ha, min_comm' hU ha]
  | succ k ih =>
    have hL := ha.leastTo (k + 1)
    have hP := ha.powN (k + 1)
    have hP2 := ha.powN (k + 2)
    have hLa := hL.mul ha
    have e1 : leastTo n a (k + 2) = minm n (leastTo n a (k + 1)) (powN n a (k + 1)) := rfl
    have e2 : leastTo n a (k + 3) = minm n (leastTo n a (k + 2)) (powN n a (k + 2)) := rfl
    have e3 : mulm n (powN n a (k + 1)) a = powN n a (k + 2) := rfl
    have h1 : mulm n (leastTo n a (k + 2)) a = minm n (mulm n (leastTo n a (k + 1)) a) (powN n a (k + 2)) := by rw [e1, min_mul hL hP ha, e3]
    rw [e2, h1]
    refine ((hLa.min hP2).min (ha.leastTo _)).ext ((ha.leastTo _).min hP2) fun i j hi hj => ?_
    have h2 := congrArg (fun l => ent n l i j) ih
    simp only [ent_min _ _ hi hj] at h2
    have h3 : ent n (leastTo n a (k + 2)) i j = min (ent n (leastTo n a (k + 1)) i j) (ent n (powN n a (k + 1)) i j) := by rw [e1, ent_min _ _ hi hj]
    simp only [ent_min _ _ hi hj, show k + 1 + 1 = k + 2 from rfl]
    omega
theorem leastTo_star {n : Nat} {a : List Int} (ha : Ok n a) : leastTo n a (n + 1) = starm n a := by
  have hU := Ok.unit ha.h1 ha.h4
  have h : ∀ k, leastTo n a (k + 1) = powN n (minm n a (unitm n)) k := by
    intro k
    induction k with
    | zero => exact min_self' hU
    | succ k ih =>
      rw [← leastTo_mul ha k]
      show _ = mulm n (powN n (minm n a (unitm n)) k) (minm n a (unitm n))
      rw [← ih, mul_min ha hU (ha.leastTo _), mul_unit (ha.leastTo _)]
  exact h n
theorem star_next {n : Nat} {a : List Int} (ha : Ok n a) : minm n (starm n a) (mulm n (starm n a) a) = starm n a := by
  have hU := Ok.unit ha.h1 ha.h4
  have hB := ha.min hU
  have h1 : mulm n (starm n a) (minm n a (unitm n)) = starm n a := powN_stable hB (zero_diag ha)
  rw [mul_min ha hU ha.star, mul_unit ha.star] at h1
  rw [min_comm' (ha.star.mul ha) ha.star]
  exact h1
-- (r5) what is reached: as many rounds over the edges as there are states come to the least set that is closed.
def tr (b : List Bool) (i : Nat) : Bool := b.getD i false
theorem tr_set (b : List Bool) (i j : Nat) (v : Bool) : tr (b.set i v) j = if i = j ∧ i < b.length then v else tr b j := by
  unfold tr
  rw [List.getD_eq_getElem?_getD, List.getD_eq_getElem?_getD, List.getElem?_set]
  by_cases h : i = j
  · subst h
    by_cases hl : i < b.length
    · simp [hl]
    · simp [hl]
  · simp [h]
def one1 (b : List Bool) (e : Nat × Nat) : List Bool := if tr b e.1 = true then b.set e.2 true else b
def rnd1 (es : List (Nat × Nat)) (b : List Bool) : List Bool := es.foldl one1 b
def rnds (es : List (Nat × Nat)) : Nat → List Bool → List Bool
  | 0, b => b
  | k + 1, b => rnds es k (rnd1 es b)
theorem one1_len (b : List Bool) (e : Nat × Nat) : (one1 b e).length = b.length := by
  unfold one1
  split <;> simp
theorem rnd1_len : ∀ (es : List (Nat × Nat)) (b : List Bool), (rnd1 es b).length = b.length
  | [], _ => rfl
  | e :: es, b => by
    show (rnd1 es (one1 b e)).length = _
    rw [rnd1_len es, one1_len]
theorem rnds_len (es : List (Nat × Nat)) : ∀ (k : Nat) (b : List Bool), (rnds es k b).length = b.length
  | 0, _ => rfl
  | k + 1, b => by
    show (rnds es k (rnd1 es b)).length = _
    rw [rnds_len es k, rnd1_len]
theorem one1_up {b : List Bool} {i : Nat} (h : tr b i = true) (e : Nat × Nat) : tr (one1 b e) i = true := by
  unfold one1
  split
  · rw [tr_set]
    split
    · rfl
    · exact h
  · exact h
theorem rnd1_up : ∀ (es : List (Nat × Nat)) {b : List Bool} {i : Nat}, tr b i = true → tr (rnd1 es b) i = true
  | [], _, _, h => h
  | e :: es, _, _, h => rnd1_up es (one1_up h e)
theorem rnds_up (es : List (Nat × Nat)) : ∀ (k : Nat) {b : List Bool} {i : Nat}, tr b i = true → tr (rnds es k b) i = true
  | 0, _, _, h => h
  | k + 1, _, _, h => rnds_up es k (rnd1_up es h)
theorem one1_in {b : List Bool} {C : Nat → Prop} (h : ∀ i, tr b i = true → C i) {e : Nat × Nat} (he : C e.1 → C e.2) : ∀ i, tr (one1 b e) i = true → C i := by
  intro i hi
  unfold one1 at hi
  split at hi
  · rename_i hc
    rw [tr_set] at hi
    split at hi
    · rename_i hh
      rw [← hh.1]
      exact he (h _ hc)
    · exact h i hi
  · exact h i hi
theorem rnd1_in {C : Nat → Prop} : ∀ (es : List (Nat × Nat)) {b : List Bool}, (∀ i, tr b i = true → C i) → (∀ e ∈ es, C e.1 → C e.2) → ∀ i, tr (rnd1 es b) i = true → C i
  | [], _, h, _ => h
  | e :: es, _, h, he => rnd1_in es (one1_in h (he e List.mem_cons_self)) fun x hx => he x (List.mem_cons_of_mem _ hx)
theorem rnds_in {C : Nat → Prop} (es : List (Nat × Nat)) : ∀ (k : Nat) {b : List Bool}, (∀ i, tr b i = true → C i) → (∀ e ∈ es, C e.1 → C e.2) → ∀ i, tr (rnds es k b) i = true → C i
  | 0, _, h, _ => h
  | k + 1, _, h, he => rnds_in es k (rnd1_in es h he) he
def cnt (b : List Bool) : Nat := b.count true
theorem cnt_le (b : List Bool) : cnt b ≤ b.length := List.count_le_length
theorem cnt_set : ∀ (b : List Bool) (i : Nat), cnt b ≤ cnt (b.set i true) ∧ (cnt (b.set i true) = cnt b → b.set i true = b)
  | [], _ => ⟨Nat.le_refl _, fun _ => rfl⟩
  | x :: b, 0 => by
    cases x with
    | true => exact ⟨Nat.le_refl _, fun _ => rfl⟩
    | false =>
      have e : cnt (true :: b) = cnt b + 1 := by simp [cnt]
      have f : cnt (false :: b) = cnt b := by simp [cnt]
      rw [List.set_cons_zero, e, f]
      exact ⟨Nat.le_succ _, fun h => absurd h (by omega)⟩
  | x :: b, i + 1 => by
    obtain ⟨h1, h2⟩ := cnt_set b i
    have e : ∀ l : List Bool, cnt (x :: l) = cnt l + cnt [x] := fun l => by
      cases x <;> simp [cnt]
    rw [List.set_cons_succ, e (b.set i true), e b]
    exact ⟨by omega, fun h => by rw [h2 (by omega)]⟩
theorem cnt_one1 (b : List Bool) (e : Nat × Nat) : cnt b ≤ cnt (one1 b e) ∧ (cnt (one1 b e) = cnt b → one1 b e = b) := by
  unfold one1
  split
  · exact cnt_set b e.2
  · exact ⟨Nat.le_refl _, fun _ => rfl⟩
theorem cnt_rnd1 : ∀ (es : List (Nat × Nat)) (b : List Bool), cnt b ≤ cnt (rnd1 es b) ∧ (cnt (rnd1 es b) = cnt b → ∀ e ∈ es, one1 b e = b)
  | [], b => ⟨Nat.le_refl _, fun _ _ h => (List.not_mem_nil h).elim⟩
  | e :: es, b => by
    obtain ⟨h1, h2⟩ := cnt_one1 b e
    obtain ⟨h3, h4⟩ := cnt_rnd1 es (one1 b e)
    have er : rnd1 (e :: es) b = rnd1 es (one1 b e) := rfl
    rw [er]
    refine ⟨Nat.le_trans h1 h3, fun h x hx => ?_⟩
    have e1 := h2 (by omega)
    rw [e1] at h4 h
    rcases List.mem_cons.1 hx with rfl | hx
    · exact e1
    · exact h4 (by omega) x hx
/-- Where an edge begins in the set, it ends there. -/
def closed (es : List (Nat × Nat)) (b : List Bool) : Prop := ∀ e ∈ es, tr b e.1 = true → tr b e.2 = true
theorem closed_stays {b : List Bool} : ∀ {es : List (Nat × Nat)}, (∀ e ∈ es, e.2 < b.length) → closed es b → rnd1 es b = b
  | [], _, _ => rfl
  | e :: es, hb, h => by
    have e1 : one1 b e = b := by
      unfold one1
      split
      · rename_i hc
        have h2 := h e List.mem_cons_self hc
        have hl := hb e List.mem_cons_self
        refine List.ext_getElem (by simp) fun i h3 h4 => ?_
        rw [List.getElem_set]
        split
        · rename_i hi
          subst hi
          unfold tr at h2
          rw [List.getD_eq_getElem?_getD, List.getElem?_eq_getElem h4] at h2
          exact h2.symm
        · rfl
      · rfl
    show rnd1 es (one1 b e) = b
    rw [e1]
    exact closed_stays (fun x hx => hb x (List.mem_cons_of_mem _ hx)) fun x hx => h x (List.mem_cons_of_mem _ hx)
theorem rnds_stays {es : List (Nat × Nat)} {b : List Bool} (hb : ∀ e ∈ es, e.2 < b.length) (h : closed es b) : ∀ k, rnds es k b = b
  | 0 => rfl
  | k + 1 => by
    show rnds es k (rnd1 es b) = b
    rw [closed_stays hb h]
    exact rnds_stays hb h k
theorem rnds_grow {es : List (Nat × Nat)} : ∀ (k : Nat) {b : List Bool}, (∀ e ∈ es, e.2 < b.length) → closed es (rnds es k b) ∨ cnt b + k ≤ cnt (rnds es k b)
  | 0, _, _ => .inr (Nat.le_refl _)
  | k + 1, b, hb => by
    obtain ⟨h1, h2⟩ := cnt_rnd1 es b
    by_cases h : cnt (rnd1 es b) = cnt b
    · have hc : closed es b := fun e he ht => by
        have e1 := h2 h e he
        unfold one1 at e1
        rw [if_pos ht] at e1
        rw [← e1, tr_set, if_pos ⟨rfl, hb e he⟩]
      rw [rnds_stays hb hc]
      exact .inl hc
    · rcases rnds_grow k (b := rnd1 es b) (fun e he => by rw [rnd1_len]; exact hb e he) with hc | hc
      · exact .inl hc
      · right
        show cnt b + (k + 1) ≤ cnt (rnds es k (rnd1 es b))
        omega
theorem cnt_zero {b : List Bool} (h : cnt b = 0) (i : Nat) : tr b i = false := by
  unfold cnt at h
  rw [List.count_eq_zero] at h
  unfold tr
  rw [List.getD_eq_getElem?_getD]
  cases e : b[i]? with
  | none => rfl
  | some x =>
    cases x with
    | false => rfl
    | true => exact absurd (List.mem_of_getElem? e) h
theorem rnds_closed {es : List (Nat × Nat)} {b : List Bool} (hb : ∀ e ∈ es, e.2 < b.length) : closed es (rnds es b.length b) := by
  rcases Nat.eq_zero_or_pos (cnt b) with h | h
  · have hc : closed es b := fun e _ ht => by
      rw [cnt_zero h] at ht
      cases ht
    rw [rnds_stays hb hc]
    exact hc
  · rcases rnds_grow b.length hb with hc | hc
    · exact hc
    · have := cnt_le (rnds es b.length b)
      rw [rnds_len] at this
      omega
/-- The least closed set round some states is one. -/
structure Least (es : List (Nat × Nat)) (F : Nat → Prop) (S : List Bool) : Prop where
  base : ∀ i, F i → tr S i = true
  clos : closed es S
  least : ∀ C : Nat → Prop, (∀ i, F i → C i) → (∀ e ∈ es, C e.1 → C e.2) → ∀ i, tr S i = true → C i
theorem rnds_least {es : List (Nat × Nat)} {b : List Bool} (hb : ∀ e ∈ es, e.2 < b.length) : Least es (fun i => tr b i = true) (rnds es b.length b) :=
  ⟨fun _ h => rnds_up es _ h, rnds_closed hb, fun _ h1 h2 => rnds_in es _ h1 h2⟩
theorem Least.same {es fs : List (Nat × Nat)} {F : Nat → Prop} {S T : List Bool} (h : Least es F S) (k : Least fs F T) (he : ∀ e, e ∈ es ↔ e ∈ fs) (i : Nat) : tr S i = tr T i := by
  have h1 : tr S i = true → tr T i = true := h.least (fun i => tr T i = true) k.base (fun e hm => k.clos e ((he e).1 hm)) i
  have h2 : tr T i = true → tr S i = true := k.least (fun i => tr S i = true) h.base (fun e hm => h.clos e ((he e).2 hm)) i
  cases hs : tr S i <;> cases ht : tr T i <;> simp_all
-- (r5) where the star of a matrix of small costs leads, and what is reached, are the same.
theorem dot_lt {f : Nat → Int} {m : Nat} (h : dotTo f m < 1000000) : ∃ l, l < m ∧ f l < 1000000 := by
  refine Classical.byContradiction fun hn => ?_
  have : (1000000 : Int) ≤ dotTo f m := le_dot.2 ⟨Int.le_refl _, fun l hl => by
    refine Int.not_lt.1 fun hh => hn ⟨l, hl, hh⟩⟩
  omega
theorem dot_at {f : Nat → Int} {m l : Nat} (hl : l < m) : dotTo f m ≤ f l := (le_dot.1 (Int.le_refl (dotTo f m))).2 l hl
/-- Costs that are small, or none. -/
def small (n : Nat) (a : List Int) (c : Int) : Prop := ∀ i j, i < n → j < n → ent n a i j ≤ c ∨ ent n a i j = 1000000
theorem small_min {n : Nat} {a : List Int} (hs : small n a 3) : small n (minm n a (unitm n)) 3 := by
  intro i j hi hj
  rw [ent_min _ _ hi hj, ent_unit hi hj]
  have := hs i j hi hj
  split <;> omega
theorem pow_small {n : Nat} {b : List Int} (hb : Ok n b) (hs : small n b 3) : ∀ k, small n (powN n b k) (3 * (k : Int))
  | 0, i, j, hi, hj => by
    show ent n (unitm n) i j ≤ _ ∨ ent n (unitm n) i j = _
    rw [ent_unit hi hj]
    split
    · exact .inl (by omega)
    · exact .inr rfl
  | k + 1, i, j, hi, hj => by
    have ih := pow_small hb hs k
    have hbd := (hb.powN (k + 1)).bd hi hj
    by_cases h : ent n (powN n b (k + 1)) i j < 1000000
    · left
      have e : ent n (powN n b (k + 1)) i j = dotTo (fun l => addc (ent n (powN n b k) i l) (ent n b l j)) n := ent_mul _ _ hi hj
      rw [e] at h ⊢
      obtain ⟨l, hl, hlt⟩ := dot_lt h
      have h1 := ih i l hi hl
      have h2 := hs l j hl hj
      have h3 : dotTo (fun l => addc (ent n (powN n b k) i l) (ent n b l j)) n ≤ addc (ent n (powN n b k) i l) (ent n b l j) := dot_at hl
      have ek : (3 * ((k + 1 : Nat) : Int)) = 3 * (k : Int) + 3 := by omega
      rw [ek]
      have b1 := (hb.powN k).bd hi hl
      have b2 := hb.bd hl hj
      have hlt : addc (ent n (powN n b k) i l) (ent n b l j) < 1000000 := hlt
      have hle : addc (ent n (powN n b k) i l) (ent n b l j) = ent n (powN n b k) i l + ent n b l j := by
        unfold addc at hlt ⊢
        omega
      rw [hle] at h3 hlt
      omega
    · exact .inr (by omega)
theorem pow_in {n : Nat} {b : List Int} (hb : Ok n b) {C : Nat → Prop} (hC : ∀ i j, i < n → j < n → ent n b i j < 1000000 → C i → C j) {p : Nat} (hp : p < n) (h0 : C p) : ∀ k q, q < n → ent n (powN n b k) p q < 1000000 → C q
  | 0, q, hq, h => by
    have h : ent n (unitm n) p q < 1000000 := h
    rw [ent_unit hp hq] at h
    split at h
    · rename_i e
      exact e ▸ h0
    · omega
  | k + 1, q, hq, h => by
    have e : ent n (powN n b (k + 1)) p q = dotTo (fun l => addc (ent n (powN n b k) p l) (ent n b l q)) n := ent_mul _ _ hp hq
    rw [e] at h
    obtain ⟨l, hl, hlt⟩ := dot_lt h
    have b1 := (hb.powN k).bd hp hl
    have b2 := hb.bd hl hq
    unfold addc at hlt
    exact hC l q hl hq (by omega) (pow_in hb hC hp h0 k l hl (by omega))
theorem star_self {n : Nat} {a : List Int} (ha : Ok n a) {p : Nat} (hp : p < n) : ent n (starm n a) p p ≤ 0 := by
  have e := star_min_unit ha
  have h : ent n (minm n (starm n a) (unitm n)) p p = ent n (starm n a) p p := by rw [e]
  rw [ent_min _ _ hp hp, ent_unit hp hp, if_pos rfl] at h
  omega
theorem star_step {n : Nat} {a : List Int} (ha : Ok n a) {p q j : Nat} (hp : p < n) (hq : q < n) (hj : j < n) : ent n (starm n a) p j ≤ addc (ent n (starm n a) p q) (ent n a q j) := by
  have e := star_next ha
  have h : ent n (minm n (starm n a) (mulm n (starm n a) a)) p j = ent n (starm n a) p j := by rw [e]
  rw [ent_min _ _ hp hj, ent_mul _ _ hp hj] at h
  have := dot_at (f := fun l => addc (ent n (starm n a) p l) (ent n a l j)) hq
  omega
theorem star_both {n : Nat} {a : List Int} (ha : Ok n a) {p q j : Nat} (hp : p < n) (hq : q < n) (hj : j < n) : ent n (starm n a) p j ≤ addc (ent n (starm n a) p q) (ent n (starm n a) q j) := by
  have e := star_mul_star ha
  have h : ent n (mulm n (starm n a) (starm n a)) p j = ent n (starm n a) p j := by rw [e]
  rw [ent_mul _ _ hp hj] at h
  have := dot_at (f := fun l => addc (ent n (starm n a) p l) (ent n (starm n a) l j)) hq
  omega
theorem star_small {n : Nat} {a : List Int} (ha : Ok n a) (hs : small n a 3) : small n (starm n a) 12 := by
  intro i j hi hj
  have h := pow_small (ha.min (Ok.unit ha.h1 ha.h4)) (small_min hs) n i j hi hj
  have h4 := ha.h4
  show ent n (powN n (minm n a (unitm n)) n) i j ≤ 12 ∨ ent n (powN n (minm n a (unitm n)) n) i j = 1000000
  omega
theorem star_in {n : Nat} {a : List Int} (ha : Ok n a) {C : Nat → Prop} (hC : ∀ i j, i < n → j < n → ent n a i j < 1000000 → C i → C j) {p q : Nat} (hp : p < n) (hq : q < n) (h0 : C p) (h : ent n (starm n a) p q < 1000000) : C q := by
  refine pow_in (ha.min (Ok.unit ha.h1 ha.h4)) (fun i j hi hj hb hc => ?_) hp h0 n q hq h
  rw [ent_min _ _ hi hj, ent_unit hi hj] at hb
  by_cases e : i = j
  · exact e ▸ hc
  · rw [if_neg e] at hb
    exact hC i j hi hj (by omega) hc
theorem Least.star {n : Nat} {a : List Int} (ha : Ok n a) (hs : small n a 3) {es : List (Nat × Nat)} (hes : ∀ e, e ∈ es ↔ e.1 < n ∧ e.2 < n ∧ ent n a e.1 e.2 < 1000000) {F : Nat → Prop} (hF : ∀ p, F p → p < n) {S : List Bool} (h : Least es F S) {q : Nat} (hq : q < n) : tr S q = true ↔ ∃ p, F p ∧ ent n (starm n a) p q < 1000000 := by
  constructor
  · intro ht
    have := h.least (fun q => ∃ p, F p ∧ q < n ∧ ent n (starm n a) p q < 1000000) (fun p hp => ⟨p, hp, hF p hp, by have := star_self ha (hF p hp); omega⟩) (fun e he ⟨p, hp, hx, hy⟩ => by
      obtain ⟨h1, h2, h3⟩ := (hes e).1 he
      refine ⟨p, hp, h2, ?_⟩
      have a1 := star_step ha (hF p hp) h1 h2
      have a2 := star_small ha hs p e.1 (hF p hp) h1
      have a3 := hs e.1 e.2 h1 h2
      unfold addc at a1
      omega) q ht
    obtain ⟨p, hp, _, hy⟩ := this
    exact ⟨p, hp, hy⟩
  · rintro ⟨p, hp, hy⟩
    exact star_in ha (C := fun i => tr S i = true) (fun i j hi hj hb hc => h.clos (i, j) ((hes (i, j)).2 ⟨hi, hj, hb⟩) hc) (hF p hp) hq (h.base p hp) hy
theorem Least.back {n : Nat} {a : List Int} (ha : Ok n a) (hs : small n a 3) {es : List (Nat × Nat)} (hes : ∀ e, e ∈ es ↔ e.1 < n ∧ e.2 < n ∧ ent n a e.2 e.1 < 1000000) {F : Nat → Prop} (hF : ∀ p, F p → p < n) {S : List Bool} (h : Least es F S) {q : Nat} (hq : q < n) : tr S q = true ↔ ∃ p, F p ∧ ent n (starm n a) q p < 1000000 := by
  constructor
  · intro ht
    have := h.least (fun q => ∃ p, F p ∧ q < n ∧ ent n (starm n a) q p < 1000000) (fun p hp => ⟨p, hp, hF p hp, by have := star_self ha (hF p hp); omega⟩) (fun e he ⟨p, hp, hx, hy⟩ => by
      obtain ⟨h1, h2, h3⟩ := (hes e).1 he
      refine ⟨p, hp, h2, ?_⟩
      have a0 := star_self ha h2
      have a1 := star_step ha h2 h2 h1
      have a2 := star_both ha h2 h1 (hF p hp)
      have a3 := hs e.2 e.1 h2 h1
      have a4 := star_small ha hs e.1 p h1 (hF p hp)
      have a5 := ha.star.bd h2 h2
      have a6 := ha.bd h2 h1
      unfold addc at a1 a2
      omega) q ht
    obtain ⟨p, hp, _, hy⟩ := this
    exact ⟨p, hp, hy⟩
  · rintro ⟨p, hp, hy⟩
    refine Classical.byContradiction fun hn => ?_
    have := star_in ha (C := fun i => ¬ tr S i = true) (fun i j hi hj hb hc hj' => hc (h.clos (j, i) ((hes (j, i)).2 ⟨hj, hi, hb⟩) hj')) hq (hF p hp) hn hy
    exact this (h.base p hp)
-- (r5) the edges of an automaton and its matrices.
theorem key_one {l : List S32} (h : inOrder l) {s t : S32} (hs : s ∈ l) (ht : t ∈ l) (hk : sameKey s t) : s = t := by
  obtain ⟨i, hi, rfl⟩ := List.mem_iff_getElem.1 hs
  obtain ⟨j, hj, rfl⟩ := List.mem_iff_getElem.1 ht
  have hp := List.pairwise_iff_getElem.1 h
  rcases Nat.lt_trichotomy i j with e | e | e
  · have := hp i j hi hj e
    rw [sLt_same hk ⟨rfl, rfl, rfl⟩, sLt_irr] at this
    cases this
  · subst e
    rfl
  · have := hp j i hj hi e
    rw [sLt_same hk.symm ⟨rfl, rfl, rfl⟩, sLt_irr] at this
    cases this
theorem sIdx_of {n : Nat} {s : S32} {i j : Nat} (h0 : s.f0 = (i : Int)) (h2 : s.f2 = (j : Int)) : sIdx n s = i * n + j := by
  rw [sIdx, h0, h2, ← Int.natCast_mul, ← Int.natCast_add, Int.toNat_natCast]
theorem ent_at {n : Nat} {m : List Int} {i j : Nat} {v : Int} (h : m[i * n + j]? = some v) : ent n m i j = v := by
  unfold ent
  simp [rd, List.getD_eq_getElem?_getD, h]
/-- A place of a letter's matrix: the cost of its one step, or none. -/
theorem step_ent {n : Nat} (h4 : n ≤ 4) {l : List S32} (h : stepsOk (n : Int) l = true) (c : ByteArray) {i j : Nat} (hi : i < n) (hj : j < n) :
    (∃ s ∈ l, hasC c s = true ∧ s.f0 = (i : Int) ∧ s.f2 = (j : Int) ∧ ent n (stepmat n c l) i j = s.f3) ∨ ((∀ s ∈ l, hasC c s = true → ¬ (s.f0 = (i : Int) ∧ s.f2 = (j : Int))) ∧ ent n (stepmat n c l) i j = 1000000) := by
  obtain ⟨h1, h2, _⟩ := stepmat_at h4 h c
  by_cases hex : ∃ s ∈ l, hasC c s = true ∧ s.f0 = (i : Int) ∧ s.f2 = (j : Int)
  · obtain ⟨s, hs, hc, e0, e2⟩ := hex
    have := h1 s hs hc
    rw [sIdx_of e0 e2] at this
    exact .inl ⟨s, hs, hc, e0, e2, ent_at this⟩
  · have hno : ∀ s ∈ l, hasC c s = true → ¬ (s.f0 = (i : Int) ∧ s.f2 = (j : Int)) := fun s hs hc hh => hex ⟨s, hs, hc, hh.1, hh.2⟩
    refine .inr ⟨hno, ent_at (h2 _ (idx_lt hi hj) fun s hs hc e => ?_)⟩
    have hb := (sOk_iff.1 (stepsOk_mem h hs)).1
    obtain ⟨i', hi'⟩ := Int.eq_ofNat_of_zero_le hb.1
    obtain ⟨j', hj'⟩ := Int.eq_ofNat_of_zero_le hb.2.2.1
    rw [sIdx_of hi' hj'] at e
    have d := div_idx (n := n) (i := i) (k := j) hj
    have d' := div_idx (n := n) (i := i') (k := j') (by omega)
    rw [e] at d'
    have x := d'.1.symm.trans d.1
    have y := d'.2.symm.trans d.2
    exact hno s hs hc ⟨by omega, by omega⟩
theorem step_small {n : Nat} (h4 : n ≤ 4) {l : List S32} (h : stepsOk (n : Int) l = true) (c : ByteArray) : small n (stepmat n c l) 3 := by
  intro i j hi hj
  rcases step_ent h4 h c hi hj with ⟨s, hs, _, _, _, e⟩ | ⟨_, e⟩
  · have := (sOk_iff.1 (stepsOk_mem h hs)).1
    omega
  · exact .inr e
/-- The matrix of the automaton turned is the matrix turned. -/
theorem stepmat_turn {n : Nat} (h1 : 1 ≤ n) (h4 : n ≤ 4) {l : List S32} (h : stepsOk (n : Int) l = true) (c : ByteArray) : turnm n (stepmat n c l) = stepmat n c (revL l) := by
  obtain ⟨hk, ho⟩ := stepsOk_iff.1 h
  have hr : stepsOk (n : Int) (revL l) = true := stepsOk_iff.2 ⟨fun s hs => sOk_rev.1 (hk _ ((revL_mem l s).1 hs)), revL_order ho⟩
  refine (stepmat_ok h1 h4 c hk).turn.ext (stepmat_ok h1 h4 c (stepsOk_iff.1 hr).1) fun i j hi hj => ?_
  rw [ent_turn _ hi hj]
  rcases step_ent h4 h c hj hi with ⟨s, hs, hc, e0, e2, e⟩ | ⟨hno, e⟩
  · rcases step_ent h4 hr c hi hj with ⟨t, ht, hd, f0, f2, f⟩ | ⟨hno, f⟩
    · have hkey : sameKey (revS t) s := by
        refine ⟨f2.trans e0.symm, ?_, f0.trans e2.symm⟩
        simp only [hasC, decide_eq_true_eq] at hc hd
        exact hd.trans hc.symm
      have := key_one ho ((revL_mem l t).1 ht) hs hkey
      rw [e, f, ← this]
      rfl
    · exact absurd ⟨e2, e0⟩ (hno (revS s) ((revL_mem l _).2 hs) hc)
  · rcases step_ent h4 hr c hi hj with ⟨t, ht, hd, f0, f2, f⟩ | ⟨_, f⟩
    · exact absurd ⟨f2, f0⟩ (hno (revS t) ((revL_mem l t).1 ht) hd)
    · rw [e, f]
/-- The edges. -/
def edges (l : List S32) : List (Nat × Nat) := l.map fun s => (s.f0.toNat, s.f2.toNat)
def bothm (n : Nat) (l : List S32) : List Int := minm n (stepmat n ⟨#[97]⟩ l) (stepmat n ⟨#[98]⟩ l)
theorem both_small {n : Nat} (h4 : n ≤ 4) {l : List S32} (h : stepsOk (n : Int) l = true) : small n (bothm n l) 3 := by
  intro i j hi hj
  unfold bothm
  rw [ent_min _ _ hi hj]
  have a := step_small h4 h ⟨#[97]⟩ i j hi hj
  have b := step_small h4 h ⟨#[98]⟩ i j hi hj
  omega
theorem both_edge {n : Nat} (h4 : n ≤ 4) {l : List S32} (h : stepsOk (n : Int) l = true) {i j : Nat} (hi : i < n) (hj : j < n) : ent n (bothm n l) i j < 1000000 ↔ ∃ s ∈ l, s.f0 = (i : Int) ∧ s.f2 = (j : Int) := by
  unfold bothm
  rw [ent_min _ _ hi hj]
  constructor
  · intro hlt
    rcases step_ent h4 h ⟨#[97]⟩ hi hj with ⟨s, hs, _, e0, e2, _⟩ | ⟨_, e⟩
    · exact ⟨s, hs, e0, e2⟩
    · rcases step_ent h4 h ⟨#[98]⟩ hi hj with ⟨s, hs, _, e0, e2, _⟩ | ⟨_, f⟩
      · exact ⟨s, hs, e0, e2⟩
      · omega
  · rintro ⟨s, hs, e0, e2⟩
    have hb := sOk_iff.1 (stepsOk_mem h hs)
    have e97 : (⟨#[97]⟩ : ByteArray).toList = [97] := by rw [ByteArray.toList_eq]
    have e98 : (⟨#[98]⟩ : ByteArray).toList = [98] := by rw [ByteArray.toList_eq]
    rcases hb.2 with hl | hl
    · have hc : hasC ⟨#[97]⟩ s = true := by simp only [hasC, decide_eq_true_eq]; rw [hl, e97]
      rcases step_ent h4 h ⟨#[97]⟩ hi hj with ⟨t, ht, _, _, _, e⟩ | ⟨hno, _⟩
      · have := (sOk_iff.1 (stepsOk_mem h ht)).1
        omega
      · exact absurd ⟨e0, e2⟩ (hno s hs hc)
    · have hc : hasC ⟨#[98]⟩ s = true := by simp only [hasC, decide_eq_true_eq]; rw [hl, e98]
      rcases step_ent h4 h ⟨#[98]⟩ hi hj with ⟨t, ht, _, _, _, e⟩ | ⟨hno, _⟩
      · have := (sOk_iff.1 (stepsOk_mem h ht)).1
        omega
      · exact absurd ⟨e0, e2⟩ (hno s hs hc)
theorem edges_iff {n : Nat} (h4 : n ≤ 4) {l : List S32} (h : stepsOk (n : Int) l = true) (e : Nat × Nat) : e ∈ edges l ↔ e.1 < n ∧ e.2 < n ∧ ent n (bothm n l) e.1 e.2 < 1000000 := by
  unfold edges
  rw [List.mem_map]
  constructor
  · rintro ⟨s, hs, rfl⟩
    have hb := (sOk_iff.1 (stepsOk_mem h hs)).1
    have h1 : s.f0.toNat < n := by omega
    have h2 : s.f2.toNat < n := by omega
    exact ⟨h1, h2, (both_edge h4 h h1 h2).2 ⟨s, hs, by show s.f0 = ((s.f0.toNat : Nat) : Int); omega, by show s.f2 = ((s.f2.toNat : Nat) : Int); omega⟩⟩
  · rintro ⟨h1, h2, h3⟩
    obtain ⟨s, hs, e0, e2⟩ := (both_edge h4 h h1 h2).1 h3
    exact ⟨s, hs, by rw [e0, e2, Int.toNat_natCast, Int.toNat_natCast]⟩
-- (r5) useful states.
theorem cnt_bound {b : List Bool} {N : Nat} (h : ∀ i, tr b i = true → i < N) : cnt b ≤ N := by
  have e : cnt b = cnt (b.take N) + cnt (b.drop N) := by
    unfold cnt
    rw [← List.count_append, List.take_append_drop]
  have h1 : cnt (b.take N) ≤ N := Nat.le_trans (cnt_le _) (List.length_take_le _ _)
  have h2 : cnt (b.drop N) = 0 := by
    unfold cnt
    rw [List.count_eq_zero]
    intro hm
    obtain ⟨i, hi, hx⟩ := List.mem_iff_getElem.1 hm
    rw [List.getElem_drop] at hx
    have : tr b (N + i) = true := by
      unfold tr
      rw [List.getD_eq_getElem?_getD, List.getElem?_eq_getElem (by rw [List.length_drop] at hi; omega), hx]
      rfl
    have := h _ this
    omega
  omega
theorem rnds_closed_n {es : List (Nat × Nat)} {b : List Bool} {N : Nat} (hb : ∀ e ∈ es, e.2 < b.length) (hN : ∀ e ∈ es, e.2 < N) (h0 : ∀ i, tr b i = true → i < N) : closed es (rnds es N b) := by
  rcases Nat.eq_zero_or_pos (cnt b) with h | h
  · have hc : closed es b := fun e _ ht => by
      rw [cnt_zero h] at ht
      cases ht
    rw [rnds_stays hb hc]
    exact hc
  · rcases rnds_grow N hb with hc | hc
    · exact hc
    · have := cnt_bound (rnds_in (C := fun i => i < N) es N h0 fun e he _ => hN e he)
      omega
theorem rnds_least_n {es : List (Nat × Nat)} {b : List Bool} {N : Nat} (hb : ∀ e ∈ es, e.2 < b.length) (hN : ∀ e ∈ es, e.2 < N) (h0 : ∀ i, tr b i = true → i < N) : Least es (fun i => tr b i = true) (rnds es N b) :=
  ⟨fun _ h => rnds_up es _ h, rnds_closed_n hb hN h0, fun _ h1 h2 => rnds_in es _ h1 h2⟩
/-- The truths of some states. -/
def marksB (N : Nat) (l : List Int) : List Bool := l.foldl (fun b q => b.set q.toNat true) (List.replicate N false)
theorem setB_len : ∀ (l : List Int) (b : List Bool), (l.foldl (fun b q => b.set q.toNat true) b).length = b.length
  | [], _ => rfl
  | q :: l, b => by
    rw [List.foldl_cons, setB_len l, List.length_set]
theorem marksB_len (N : Nat) (l : List Int) : (marksB N l).length = N := by
  unfold marksB
  rw [setB_len, List.length_replicate]
theorem tr_setB : ∀ (l : List Int) (b : List Bool) (i : Nat), tr (l.foldl (fun b q => b.set q.toNat true) b) i = true ↔ tr b i = true ∨ (i < b.length ∧ ∃ q ∈ l, q.toNat = i)
  | [], b, i => by simp
  | q :: l, b, i => by
    rw [List.foldl_cons, tr_setB l, tr_set, List.length_set]
    constructor
    · rintro (h | ⟨h, p, hp, e⟩)
      · split at h
        · rename_i hh
          exact .inr ⟨by omega, q, List.mem_cons_self, hh.1⟩
        · exact .inl h
      · exact .inr ⟨h, p, List.mem_cons_of_mem _ hp, e⟩
    · rintro (h | ⟨h, p, hp, e⟩)
      · left
        split
        · rfl
        · exact h
      · rcases List.mem_cons.1 hp with rfl | hp
        · left
          rw [if_pos ⟨e, by omega⟩]
        · exact .inr ⟨h, p, hp, e⟩
theorem tr_none (N i : Nat) : tr (List.replicate N false) i = false := by
  unfold tr
  rw [List.getD_eq_getElem?_getD]
  by_cases h : i < N
  · simp [h]
  · simp [h]
theorem tr_marksB {N : Nat} {l : List Int} (h0 : ∀ q ∈ l, 0 ≤ q) (i : Nat) : tr (marksB N l) i = true ↔ i < N ∧ (i : Int) ∈ l := by
  unfold marksB
  rw [tr_setB, tr_none, List.length_replicate]
  constructor
  · rintro (h | ⟨h, q, hq, e⟩)
    · cases h
    · have := h0 q hq
      refine ⟨h, ?_⟩
      have : q = (i : Int) := by omega
      exact this ▸ hq
  · rintro ⟨h, hm⟩
    exact .inr ⟨h, _, hm, Int.toNat_natCast i⟩
theorem asc_in {n : Nat} {l : List Int} (h : asc (n : Int) l = true) : ∀ q ∈ l, 0 ≤ q ∧ q < n := by
  intro q hq
  obtain ⟨i, hi, rfl⟩ := List.mem_iff_getElem.1 hq
  have := asc_iff.1 h i hi
  rw [rd_nat hi] at this
  exact ⟨this.1, this.2.1⟩
theorem edges_in {n : Nat} {l : List S32} (h : stepsOk (n : Int) l = true) : ∀ e ∈ edges l, e.1 < n ∧ e.2 < n := by
  intro e he
  obtain ⟨s, hs, rfl⟩ := List.mem_map.1 he
  have hb := (sOk_iff.1 (stepsOk_mem h hs)).1
  exact ⟨by show s.f0.toNat < n; omega, by show s.f2.toNat < n; omega⟩
def swapE (es : List (Nat × Nat)) : List (Nat × Nat) := es.map fun e => (e.2, e.1)
theorem mem_swapE (es : List (Nat × Nat)) (e : Nat × Nat) : e ∈ swapE es ↔ (e.2, e.1) ∈ es := by
  unfold swapE
  rw [List.mem_map]
  constructor
  · rintro ⟨x, hx, rfl⟩
    exact hx
  · intro h
    exact ⟨_, h, rfl⟩
theorem edges_rev (l : List S32) (e : Nat × Nat) : e ∈ edges (revL l) ↔ e ∈ swapE (edges l) := by
  rw [mem_swapE]
  unfold edges
  rw [List.mem_map, List.mem_map]
  constructor
  · rintro ⟨s, hs, rfl⟩
    exact ⟨revS s, (revL_mem l s).1 hs, rfl⟩
  · rintro ⟨s, hs, e'⟩
    refine ⟨revS s, (revL_mem l _).2 hs, ?_⟩
    have h1 : s.f0.toNat = e.2 := congrArg Prod.fst e'
    have h2 : s.f2.toNat = e.1 := congrArg Prod.snd e'
    show (s.f2.toNat, s.f0.toNat) = e
    rw [h1, h2]
/-- What is reached over edges in so many rounds, in a row of N truths. -/
def reachB (N n : Nat) (es : List (Nat × Nat)) (l : List Int) : List Bool := rnds es n (marksB N l)
theorem reachB_least {N n : Nat} (hNn : n ≤ N) {es : List (Nat × Nat)} (hes : ∀ e ∈ es, e.2 < n) {l : List Int} (hl : ∀ q ∈ l, 0 ≤ q ∧ q < n) : Least es (fun i => (i : Int) ∈ l) (reachB N n es l) := by
  have h := rnds_least_n (es := es) (b := marksB N l) (N := n) (fun e he => by rw [marksB_len]; have := hes e he; omega) hes fun i hi => by
    have := (tr_marksB (fun q hq => (hl q hq).1) i).1 hi
    have := (hl _ this.2).2
    omega
  have hF : ∀ i : Nat, (i : Int) ∈ l ↔ tr (marksB N l) i = true := fun i => by
    rw [tr_marksB fun q hq => (hl q hq).1]
    constructor
    · intro hm
      have := (hl _ hm).2
      exact ⟨by omega, hm⟩
    · exact fun hh => hh.2
  exact ⟨fun i hi => h.base i ((hF i).1 hi), h.clos, fun C h1 h2 => h.least C (fun i hi => h1 i ((hF i).2 hi)) h2⟩
/-- The useful states, as the code finds them. -/
def usefulL (n : Nat) (l1 l2 : List Int) (l3 : List S32) : List Int := ((List.range n).filter fun q => tr (reachB n n (edges l3) l1) q && tr (reachB n n (edges (revL l3)) l2) q).map Int.ofNat
theorem stepsOk_rev {n : Nat} {l : List S32} (h : stepsOk (n : Int) l = true) : stepsOk (n : Int) (revL l) = true := by
  obtain ⟨hk, ho⟩ := stepsOk_iff.1 h
  exact stepsOk_iff.2 ⟨fun s hs => sOk_rev.1 (hk _ ((revL_mem l s).1 hs)), revL_order ho⟩
/-- .. as the reference does. -/
theorem useful_spec {N n : Nat} (hNn : n ≤ N) {l1 l2 : List Int} {l3 : List S32} (h1 : asc (n : Int) l1 = true) (h2 : asc (n : Int) l2 = true) (h3 : stepsOk (n : Int) l3 = true) : ((List.range n).filter fun q => tr (reachB N n (edges l3) l1) q && tr (reachB N n (swapE (edges l3)) l2) q).map Int.ofNat = usefulL n l1 l2 l3 := by
  unfold usefulL
  have he := edges_in h3
  have hr := edges_in (stepsOk_rev h3)
  have hsw : ∀ e ∈ swapE (edges l3), e.2 < n := fun e hm => (he _ ((mem_swapE _ e).1 hm)).1
  have a := fun q => (reachB_least hNn (fun e hm => (he e hm).2) (asc_in h1)).same (reachB_least (Nat.le_refl n) (fun e hm => (he e hm).2) (asc_in h1)) (fun _ => Iff.rfl) q
  have b := fun q => (reachB_least hNn hsw (asc_in h2)).same (reachB_least (Nat.le_refl n) (fun e hm => (hr e hm).2) (asc_in h2)) (fun e => (edges_rev l3 e).symm) q
  refine congrArg _ (List.filter_congr fun q _ => ?_)
  rw [a q, b q]
/-- The automaton turned has the same useful states. -/
theorem useful_rev {n : Nat} {l1 l2 : List Int} {l3 : List S32} (h3 : inOrder l3) : usefulL n l2 l1 (revL l3) = usefulL n l1 l2 l3 := by
  unfold usefulL
  rw [revL_revL h3]
  refine congrArg _ (List.filter_congr fun q _ => ?_)
  rw [Bool.and_comm]
/-- .. and they are those to and from which the star leads. -/
theorem useful_star {n : Nat} (n1 : 1 ≤ n) (h4 : n ≤ 4) {l1 l2 : List Int} {l3 : List S32} (h1 : asc (n : Int) l1 = true) (h2 : asc (n : Int) l2 = true) (h3 : stepsOk (n : Int) l3 = true) :
    usefulL n l1 l2 l3 = ((List.range n).filter fun q => l1.any (fun p => decide (ent n (starm n (bothm n l3)) p.toNat q < 1000000)) && l2.any (fun p => decide (ent n (starm n (bothm n l3)) q p.toNat < 1000000))).map Int.ofNat := by
  unfold usefulL
  have hk := (stepsOk_iff.1 h3).1
  have ha : Ok n (bothm n l3) := (stepmat_ok n1 h4 _ hk).min (stepmat_ok n1 h4 _ hk)
  have he := edges_in h3
  have hr := edges_in (stepsOk_rev h3)
  refine congrArg _ (List.filter_congr fun q hq => ?_)
  have hqn : q < n := List.mem_range.1 hq
  have a := (reachB_least (Nat.le_refl n) (fun e hm => (he e hm).2) (asc_in h1)).star ha (both_small h4 h3) (edges_iff h4 h3) (fun p hp => by have := (asc_in h1 _ hp).2; omega) hqn
  have b := (reachB_least (Nat.le_refl n) (fun e hm => (hr e hm).2) (asc_in h2)).back ha (both_small h4 h3) (fun e => by
    rw [edges_rev, mem_swapE, edges_iff h4 h3]
    exact ⟨fun ⟨x, y, z⟩ => ⟨y, x, z⟩, fun ⟨x, y, z⟩ => ⟨y, x, z⟩⟩) (fun p hp => by have := (asc_in h2 _ hp).2; omega) hqn
  have e1 : tr (reachB n n (edges l3) l1) q = l1.any (fun p => decide (ent n (starm n (bothm n l3)) p.toNat q < 1000000)) := by
    rw [Bool.eq_iff_iff, a, List.any_eq_true]
    constructor
    · rintro ⟨p, hp, hlt⟩
      exact ⟨_, hp, by rw [Int.toNat_natCast]; exact decide_eq_true hlt⟩
    · rintro ⟨p, hp, hlt⟩
      have := (asc_in h1 p hp).1
      have ep : ((p.toNat : Nat) : Int) = p := by omega
      exact ⟨p.toNat, ep.symm ▸ hp, of_decide_eq_true hlt⟩
  have e2 : tr (reachB n n (edges (revL l3)) l2) q = l2.any (fun p => decide (ent n (starm n (bothm n l3)) q p.toNat < 1000000)) := by
    rw [Bool.eq_iff_iff, b, List.any_eq_true]
    constructor
    · rintro ⟨p, hp, hlt⟩
      exact ⟨_, hp, by rw [Int.toNat_natCast]; exact decide_eq_true hlt⟩
    · rintro ⟨p, hp, hlt⟩
      have := (asc_in h2 p hp).1
      have ep : ((p.toNat : Nat) : Int) = p := by omega
      exact ⟨p.toNat, ep.symm ▸ hp, of_decide_eq_true hlt⟩
  rw [e1, e2]
theorem asc_lt {n : Int} {l : List Int} (h : asc n l = true) : ∀ i j (hi : i < l.length) (hj : j < l.length), i < j → l[i] < l[j] := by
  have adj : ∀ j (hj : j + 1 < l.length), l[j] < l[j + 1] := fun j hj => by
    have := (asc_iff.1 h (j + 1) hj).2.2 (by omega)
    rw [show j + 1 - 1 = j by omega, rd_nat (show j < l.length by omega), rd_nat hj] at this
    exact this
  have key : ∀ d i (hd : i + d + 1 < l.length), l[i] < l[i + d + 1] := by
    intro d
    induction d with
    | zero => intro i hd; exact adj i hd
    | succ d ih => intro i hd; exact Int.lt_trans (ih i (by omega)) (adj (i + d + 1) hd)
  intro i j hi hj hij
  obtain ⟨d, rfl⟩ : ∃ d, j = i + d + 1 := ⟨j - i - 1, by omega⟩
  exact key d i hj
theorem asc_pair {n : Int} {l : List Int} (h : asc n l = true) : l.Pairwise fun x y => decide (x ≤ y) = true :=
  List.pairwise_iff_getElem.2 fun i j hi hj hij => decide_eq_true (Int.le_of_lt (asc_lt h i j hi hj hij))
theorem asc_short {n : Int} (hn : n ≤ 4) {l : List Int} (h : asc n l = true) : l.length ≤ 4 := by
  have key : ∀ j (hj : j < l.length), (j : Int) ≤ l[j] := by
    intro j
    induction j with
    | zero => intro hj; have := (asc_iff.1 h 0 hj).1; rw [rd_nat hj] at this; simpa using this
    | succ j ih => intro hj; have h1 := ih (by omega); have h2 := asc_lt h j (j + 1) (by omega) hj (by omega); omega
  rcases Nat.lt_or_ge 4 l.length with h4 | h4
  · have h1 := key 4 h4
    have h2 := (asc_iff.1 h 4 h4).2.1
    rw [rd_nat h4] at h2
    omega
  · exact h4
theorem so_is : Go.Proofs.ltOf so_ordS = sLt := so_ltOf
theorem srt_eq {l m : List S32} (hn : l.Pairwise fun s t => ¬ sameKey s t) (hm : inOrder m) (hmem : ∀ x, x ∈ m ↔ x ∈ l) : slices_SortFunc_Step_at_impl_stepOrder.srt l = m := by
  obtain ⟨hp, hs⟩ := slices_SortFunc_Step_at_impl_stepOrder.perm l
  rw [so_is] at hs
  rw [List.size_toArray] at hp hs
  have := sorted_eq hn hp hs hm hmem
  simpa using this
theorem impl_made_ev {n : Int} {l1 l2 : List Int} {l3 m : List S32} (h : av n l1 l2 m = true) (hl : l3.length ≤ 24) (hn : l3.Pairwise fun s t => ¬ sameKey s t) (hmem : ∀ x, x ∈ m ↔ x ∈ l3) : Ev (fun k => impl_made.f k n l1 l2 l3) (n, l1, l2, m, true) := by
  have h0 := h
  simp only [av, Bool.and_eq_true, decide_eq_true_eq] at h
  obtain ⟨⟨h1, h4⟩, ha, hb, hm, hs⟩ := h
  have c1 := asc_short h4 ha
  have c2 := asc_short h4 hb
  have e3 := srt_eq hn (stepsOk_iff.1 hs).2 hmem
  simp only [impl_made.f, slices_Clone_int_int.f, slices_Clone_Step.f, slices_Sort_int_int.f, slices_SortFunc_Step_at_impl_stepOrder.f, if_pos (show l1.length ≤ 1000 by omega), if_pos (show l2.length ≤ 1000 by omega), if_pos (show l3.length ≤ 1000 by omega), Option.bind_some, List.mergeSort_of_pairwise (asc_pair ha), List.mergeSort_of_pairwise (asc_pair hb), e3]
  have hv := impl_AutomatonValid_ev n l1 l2 m (by omega) (by omega) (by omega)
  rw [h0] at hv
  refine Ev.bind hv ?_
  simp only [if_true]
  exact Ev.now _
theorem av_len {n : Int} {l1 l2 : List Int} {l3 : List S32} (h : av n l1 l2 l3 = true) : 1 ≤ n ∧ n ≤ 4 ∧ l1.length ≤ 4 ∧ l2.length ≤ 4 ∧ l3.length ≤ 24 ∧ inOrder l3 := by
  simp only [av, Bool.and_eq_true, decide_eq_true_eq] at h
  obtain ⟨⟨h1, h4⟩, ha, hb, hm, hs⟩ := h
  exact ⟨h1, h4, asc_short h4 ha, asc_short h4 hb, hm, (stepsOk_iff.1 hs).2⟩
theorem impl_stepped_ev (l : List S32) (hl : l.length ≤ 1000000) : Ev (fun k => impl_stepped_at_impl_ReverseAutomaton_1.f k l) (l.map revS) := by
  have h := down l.length (P := fun i => Ev (fun k => impl_stepped_at_impl_ReverseAutomaton_1.l0 k ((l.take i).map revS) l (l.length : Int) (i : Int)) (l.map revS)) ?_ ?_ 0 (by omega)
  · simpa only [impl_stepped_at_impl_ReverseAutomaton_1.f, List.take_zero, List.map_nil, cast0] using h
  · refine Ev.step (fun k => rfl) ?_
    simp only [impl_stepped_at_impl_ReverseAutomaton_1.l0, if_neg (show ¬ (l.length : Int) < (l.length : Int) by omega), List.take_length]
    exact Ev.now _
  · intro i hi ih
    refine Ev.step (fun k => rfl) ?_
    have hlen : ((l.take i).map revS).length < 3518437208883 := by rw [List.length_map, List.length_take]; omega
    simp only [impl_stepped_at_impl_ReverseAutomaton_1.l0, if_pos (show (i : Int) < (l.length : Int) by omega), if_pos (nnc i), rdI_nat hi, impl_ReverseAutomaton_1.f, Option.bind_some, if_pos hlen, w64n (show i < 9223372036854775807 by omega)]
    rw [List.take_succ_eq_append_getElem hi, List.map_append] at ih
    exact ih
/-- An automaton turned, or none. -/
def revR (n : Int) (l1 l2 : List Int) (l3 : List S32) : Int × List Int × List Int × List S32 × Bool := if av n l1 l2 l3 = true then (n, l2, l1, revL l3, true) else (0, [], [], [], false)
theorem impl_ReverseAutomaton_ev (n : Int) (l1 l2 : List Int) (l3 : List S32) (h1 : l1.length < 9223372036854775807) (h2 : l2.length < 9223372036854775807) (h3 : l3.length < 9223372036854775807) : Ev (fun k => impl_ReverseAutomaton.f k n l1 l2 l3) (revR n l1 l2 l3) := by
  simp only [impl_ReverseAutomaton.f]
  refine Ev.bind (impl_AutomatonValid_ev n l1 l2 l3 h1 h2 h3) ?_
  unfold revR
  cases hv : av n l1 l2 l3 with
  | false =>
    simp only [Bool.false_eq_true, if_false]
    exact Ev.now _
  | true =>
    obtain ⟨_, _, _, _, hl, ho⟩ := av_len hv
    simp only [if_true]
    refine Ev.bind (impl_stepped_ev l3 (by omega)) (Ev.bind (impl_made_ev (av_rev hv) (by rw [List.length_map]; exact hl) (rev_apart ho) fun x => ?_) (Ev.now _))
    rw [revL_mem, List.mem_map]
    constructor
    · exact fun h => ⟨_, h, rev_rev x⟩
    · rintro ⟨s, hs, rfl⟩
      rwa [rev_rev]
theorem rdOf_tr (b : List Bool) (x : Int) : rdOf false b x = tr b x.toNat := rfl
theorem one1_as (b : List Bool) (f t : Nat) : (if tr b t = true then b.set t true else b.set t (tr b f)) = one1 b (f, t) := by
  unfold one1
  have hs : ∀ v, tr b t = v → b.set t v = b := fun v hv => by
    refine List.ext_getElem (by rw [List.length_set]) fun i h1 h2 => ?_
    rw [List.getElem_set]
    split
    · rename_i e
      subst e
      rw [← hv]
      unfold tr
      rw [List.getD_eq_getElem?_getD, List.getElem?_eq_getElem h2]
      rfl
    · rfl
  by_cases c : tr b t = true
  · rw [if_pos c, hs _ c]
    split <;> rfl
  · rw [if_neg c]
    cases h : tr b f with
    | true => rw [if_pos rfl]
    | false =>
      rw [if_neg (by decide)]
      exact hs _ (by simpa using c)
theorem impl_reached_ev (n : Nat) (hn : n ≤ 1000) (l1 l2 : List Int) (l3 : List S32) (h3 : l3.length ≤ 1000) (l : List Int) (hl : l.length ≤ 1000) (hq : ∀ q ∈ l, 0 ≤ q ∧ q < n) (hs : ∀ s ∈ l3, (0 ≤ s.f0 ∧ s.f0 < n) ∧ 0 ≤ s.f2 ∧ s.f2 < n) :
    Ev (fun k => impl_reached.f k n l1 l2 l3 l) (reachB n n (edges l3) l) := by
  simp only [impl_reached.f, if_pos (nnc n), Int.toNat_natCast, if_pos (show n ≤ 281474976710656 by omega)]
  have hround : ∀ i, i ≤ n → ∀ b : List Bool, b.length = n → Ev (fun k => impl_reached.l1 k b n i n l1 l2 l3) (rnds (edges l3) (n - i) b) := by
    refine down n (P := fun i => ∀ b : List Bool, b.length = n → Ev (fun k => impl_reached.l1 k b n i n l1 l2 l3) (rnds (edges l3) (n - i) b)) ?_ ?_
    · intro b _
      refine Ev.step (fun k => rfl) ?_
      simp only [impl_reached.l1, if_neg (show ¬ (n : Int) < (n : Int) by omega), Nat.sub_self]
      exact Ev.now _
    · intro i hi ih b hb
      refine Ev.step (fun k => rfl) ?_
      simp only [impl_reached.l1, if_pos (show (i : Int) < (n : Int) by omega)]
      have h := down l3.length (P := fun j => ∀ b : List Bool, b.length = n → Ev (fun k => impl_reached.l2 k b n i l3 (l3.length : Int) (j : Int) n l1 l2 l3) (rnds (edges l3) (n - (i + 1)) (((l3.drop j).map fun s => (s.f0.toNat, s.f2.toNat)).foldl one1 b))) ?_ ?_ 0 (by omega) b hb
      · refine ev_to (by simpa only [cast0] using h) ?_
        rw [show n - i = n - (i + 1) + 1 by omega]
        rfl
      · intro b hb
        refine Ev.step (fun k => rfl) ?_
        simp only [impl_reached.l2, if_neg (show ¬ (l3.length : Int) < (l3.length : Int) by omega), w64n (show i < 9223372036854775807 by omega), List.drop_length, List.map_nil, List.foldl_nil]
        exact ih b hb
      · intro j hj ihj b hb
        obtain ⟨⟨a0, a1⟩, c0, c1⟩ := hs _ (List.getElem_mem hj)
        refine Ev.step (fun k => rfl) ?_
        rw [List.drop_eq_getElem_cons hj, List.map_cons, List.foldl_cons]
        have e := one1_as b l3[j].f0.toNat l3[j].f2.toNat
        have hb' : (one1 b (l3[j].f0.toNat, l3[j].f2.toNat)).length = n := by rw [one1_len, hb]
        simp only [impl_reached.l2, if_pos (show (j : Int) < (l3.length : Int) by omega), if_pos (nnc j), rdI_nat hj, rdOf_tr, hb, if_pos c0, if_pos c1, if_pos a0, if_pos a1, w64n (show j < 9223372036854775807 by omega)]
        by_cases c : tr b l3[j].f2.toNat = true
        · rw [if_pos c] at e
          simp only [if_pos c, e]
          exact ihj _ hb'
        · rw [if_neg c] at e
          simp only [if_neg c, e]
          exact ihj _ hb'
  have h := down l.length (P := fun i => Ev (fun k => impl_reached.l0 k ((l.take i).foldl (fun b q => b.set q.toNat true) (List.replicate n false)) l (l.length : Int) (i : Int) n l1 l2 l3) (reachB n n (edges l3) l)) ?_ ?_ 0 (by omega)
  · simpa only [cast0, List.take_zero, List.foldl_nil] using h
  · refine Ev.step (fun k => rfl) ?_
    simp only [impl_reached.l0, if_neg (show ¬ (l.length : Int) < (l.length : Int) by omega), List.take_length]
    exact hround 0 (by omega) _ (marksB_len n l)
  · intro i hi ih
    obtain ⟨b0, b1⟩ := hq _ (List.getElem_mem hi)
    refine Ev.step (fun k => rfl) ?_
    simp only [impl_reached.l0, if_pos (show (i : Int) < (l.length : Int) by omega), if_pos (nnc i), rd_nat hi, setB_len, List.length_replicate, if_pos b0, if_pos b1, w64n (show i < 9223372036854775807 by omega)]
    rw [List.take_succ_eq_append_getElem hi, List.foldl_append, List.foldl_cons, List.foldl_nil] at ih
    exact ih
/-- The useful states, or none. -/
def usefulR (n : Int) (l1 l2 : List Int) (l3 : List S32) : List Int := if av n l1 l2 l3 = true then usefulL n.toNat l1 l2 l3 else []
theorem av_parts {n : Int} {l1 l2 : List Int} {l3 : List S32} (h : av n l1 l2 l3 = true) : ∃ m : Nat, n = (m : Int) ∧ 1 ≤ m ∧ m ≤ 4 ∧ asc (m : Int) l1 = true ∧ asc (m : Int) l2 = true ∧ stepsOk (m : Int) l3 = true := by
  simp only [av, Bool.and_eq_true, decide_eq_true_eq] at h
  obtain ⟨⟨n1, n4⟩, ha, hb, _, hs⟩ := h
  obtain ⟨m, rfl⟩ := Int.eq_ofNat_of_zero_le (show 0 ≤ n by omega)
  exact ⟨m, rfl, by omega, by omega, ha, hb, hs⟩
theorem range_filter_snoc (p : Nat → Bool) (i : Nat) : ((List.range (i + 1)).filter p).map Int.ofNat = ((List.range i).filter p).map Int.ofNat ++ if p i = true then [(i : Int)] else [] := by
  rw [List.range_succ, List.filter_append, List.map_append]
  congr 1
  cases h : p i with
  | true => simp [List.filter, h]
  | false => simp [List.filter, h]
theorem impl_UsefulOf_ev (n : Int) (l1 l2 : List Int) (l3 : List S32) (h1 : l1.length < 9223372036854775807) (h2 : l2.length < 9223372036854775807) (h3 : l3.length < 9223372036854775807) : Ev (fun k => impl_UsefulOf.f k n l1 l2 l3) (usefulR n l1 l2 l3) := by
  simp only [impl_UsefulOf.f]
  refine Ev.bind (impl_ReverseAutomaton_ev n l1 l2 l3 h1 h2 h3) ?_
  unfold revR usefulR
  cases hv : av n l1 l2 l3 with
  | false =>
    simp only [Bool.false_eq_true, if_false]
    exact Ev.now _
  | true =>
    obtain ⟨_, _, a1, a2, hl, ho⟩ := av_len hv
    obtain ⟨m, rfl, n1, n4, ha, hb, hs⟩ := av_parts hv
    have key : ∀ s ∈ l3, (0 ≤ s.f0 ∧ s.f0 < m) ∧ 0 ≤ s.f2 ∧ s.f2 < m := fun s h => by
      have := (sOk_iff.1 (stepsOk_mem hs h)).1
      exact ⟨⟨this.1, this.2.1⟩, this.2.2.1, this.2.2.2.1⟩
    simp only [if_true, Int.toNat_natCast]
    refine Ev.bind (impl_reached_ev m (by omega) l1 l2 l3 (by omega) l1 (by omega) (asc_in ha) key) (Ev.bind (impl_reached_ev m (by omega) l2 l1 (revL l3) (by rw [revL_len]; omega) l2 (by omega) (asc_in hb) fun s h => ?_) ?_)
    · have := key _ ((revL_mem l3 s).1 h)
      exact ⟨this.2, this.1⟩
    · have hA : (reachB m m (edges l3) l1).length = m := by unfold reachB; rw [rnds_len, marksB_len]
      have hB : (reachB m m (edges (revL l3)) l2).length = m := by unfold reachB; rw [rnds_len, marksB_len]
      generalize hAe : reachB m m (edges l3) l1 = A at hA
      generalize hBe : reachB m m (edges (revL l3)) l2 = B at hB
      unfold usefulL
      rw [hAe, hBe]
      have h := down m (P := fun i => Ev (fun k => impl_UsefulOf.l0 k A B (((List.range i).filter fun q => tr A q && tr B q).map Int.ofNat) m (i : Int)) (((List.range m).filter fun q => tr A q && tr B q).map Int.ofNat)) ?_ ?_ 0 (by omega)
      · simpa only [cast0, List.range_zero, List.filter_nil, List.map_nil] using h
      · refine Ev.step (fun k => rfl) ?_
        simp only [impl_UsefulOf.l0, if_neg (show ¬ (m : Int) < (m : Int) by omega)]
        exact Ev.now _
      · intro i hi ih
        refine Ev.step (fun k => rfl) ?_
        have hlen : (((List.range i).filter fun q => tr A q && tr B q).map Int.ofNat).length < 17592186044416 := by
          have := List.length_filter_le (fun q => tr A q && tr B q) (List.range i)
          rw [List.length_range] at this
          rw [List.length_map]
          omega
        rw [range_filter_snoc] at ih
        simp only [impl_UsefulOf.l0, if_pos (show (i : Int) < (m : Int) by omega), if_pos (nnc i), rdOf_tr, hA, hB, Int.toNat_natCast, if_pos hlen, w64n (show i < 9223372036854775807 by omega)]
        by_cases c1 : tr A i = true
        · by_cases c2 : tr B i = true
          · simp only [c1, c2, Bool.and_self, if_true] at ih ⊢
            exact ih
          · simp only [c1, show tr B i = false by simpa using c2, Bool.and_false, Bool.false_eq_true, if_false, if_true, List.append_nil] at ih ⊢
            exact ih
        · simp only [show tr A i = false by simpa using c1, Bool.false_and, Bool.false_eq_true, if_false, List.append_nil] at ih ⊢
          exact ih
theorem spec_l3Marks_ev (n : Int) (h1 : 1 ≤ n) (h4 : n ≤ 4) (l : List Int) (hl : l.length < 9223372036854775807) : Ev (fun k => spec_l3Marks.f k n l) (asc n l) := by
  have h := down l.length (P := fun i => Ev (fun k => spec_l3Marks.l0 k n l l (l.length : Int) (i : Int)) (allFrom (ascAt n l) l.length i)) ?_ ?_ 0 (by omega)
  · simpa only [spec_l3Marks.f, asc, cast0] using h
  · refine Ev.step (fun k => rfl) ?_
    simp only [spec_l3Marks.l0, if_neg (show ¬ (l.length : Int) < (l.length : Int) by omega), allFrom_end]
    exact Ev.now _
  · intro i hi ih
    refine Ev.step (fun k => rfl) ?_
    simp only [spec_l3Marks.l0, if_pos (show (i : Int) < (l.length : Int) by omega), if_pos (nnc i), spec_l1In_eq, Option.bind_some, w64n (show i < 9223372036854775807 by omega), w64 (show -9223372036854775808 ≤ n - 1 by omega) (show n - 1 ≤ 9223372036854775807 by omega)]
    rw [allFrom_step hi]
    by_cases hc : 0 ≤ rd l i ∧ rd l i ≤ n - 1
    · simp only [show decide (0 ≤ rd l i ∧ rd l i ≤ n - 1) = true by simpa using hc, if_true]
      by_cases h0 : i = 0
      · subst h0
        simp only [cast0, if_neg (show ¬ (0 : Int) > 0 by omega)]
        exact ev_to ih (by simp [ascAt, show (0 : Int) ≤ rd l 0 from hc.1, show rd l 0 < n by have := hc.2; simp at this; omega])
      · simp only [if_pos (show (i : Int) > 0 by omega), pred_w (show 0 < i by omega) (show i < 9223372036854775807 by omega), if_pos (nnc (i - 1)), if_pos (show ((i - 1 : Nat) : Int) < (l.length : Int) by omega)]
        by_cases hb : rd l ((i - 1 : Nat) : Int) ≥ rd l i
        · simp only [if_pos hb]
          exact ev_to (Ev.now _) (by simp [ascAt, h0, show ¬ rd l ((i - 1 : Nat) : Int) < rd l i by omega])
        · simp only [if_neg hb]
          exact ev_to ih (by simp [ascAt, hc.1, show rd l i < n by omega, show rd l ((i - 1 : Nat) : Int) < rd l i by omega])
    · simp only [show decide (0 ≤ rd l i ∧ rd l i ≤ n - 1) = false by simpa using hc, Bool.false_eq_true, if_false]
      refine ev_to (Ev.now _) ?_
      by_cases ha : 0 ≤ rd l i
      · simp [ascAt, show ¬ rd l i < n by omega]
      · simp [ascAt, ha]
theorem spec_AutomatonValid_steps {n : Int} (h1 : 1 ≤ n) (h4 : n ≤ 4) (l1 l2 : List Int) (l3 : List S32) (h3 : l3.length < 9223372036854775807) : Ev (fun k => spec_AutomatonValid.l0 k l3 (l3.length : Int) 0 n l1 l2 l3) (stepsOk n l3) := by
  have h := down l3.length (P := fun i => Ev (fun k => spec_AutomatonValid.l0 k l3 (l3.length : Int) (i : Int) n l1 l2 l3) (allFrom (sAt n l3) l3.length i)) ?_ ?_ 0 (by omega)
  · simpa only [stepsOk, cast0] using h
  · refine Ev.step (fun k => rfl) ?_
    simp only [spec_AutomatonValid.l0, if_neg (show ¬ (l3.length : Int) < (l3.length : Int) by omega), allFrom_end]
    exact Ev.now _
  · intro i hi ih
    refine Ev.step (fun k => rfl) ?_
    simp only [spec_AutomatonValid.l0, if_pos (show (i : Int) < (l3.length : Int) by omega), if_pos (nnc i), spec_l3Step_eq h1 h4, spec_l3Before_eq, Option.bind_some, w64n (show i < 9223372036854775807 by omega)]
    rw [allFrom_step hi]
    cases hs : sOk n (rd_T32 l3 (i : Int)) with
    | false =>
      simp only [Bool.false_eq_true, if_false]
      exact ev_to (Ev.now _) (by simp [sAt, hs])
    | true =>
      simp only [if_true]
      by_cases h0 : i = 0
      · subst h0
        simp only [cast0, if_neg (show ¬ (0 : Int) > 0 by omega)]
        exact ev_to ih (by simp only [cast0] at hs; simp [sAt, hs])
      · simp only [if_pos (show (i : Int) > 0 by omega), pred_w (show 0 < i by omega) (show i < 9223372036854775807 by omega), if_pos (nnc (i - 1)), if_pos (show ((i - 1 : Nat) : Int) < (l3.length : Int) by omega)]
        cases hb : sLt (rd_T32 l3 ((i - 1 : Nat) : Int)) (rd_T32 l3 (i : Int)) with
        | false =>
          simp only [Bool.false_eq_true, if_false]
          exact ev_to (Ev.now _) (by simp [sAt, h0, hb])
        | true =>
          simp only [if_true]
          exact ev_to ih (by simp [sAt, hs, hb])
theorem spec_AutomatonValid_ev (n : Int) (l1 l2 : List Int) (l3 : List S32) (h1 : l1.length < 9223372036854775807) (h2 : l2.length < 9223372036854775807) (h3 : l3.length < 9223372036854775807) : Ev (fun k => spec_AutomatonValid.f k n l1 l2 l3) (av n l1 l2 l3) := by
  have hno : Ev (fun k => spec_AutomatonValid.j0 k true n l1 l2 l3) false := by
    refine Ev.step (fun k => rfl) ?_
    simp only [spec_AutomatonValid.j0, if_true]
    exact Ev.now _
  simp only [spec_AutomatonValid.f, spec_l1In_eq, Option.bind_some]
  by_cases c0 : 1 ≤ n ∧ n ≤ 4
  · simp only [show decide (1 ≤ n ∧ n ≤ 4) = true by simpa using c0, if_true]
    refine Ev.bind (spec_l3Marks_ev n c0.1 c0.2 l1 h1) ?_
    cases e1 : asc n l1 with
    | false =>
      simp only [Bool.false_eq_true, if_false]
      exact ev_to hno (by simp [av, e1])
    | true =>
      simp only [if_true]
      refine Ev.bind (spec_l3Marks_ev n c0.1 c0.2 l2 h2) ?_
      cases e2 : asc n l2 with
      | false =>
        simp only [Bool.false_eq_true, if_false]
        exact ev_to hno (by simp [av, e2])
      | true =>
        simp only [if_true]
        by_cases c3 : (l3.length : Int) > 24
        · simp only [c3, decide_true]
          exact ev_to hno (by simp [av, show ¬ l3.length ≤ 24 by omega])
        · simp only [c3, decide_false]
          refine Ev.step (fun k => rfl) ?_
          simp only [spec_AutomatonValid.j0, Bool.false_eq_true, if_false]
          exact ev_to (spec_AutomatonValid_steps c0.1 c0.2 l1 l2 l3 h3) (by simp [av, e1, e2, c0.1, c0.2, show l3.length ≤ 24 by omega])
  · simp only [show decide (1 ≤ n ∧ n ≤ 4) = false by simpa using c0, Bool.false_eq_true, if_false]
    exact ev_to hno (by simp only [av]; rw [show decide (1 ≤ n ∧ n ≤ 4) = false by simpa using c0]; rfl)
theorem reach_is (n : Nat) (l3 : List S32) (l : List Int) (back : Bool) : spec_UsefulOf.reach n l3 l back = reachB 4 n (if back = true then swapE (edges l3) else edges l3) l := by
  have hone : spec_UsefulOf.one = one1 := rfl
  have hr : ∀ (es : List (Nat × Nat)) (k : Nat) (b : List Bool), spec_UsefulOf.rounds es k b = rnds es k b := by
    intro es k
    induction k with
    | zero => intro b; rfl
    | succ k ih => intro b; exact ih _
  unfold spec_UsefulOf.reach reachB
  rw [hr]
  cases back with
  | true => simp only [if_true, swapE, edges, List.map_map]; rfl
  | false => rfl
theorem four_as {b : List Bool} (h : b.length = 4) : spec_l3Reach.four b = some (tr b 0, tr b 1, tr b 2, tr b 3) ∧ b = [tr b 0, tr b 1, tr b 2, tr b 3] := by
  obtain _ | ⟨x, _ | ⟨y, _ | ⟨z, _ | ⟨u, _ | ⟨v, t⟩⟩⟩⟩⟩ := b <;> simp at h
  exact ⟨rfl, rfl⟩
theorem spec_l3Reach_is (n : Nat) (h4 : n ≤ 4) (l1 l2 : List Int) (l3 : List S32) (h3 : l3.length ≤ 24) (l : List Int) (back : Bool) (hl : l.length ≤ 4) (hq : ∀ q ∈ l, 0 ≤ q ∧ q < n) (hs : ∀ s ∈ l3, (0 ≤ s.f0 ∧ s.f0 < n) ∧ 0 ≤ s.f2 ∧ s.f2 < n) :
    ∃ a b c d, spec_l3Reach.f n l1 l2 l3 l back = some (a, b, c, d) ∧ [a, b, c, d] = reachB 4 n (if back = true then swapE (edges l3) else edges l3) l := by
  have hf : spec_l3Reach.fits (n : Int) l3 l := ⟨nnc n, by omega, hl, h3, fun q h => ⟨(hq q h).1, by have := (hq q h).2; omega⟩, fun s h => by have := hs s h; exact ⟨⟨this.1.1, by omega⟩, this.2.1, by omega⟩⟩
  have hlen : (reachB 4 n (if back = true then swapE (edges l3) else edges l3) l).length = 4 := by unfold reachB; rw [rnds_len, marksB_len]
  obtain ⟨e1, e2⟩ := four_as hlen
  refine ⟨_, _, _, _, ?_, e2.symm⟩
  unfold spec_l3Reach.f
  rw [if_pos hf, Int.toNat_natCast, reach_is]
  exact e1
theorem spec_UsefulOf_ev (n : Int) (l1 l2 : List Int) (l3 : List S32) (h1 : l1.length ≤ 1000000000) (h2 : l2.length ≤ 1000000000) (h3 : l3.length ≤ 1000000000) : Ev (fun k => spec_UsefulOf.f k n l1 l2 l3) (usefulR n l1 l2 l3) := by
  simp only [spec_UsefulOf.f]
  refine Ev.bind (spec_AutomatonValid_ev n l1 l2 l3 (by omega) (by omega) (by omega)) ?_
  unfold usefulR
  cases hv : av n l1 l2 l3 with
  | false =>
    simp only [Bool.false_eq_true, if_false]
    exact Ev.now _
  | true =>
    obtain ⟨_, _, a1, a2, hl, ho⟩ := av_len hv
    obtain ⟨m, rfl, n1, n4, ha, hb, hs⟩ := av_parts hv
    have key : ∀ s ∈ l3, (0 ≤ s.f0 ∧ s.f0 < m) ∧ 0 ≤ s.f2 ∧ s.f2 < m := fun s h => by
      have := (sOk_iff.1 (stepsOk_mem hs h)).1
      exact ⟨⟨this.1, this.2.1⟩, this.2.2.1, this.2.2.2.1⟩
    obtain ⟨a, b, c, d, e1, e2⟩ := spec_l3Reach_is m n4 l1 l2 l3 hl l1 false a1 (asc_in ha) key
    obtain ⟨a', b', c', d', f1, f2⟩ := spec_l3Reach_is m n4 l1 l2 l3 hl l2 true a2 (asc_in hb) key
    simp only [if_true, e1, f1, Option.bind_some, Int.toNat_natCast, e2, f2]
    refine ev_to (Ev.now _) ?_
    rw [← useful_spec n4 ha hb hs]
    rfl
/-- The numbers that the laws write into a row: k, k + 1, .. -/
def marks (k : Int) : Nat → List Int
  | 0 => []
  | n + 1 => k :: marks (k + 1) n
theorem marks_len (n : Nat) : ∀ k, (marks k n).length = n := by
  induction n with
  | zero => intro k; rfl
  | succ n ih => intro k; simp [marks, ih]
theorem marks_snoc (n : Nat) : ∀ k, marks k (n + 1) = marks k n ++ [k + n] := by
  induction n with
  | zero => intro k; simp [marks]
  | succ n ih =>
    intro k
    rw [marks, ih (k + 1), marks]
    simp
    omega
theorem marks_get (n : Nat) : ∀ (k : Int) (i : Nat) (h : i < (marks k n).length), (marks k n)[i] = k + i := by
  induction n with
  | zero => intro k i h; simp [marks] at h
  | succ n ih =>
    intro k i h
    cases i with
    | zero => simp [marks]
    | succ i =>
      simp only [marks, List.getElem_cons_succ]
      rw [ih]
      omega
theorem laws_markIntS_ev (l : List Int) (k0 : Int) (h0 : 0 ≤ k0) (hb : k0 + l.length ≤ 9223372036854775806) : Ev (fun k => laws_markIntS.f k l k0) (k0 + l.length, marks k0 l.length) := by
  have h := down l.length (P := fun i => ∀ x : List Int, x.length = l.length → x.take i = marks k0 i → Ev (fun k => laws_markIntS.l0 k x (k0 + (i : Int)) (i : Int)) (k0 + l.length, marks k0 l.length)) ?_ ?_ 0 (by omega) l rfl (by simp [marks])
  · simpa only [laws_markIntS.f, cast0, Int.add_zero] using h
  · intro x hx ht
    refine Ev.step (fun k => rfl) ?_
    simp only [laws_markIntS.l0, if_neg (show ¬ (l.length : Int) < (x.length : Int) by omega)]
    rw [← hx, List.take_length] at ht
    rw [hx] at ht
    exact ev_to (Ev.now _) (by rw [ht])
  · intro i hi ih x hx ht
    refine Ev.step (fun k => rfl) ?_
    have e : wrap64 (k0 + (i : Int) + 1) = k0 + ((i + 1 : Nat) : Int) := by rw [w64 (by omega) (by omega)]; omega
    simp only [laws_markIntS.l0, if_pos (show (i : Int) < (x.length : Int) by omega), if_pos (show (0 : Int) ≤ (i : Int) by omega), w64n (show i < 9223372036854775807 by omega), Int.toNat_natCast, e]
    refine ih _ (by simpa using hx) ?_
    rw [List.take_succ_eq_append_getElem (by simpa [hx] using hi), marks_snoc, List.getElem_set_self, List.take_set, ht, List.set_eq_of_length_le (by rw [marks_len]; omega)]
theorem laws_heldIntS_ev (n : Nat) (k0 : Int) (h0 : 0 ≤ k0) (hb : k0 + n ≤ 9223372036854775806) : Ev (fun k => laws_heldIntS.f k (marks k0 n) k0) (k0 + n) := by
  have hl := marks_len n k0
  have h := down n (P := fun i => Ev (fun k => laws_heldIntS.l0 k (marks k0 n) (k0 + (i : Int)) (i : Int)) (k0 + n)) ?_ ?_ 0 (by omega)
  · simpa only [laws_heldIntS.f, cast0, Int.add_zero] using h
  · refine Ev.step (fun k => rfl) ?_
    simp only [laws_heldIntS.l0, hl, if_neg (show ¬ (n : Int) < (n : Int) by omega)]
    exact Ev.now _
  · intro i hi ih
    refine Ev.step (fun k => rfl) ?_
    have hi' : i < (marks k0 n).length := by omega
    have e : wrap64 (k0 + (i : Int) + 1) = k0 + ((i + 1 : Nat) : Int) := by rw [w64 (by omega) (by omega)]; omega
    simp only [laws_heldIntS.l0, hl, if_pos (show (i : Int) < (n : Int) by omega), if_pos (show (0 : Int) ≤ (i : Int) by omega), rd_nat hi', marks_get, if_true, w64n (show i < 9223372036854775807 by omega), e]
    exact ih
theorem strOfNums_size (xs : List Int) : (strOfNums xs).size = xs.length := by simp [strOfNums, ByteArray.size]
theorem laws_markText_ev (x : Int) (h0 : 0 ≤ x) (h1 : x ≤ 1000000000000) : ∃ t, Ev (fun k => laws_markText.f k x) t := by
  have h : ∀ m : Nat, ∀ z : ByteArray, z.size + m + 1 ≤ 9223372036854775807 → ∃ t, Ev (fun k => laws_markText.l0 k (m : Int) z) t := by
    intro m
    induction m using Nat.strongRecOn with
    | _ m ih =>
      intro z hz
      by_cases hm : m = 0
      · subst hm
        refine ⟨(⟨#[109]⟩ : ByteArray) ++ z, Ev.step (fun k => rfl) ?_⟩
        · simp only [laws_markText.l0, cast0, if_neg (show ¬ (0 : Int) > 0 by omega), if_pos (show 1 + z.size ≤ 9223372036854775807 by omega)]
          exact Ev.now _
      · have hd : m / 10 < m := by omega
        obtain ⟨t, ht⟩ := ih (m / 10) hd ((strOfNums [(wrap64 (48 + (Int.tmod (m : Int) 10))) % 256]) ++ z) (by rw [ByteArray.size_append]; simp only [strOfNums_size, List.length_cons, List.length_nil]; omega)
        refine ⟨t, Ev.step (fun k => rfl) ?_⟩
        have e : wrap64 (Int.tdiv (m : Int) 10) = ((m / 10 : Nat) : Int) := by
          rw [show Int.tdiv (m : Int) 10 = ((m / 10 : Nat) : Int) from rfl]
          exact w64 (by omega) (by omega)
        simp only [laws_markText.l0, if_pos (show (m : Int) > 0 by omega), Option.bind_some, e, strOfNums_size, List.length_cons, List.length_nil, if_pos (show 0 + 1 + z.size ≤ 9223372036854775807 by omega)]
        exact ht
  simp only [laws_markText.f]
  by_cases hx : x ≤ 0
  · simp only [if_pos hx]
    exact ⟨_, Ev.now _⟩
  · simp only [if_neg hx]
    obtain ⟨m, rfl⟩ := Int.eq_ofNat_of_zero_le h0
    exact h m _ (by rw [show (⟨#[]⟩ : ByteArray).size = 0 from rfl]; omega)
theorem ex_bind {α β : Type} {f : Nat → Option α} {g : Nat → α → Option (Int × β)} {a : α} (hf : Ev f a) (hg : ∃ r l', Ev (fun k => g k a) (r, l') ∧ 0 ≤ r) : ∃ r l', Ev (fun k => (f k).bind (g k)) (r, l') ∧ 0 ≤ r := by
  obtain ⟨r, l', h, h0⟩ := hg
  exact ⟨r, l', Ev.bind hf h, h0⟩
theorem ex_step {β : Type} {f g : Nat → Option (Int × β)} (e : ∀ k, f (k + 1) = g k) (hg : ∃ r l', Ev g (r, l') ∧ 0 ≤ r) : ∃ r l', Ev f (r, l') ∧ 0 ≤ r := by
  obtain ⟨r, l', h, h0⟩ := hg
  exact ⟨r, l', Ev.step e h, h0⟩
theorem laws_markStepS_ev (l : List S32) (hl : l.length ≤ 1000000000) (x : Int) (h0 : 0 ≤ x) (h1 : x ≤ 1000000000) : ∃ r l', Ev (fun k => laws_markStepS.f k l x) (r, l') ∧ 0 ≤ r := by
  have h := down l.length (P := fun i => ∀ (m : List S32) (y : Int), m.length = l.length → y = x + 4 * i → ∃ r l', Ev (fun k => laws_markStepS.l0 k m y (i : Int)) (r, l') ∧ 0 ≤ r) ?_ ?_ 0 (by omega) l x rfl (by omega)
  · simpa only [laws_markStepS.f, cast0] using h
  · intro m y hm hy
    refine ⟨y, m, Ev.step (fun k => rfl) ?_, by omega⟩
    simp only [laws_markStepS.l0, if_neg (show ¬ (l.length : Int) < (m.length : Int) by omega)]
    exact Ev.now _
  · intro i hi ih m y hm hy
    have e1 : wrap64 (y + 1) = y + 1 := w64 (by omega) (by omega)
    have e2 : wrap64 (y + 1 + 1) = y + 1 + 1 := w64 (by omega) (by omega)
    have e3 : wrap64 (y + 1 + 1 + 1) = y + 1 + 1 + 1 := w64 (by omega) (by omega)
    have e4 : wrap64 (y + 1 + 1 + 1 + 1) = y + 1 + 1 + 1 + 1 := w64 (by omega) (by omega)
    obtain ⟨t, ht⟩ := laws_markText_ev (y + 1) (by omega) (by omega)
    refine ex_step (fun k => rfl) ?_
    simp only [laws_markStepS.l0, if_pos (show (i : Int) < (m.length : Int) by omega), if_pos (nnc i), Option.bind_some, e1, e2, e3, e4, w64n (show i < 9223372036854775807 by omega), Int.toNat_natCast]
    refine ex_bind ht ?_
    exact ih _ _ (by simpa using hm) (by omega)
theorem laws_markAutomaton_ev (n : Int) (l1 l2 : List Int) (l3 : List S32) (h1 : l1.length ≤ 1048576) (h2 : l2.length ≤ 1048576) (h3 : l3.length ≤ 1048576) : ∃ r l', Ev (fun k => laws_markAutomaton.f k n l1 l2 l3 1) (r, l') ∧ 0 ≤ r := by
  obtain ⟨r, l', h, h0⟩ := laws_markStepS_ev l3 (by omega) (1 + l1.length + l2.length) (by omega) (by omega)
  simp only [laws_markAutomaton.f]
  refine ex_bind (laws_markIntS_ev l1 1 (by omega) (by omega)) ?_
  refine ex_bind (laws_markIntS_ev l2 (1 + l1.length) (by omega) (by omega)) ?_
  exact ⟨r, _, Ev.bind h (Ev.now _), h0⟩
theorem usefulR_len (n : Int) (l1 l2 : List Int) (l3 : List S32) : (usefulR n l1 l2 l3).length ≤ 4 := by
  unfold usefulR
  split
  · rename_i hv
    obtain ⟨m, rfl, _, n4, _⟩ := av_parts hv
    unfold usefulL
    rw [List.length_map]
    have := List.length_filter_le (fun q => tr (reachB m m (edges l3) l1) q && tr (reachB m m (edges (revL l3)) l2) q) (List.range m)
    rw [List.length_range] at this
    exact Nat.le_trans this n4
  · exact Nat.zero_le _
theorem FnExactUsefulOf : laws_FnExactUsefulOf.Pure := by
  intro n l1 l2 l3 _ h1 _ h2 _ h3 hx
  unfold maxLen at h1 h2 h3 hx
  refine Ev.rounds ?_
  simp only [laws_FnExactUsefulOf.f]
  obtain ⟨r, hr, hm, hl⟩ := laws_szAutomaton_ev n l1 l2 l3 (by omega) (by omega) (by omega) (fun x hh => by have := (hx x hh).2.1; omega)
  refine Ev.bind hr ?_
  by_cases c : r < 0
  · simp only [if_pos c]
    exact Ev.now _
  simp only [if_neg c]
  have hl := hl (by omega)
  have ht := laws_toAutomaton_ev n l1 l2 l3 (by omega) (by omega) (by omega)
  have hlm : (l3.map ofL).length = l3.length := List.length_map ..
  have hu := usefulR_len n l1 l2 (l3.map ofL)
  have hs := spec_UsefulOf_ev n l1 l2 (l3.map ofL) (by omega) (by omega) (by omega)
  have hi := impl_UsefulOf_ev n l1 l2 (l3.map ofL) (by omega) (by omega) (by omega)
  generalize usefulR n l1 l2 (l3.map ofL) = u at hu hs hi
  have he : Ev (fun k => laws_eqIntS.f k u u) true := ev_to (laws_eqIntS_ev u u (by omega)) (decide_eq_true rfl)
  have hx := laws_eqAutomaton_self n l1 l2 (l3.map ofL) (by omega) (by omega) (by omega)
  obtain ⟨q, q', hmk, hq0⟩ := laws_markAutomaton_ev n l1 l2 (l3.map ofL) (by omega) (by omega) (by omega)
  have hg := laws_markIntS_ev u 1 (by omega) (by omega)
  have hh := laws_heldIntS_ev u.length 1 (by omega) (by omega)
  refine Ev.bind ht (Ev.bind hs (Ev.bind ht (Ev.bind hi (Ev.bind he ?_))))
  simp only [if_true]
  refine Ev.bind ht (Ev.bind hx ?_)
  simp only [if_true]
  refine Ev.bind hmk ?_
  simp only [if_neg (show ¬ q < 0 by omega)]
  refine Ev.bind he ?_
  simp only [if_true]
  refine Ev.bind hg (Ev.bind hh ?_)
  simp only [if_neg (show ¬ (1 : Int) + (u.length : Int) < 0 by omega), if_true]
  refine Ev.bind ht (Ev.bind hi (Ev.bind he ?_))
  simp only [if_true]
  refine Ev.bind hh ?_
  simp only [if_neg (show ¬ (1 : Int) + (u.length : Int) < 0 by omega), if_true]
  exact Ev.now _

end Go.Proofs.Ytojfbgegankddaa.Pure
