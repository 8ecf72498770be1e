/- The pure statement of FnExactFormatAutomaton: the printed functions answer true at every input that can be read. -/
import Derived.Test.YtojfbgegankddaaDoorPGAx2
set_option linter.unusedVariables false
set_option linter.unusedSimpArgs false
namespace Go.Proofs.YtojfbgegankddaaDoor.Pure
open Go.RowKit Go.Proofs.YtojfbgegankddaaDoor.PGA Go.Proofs.YtojfbgegankddaaDoorW.PrintWords Go.Proofs.YtojfbgegankddaaDoorW.PrintLast Go.Proofs.YtojfbgegankddaaDoorW.PrintMore

theorem w64 {x : Int} (h0 : -9223372036854775808 ≤ x) (h1 : x ≤ 9223372036854775807) : wrap64 x = x := by unfold wrap64; omega
theorem cast0 : ((0 : Nat) : Int) = 0 := rfl
theorem w64n {i : Nat} (h : i < 9223372036854775807) : wrap64 ((i : Int) + 1) = ((i + 1 : Nat) : Int) := by rw [w64 (by omega) (by omega)]; omega
theorem rd_nat {l : List Int} {i : Nat} (h : i < l.length) : rd l (i : Int) = l[i] := by simp [rd, List.getD_eq_getElem?_getD, h]
theorem down (n : Nat) {P : Nat → Prop} (h0 : P n) (hs : ∀ i, i < n → P (i + 1) → P i) : ∀ i, i ≤ n → P i := by
  have h : ∀ d i, i + d = n → P i := by
    intro d
    induction d with
    | zero => intro i hi; obtain rfl : i = n := by omega
              exact h0
    | succ d ih => intro i hi; exact hs i (by omega) (ih (i + 1) (by omega))
  exact fun i hi => h (n - i) i (by omega)
theorem ev_to {α : Type} {g : Nat → Option α} {r r' : α} (h : Ev g r) (e : r = r') : Ev g r' := e ▸ h
theorem dropc {α : Type} {l : List α} {i : Nat} (h : i < l.length) : l.drop i = l[i] :: l.drop (i + 1) := List.drop_eq_getElem_cons h
theorem dropn {α : Type} (l : List α) : l.drop l.length = [] := List.drop_eq_nil_of_le (Nat.le_refl _)
theorem nnc (q : Nat) : (0 : Int) ≤ (q : Int) := Int.natCast_nonneg q
theorem dec_step {u : Nat} (h : ¬ u < 10) : Lib.decDigits u = Lib.decDigits (u / 10) ++ [UInt8.ofNat (48 + u % 10)] := by rw [Lib.decDigits, dif_neg h]
theorem dec_one {u : Nat} (h : u < 10) : Lib.decDigits u = [UInt8.ofNat (48 + u)] := by rw [Lib.decDigits, dif_pos h]
/-- Parts with a sign between. -/
def joinL (c : UInt8) : List (List UInt8) → List UInt8
  | [] => []
  | [p] => p
  | p :: q :: r => p ++ c :: joinL c (q :: r)
theorem joinL_lib (c : UInt8) : ∀ (ps : List (List UInt8)), Lib.join ps [c] = joinL c ps
  | [] => rfl
  | [p] => Lib.join_one p [c]
  | p :: q :: r => by
    have ih := joinL_lib c (q :: r)
    rw [Lib.join_cons, joinL, ← ih, Lib.join_cons]
    simp [Lib.joinTail]
theorem rdI_nat {l : List S44} {i : Nat} (h : i < l.length) : rd_T44 l (i : Int) = l[i] := by simp [rd_T44, List.getD_eq_getElem?_getD, h]
/-- p at each place from i on, below n. -/
def allFrom (p : Nat → Bool) (n i : Nat) : Bool := (List.range n).all fun j => decide (j < i) || p j
theorem allFrom_iff {p : Nat → Bool} {n i : Nat} : allFrom p n i = true ↔ ∀ j, i ≤ j → j < n → p j = true := by
  simp only [allFrom, List.all_eq_true, List.mem_range, Bool.or_eq_true, decide_eq_true_eq]
  constructor
  · intro h j h1 h2
    rcases h j h2 with e | e
    · omega
    · exact e
  · intro h j h2
    by_cases e : j < i
    · exact Or.inl e
    · exact Or.inr (h j (by omega) h2)
theorem allFrom_end (p : Nat → Bool) (n : Nat) : allFrom p n n = true := allFrom_iff.2 fun j h1 h2 => absurd h2 (by omega)
theorem allFrom_step {p : Nat → Bool} {n i : Nat} (h : i < n) : allFrom p n i = (p i && allFrom p n (i + 1)) := by
  rw [Bool.eq_iff_iff, Bool.and_eq_true, allFrom_iff, allFrom_iff]
  constructor
  · intro hh
    exact ⟨hh i (by omega) h, fun j h1 h2 => hh j (by omega) h2⟩
  · rintro ⟨h1, h2⟩ j h3 h4
    by_cases e : i = j
    · subst e; exact h1
    · exact h2 j (by omega) h4
/-- The number at this place of a list of states fits. -/
def ascAt (n : Int) (l : List Int) (j : Nat) : Bool := decide (0 ≤ rd l j) && (decide (rd l j < n) && (decide (j = 0) || decide (rd l ((j - 1 : Nat) : Int) < rd l j)))
/-- States in ascending order. -/
def asc (n : Int) (l : List Int) : Bool := allFrom (ascAt n l) l.length 0
theorem pred_w {i : Nat} (h : 0 < i) (h2 : i < 9223372036854775807) : wrap64 ((i : Int) - 1) = ((i - 1 : Nat) : Int) := by rw [w64 (by omega) (by omega)]; omega
theorem asc_iff {n : Int} {l : List Int} : asc n l = true ↔ ∀ j, j < l.length → 0 ≤ rd l j ∧ rd l j < n ∧ (0 < j → rd l ((j - 1 : Nat) : Int) < rd l j) := by
  simp only [asc, allFrom_iff, ascAt, Bool.and_eq_true, Bool.or_eq_true, decide_eq_true_eq]
  constructor
  · intro h j hj
    have := h j (by omega) hj
    exact ⟨this.1, this.2.1, fun h0 => by omega⟩
  · intro h j _ hj
    have := h j hj
    refine ⟨this.1, this.2.1, ?_⟩
    by_cases e : j = 0
    · exact Or.inl e
    · exact Or.inr (this.2.2 (by omega))
theorem spec_l1In_eq (a b c : Int) : spec_l1In.f a b c = some (decide (b ≤ a ∧ a ≤ c)) := by
  unfold spec_l1In.f
  split <;> simp <;> omega
def sA (b : ByteArray) : Bool := decide (b.toList = [97])
def sB (b : ByteArray) : Bool := decide (b.toList = [98])
/-- A step that fits so many states. -/
def sOk (n : Int) (s : S44) : Bool := decide (0 ≤ s.f0 ∧ s.f0 < n ∧ 0 ≤ s.f2 ∧ s.f2 < n ∧ 0 ≤ s.f3 ∧ s.f3 ≤ 3) && (sA s.f1 || sB s.f1)
/-- One step is in front of another one. -/
def sLt (s t : S44) : Bool := if s.f0 = t.f0 then (if s.f1.toList = t.f1.toList then decide (s.f2 < t.f2) else Op.bytesLess s.f1.toList t.f1.toList) else decide (s.f0 < t.f0)
def sAt (n : Int) (l : List S44) (j : Nat) : Bool := sOk n (rd_T44 l j) && (decide (j = 0) || sLt (rd_T44 l ((j - 1 : Nat) : Int)) (rd_T44 l j))
/-- Steps that fit so many states, in order. -/
def stepsOk (n : Int) (l : List S44) : Bool := allFrom (sAt n l) l.length 0
/-- An automaton is valid. -/
def av (n : Int) (l1 l2 : List Int) (l3 : List S44) : Bool := decide (1 ≤ n ∧ n ≤ 4) && (asc n l1 && (asc n l2 && (decide (l3.length ≤ 24) && stepsOk n l3)))
theorem spec_l3Step_eq {n : Int} (h1 : 1 ≤ n) (h4 : n ≤ 4) (s : S44) : spec_l3Step.f n s.f0 s.f1 s.f2 s.f3 = some (sOk n s) := by
  have e : wrap64 (n - 1) = n - 1 := w64 (by omega) (by omega)
  simp only [spec_l3Step.f, spec_l1In_eq, Option.bind_some, e, sOk, sA, sB]
  by_cases c0 : 0 ≤ s.f0 ∧ s.f0 ≤ n - 1
  · rw [if_pos (by simpa using c0)]
    by_cases c1 : 0 ≤ s.f2 ∧ s.f2 ≤ n - 1
    · rw [if_pos (by simpa using c1)]
      by_cases c2 : 0 ≤ s.f3 ∧ s.f3 ≤ 3
      · rw [if_pos (by simpa using c2), show decide (0 ≤ s.f0 ∧ s.f0 < n ∧ 0 ≤ s.f2 ∧ s.f2 < n ∧ 0 ≤ s.f3 ∧ s.f3 ≤ 3) = true by simp; omega]
        by_cases c3 : s.f1.toList = [97]
        · simp [c3]
        · rw [if_neg c3]
          simp only [c3, decide_false, Bool.true_and, Bool.false_or]
          congr 1
          by_cases c4 : s.f1.toList = [98] <;> simp [c4]
      · rw [if_neg (by simpa using c2), show decide (0 ≤ s.f0 ∧ s.f0 < n ∧ 0 ≤ s.f2 ∧ s.f2 < n ∧ 0 ≤ s.f3 ∧ s.f3 ≤ 3) = false by simp; omega]
        rfl
    · rw [if_neg (by simpa using c1), show decide (0 ≤ s.f0 ∧ s.f0 < n ∧ 0 ≤ s.f2 ∧ s.f2 < n ∧ 0 ≤ s.f3 ∧ s.f3 ≤ 3) = false by simp; omega]
      rfl
  · rw [if_neg (by simpa using c0), show decide (0 ≤ s.f0 ∧ s.f0 < n ∧ 0 ≤ s.f2 ∧ s.f2 < n ∧ 0 ≤ s.f3 ∧ s.f3 ≤ 3) = false by simp; omega]
    rfl
theorem spec_l3Before_eq (s t : S44) : spec_l3Before.f s.f0 s.f1 s.f2 s.f3 t.f0 t.f1 t.f2 t.f3 = some (sLt s t) := by
  simp only [spec_l3Before.f, sLt]
  split
  · split <;> rfl
  · rfl
/-- A cost: between 0 and 1000000. -/
def cv (a : Int) : Bool := decide (0 ≤ a ∧ a ≤ 1000000)
theorem cv_iff {a : Int} : cv a = true ↔ 0 ≤ a ∧ a ≤ 1000000 := by simp [cv]
/-- A matrix: 1 to 4 rows, as many costs in each. -/
def mv (n : Int) (l : List Int) : Bool := decide (1 ≤ n ∧ n ≤ 4 ∧ (l.length : Int) = n * n) && l.all cv
theorem mv_iff {n : Int} {l : List Int} : mv n l = true ↔ (1 ≤ n ∧ n ≤ 4 ∧ (l.length : Int) = n * n) ∧ l.all cv = true := by simp [mv]
/-- The cost in row i, column j. -/
def ent (n : Nat) (l : List Int) (i j : Nat) : Int := l.getD (i * n + j) 0
theorem idx_lt {n i j : Nat} (hi : i < n) (hj : j < n) : i * n + j < n * n := by
  have := Nat.mul_le_mul_right n (show i + 1 ≤ n from hi)
  rw [Nat.add_mul] at this
  omega
/-- The cells of a matrix, of what a function tells for each place. -/
def cells (n : Nat) (f : Nat → Nat → Int) : List Int := (List.range (n * n)).map fun t => f (t / n) (t % n)
theorem cells_len (n : Nat) (f : Nat → Nat → Int) : (cells n f).length = n * n := by simp [cells]
theorem cells_all {n : Nat} {f : Nat → Nat → Int} (h : ∀ i j, i < n → j < n → cv (f i j) = true) : (cells n f).all cv = true := by
  rw [List.all_eq_true]
  intro x hx
  obtain ⟨t, ht, rfl⟩ := List.mem_map.1 hx
  have ht : t < n * n := by simpa using ht
  have hn : 0 < n := by
    cases n with
    | zero => simp at ht
    | succ n => omega
  exact h _ _ (Nat.div_lt_of_lt_mul ht) (Nat.mod_lt _ hn)
theorem mv_cells {n : Nat} (h0 : 1 ≤ n) (h1 : n ≤ 4) {f : Nat → Nat → Int} (h : ∀ i j, i < n → j < n → cv (f i j) = true) : mv (n : Int) (cells n f) = true := by
  rw [mv_iff]
  refine ⟨⟨by omega, by omega, ?_⟩, cells_all h⟩
  rw [cells_len, Int.natCast_mul]
theorem mv_nat {n : Int} {l : List Int} (h : mv n l = true) : ∃ m : Nat, n = (m : Int) ∧ 1 ≤ m ∧ m ≤ 4 ∧ l.length = m * m ∧ ∀ x ∈ l, cv x = true := by
  rw [mv_iff] at h
  obtain ⟨m, rfl⟩ := Int.eq_ofNat_of_zero_le (show 0 ≤ n by omega)
  have e := Int.natCast_mul m m
  exact ⟨m, rfl, by omega, by omega, by omega, by simpa using h.2⟩
theorem cv_ent {n : Nat} {l : List Int} (hl : l.length = n * n) (h : ∀ x ∈ l, cv x = true) {i j : Nat} (hi : i < n) (hj : j < n) : cv (ent n l i j) = true := by
  have hb := idx_lt hi hj
  have : ent n l i j = l[i * n + j]'(by omega) := by
    rw [ent, List.getD_eq_getElem?_getD, List.getElem?_eq_getElem (by omega)]
    rfl
  rw [this]
  exact h _ (List.getElem_mem _)
def minm (n : Nat) (a b : List Int) : List Int := cells n fun i j => min (ent n a i j) (ent n b i j)
def two (n : Int) (a : List Int) (m : Int) (b : List Int) : Bool := mv n a && (mv m b && decide (n = m))
theorem two_iff {n m : Int} {a b : List Int} : two n a m b = true ↔ mv n a = true ∧ mv m b = true ∧ n = m := by simp [two]
theorem mv_minm {n : Nat} (h1 : 1 ≤ n) (h4 : n ≤ 4) {a b : List Int} (hla : a.length = n * n) (hlb : b.length = n * n) (hca : ∀ x ∈ a, cv x = true) (hcb : ∀ x ∈ b, cv x = true) : mv (n : Int) (minm n a b) = true :=
  mv_cells h1 h4 fun i j hi hj => by
    have c1 := cv_iff.1 (cv_ent hla hca hi hj)
    have c2 := cv_iff.1 (cv_ent hlb hcb hi hj)
    rw [cv_iff]
    omega
/-- A matrix of so many rows that is valid. -/
structure Ok (n : Nat) (l : List Int) : Prop where
  h1 : 1 ≤ n
  h4 : n ≤ 4
  len : l.length = n * n
  all : ∀ x ∈ l, cv x = true
theorem ok_of {n : Nat} {l : List Int} (h : mv (n : Int) l = true) : Ok n l := by
  obtain ⟨m, hm, h1, h4, hl, hc⟩ := mv_nat h
  obtain rfl : n = m := by omega
  exact ⟨h1, h4, hl, hc⟩
theorem Ok.mv {n : Nat} {l : List Int} (h : Ok n l) : mv (n : Int) l = true := by
  rw [mv_iff]
  refine ⟨⟨by have := h.h1; omega, by have := h.h4; omega, ?_⟩, by simpa using h.all⟩
  rw [h.len, Int.natCast_mul]
theorem Ok.two {n : Nat} {a b : List Int} (ha : Ok n a) (hb : Ok n b) : two (n : Int) a (n : Int) b = true := two_iff.2 ⟨ha.mv, hb.mv, rfl⟩
theorem Ok.min {n : Nat} {a b : List Int} (ha : Ok n a) (hb : Ok n b) : Ok n (minm n a b) := ok_of (mv_minm ha.h1 ha.h4 ha.len hb.len ha.all hb.all)
theorem sOk_iff {n : Int} {s : S44} : sOk n s = true ↔ (0 ≤ s.f0 ∧ s.f0 < n ∧ 0 ≤ s.f2 ∧ s.f2 < n ∧ 0 ≤ s.f3 ∧ s.f3 ≤ 3) ∧ (s.f1.toList = [97] ∨ s.f1.toList = [98]) := by
  simp [sOk, sA, sB]
theorem stepsOk_mem {n : Int} {l : List S44} (h : stepsOk n l = true) {s : S44} (hs : s ∈ l) : sOk n s = true := by
  obtain ⟨i, hi, rfl⟩ := List.mem_iff_getElem.1 hs
  have := allFrom_iff.1 h i (by omega) hi
  simp only [sAt, Bool.and_eq_true, rdI_nat hi] at this
  exact this.1
def dg (a : Int) : List UInt8 := Lib.decDigits a.toNat
def fnums (l : List Int) : List UInt8 := joinL 32 (l.map dg)
def fstep (s : S44) : List UInt8 := dg s.f0 ++ (s.f1.data.toList ++ (dg s.f2 ++ 58 :: dg s.f3))
def fsteps (l : List S44) : List UInt8 := joinL 32 (l.map fstep)
def fautoL (n : Int) (l1 l2 : List Int) (l3 : List S44) : List UInt8 := joinL 59 [dg n, fnums l1, fnums l2, fsteps l3]
def fauto (n : Int) (l1 l2 : List Int) (l3 : List S44) : List UInt8 := if av n l1 l2 l3 = true then fautoL n l1 l2 l3 else []
theorem dg_one {a : Int} (h1 : a ≤ 9) : dg a = [UInt8.ofNat (48 + a.toNat)] := dec_one (by omega)
theorem ba_ext {a b : ByteArray} (h : a.data.toList = b.data.toList) : a = b := by
  cases a with
  | mk a => cases b with
    | mk b => exact congrArg ByteArray.mk (Array.toList_inj.1 h)
def ofL (l : List UInt8) : ByteArray := ⟨l.toArray⟩
theorem ofL_self (s : ByteArray) : ofL s.data.toList = s := ba_ext rfl
theorem ofL_app (a b : List UInt8) : ofL a ++ ofL b = ofL (a ++ b) := ba_ext (by simp [ofL])
theorem ofL_size (l : List UInt8) : (ofL l).size = l.length := by simp [ofL, ByteArray.size]
theorem joinL_snoc (c : UInt8) (q : List UInt8) : ∀ (ps : List (List UInt8)), ps ≠ [] → joinL c (ps ++ [q]) = joinL c ps ++ c :: q
  | [], h => absurd rfl h
  | [p], _ => rfl
  | p :: r :: t, _ => by
    have ih := joinL_snoc c q (r :: t) (List.cons_ne_nil _ _)
    show p ++ c :: joinL c ((r :: t) ++ [q]) = (p ++ c :: joinL c (r :: t)) ++ c :: q
    rw [ih]
    simp
theorem joinL_len {c : UInt8} {n : Nat} : ∀ (ps : List (List UInt8)), (∀ p ∈ ps, p.length ≤ n) → (joinL c ps).length ≤ (n + 1) * ps.length
  | [], _ => Nat.zero_le _
  | [p], h => by
    have := h p List.mem_cons_self
    show p.length ≤ (n + 1) * 1
    omega
  | p :: q :: r, h => by
    have h1 := h p List.mem_cons_self
    have ih := joinL_len (c := c) (q :: r) (fun x hx => h x (List.mem_cons_of_mem _ hx))
    show (p ++ c :: joinL c (q :: r)).length ≤ (n + 1) * ((q :: r).length + 1)
    rw [List.length_append, List.length_cons, Nat.mul_add]
    omega
theorem one_byte {n : Nat} (h : n < 10) : strOfNums [(wrap64 (48 + (n : Int))) % 256] = ofL [UInt8.ofNat (48 + n)] := by
  have e : (wrap64 (48 + (n : Int))) % 256 = ((48 + n : Nat) : Int) := by
    unfold wrap64
    omega
  rw [e]
  show ofL [UInt8.ofNat (((48 + n : Nat) : Int)).toNat] = _
  rw [Int.toNat_natCast]
theorem l13Dec_l0 : ∀ (n : Nat) (out : List UInt8), out.length + n ≤ 1000000000000000000 → Ev (fun k => spec_l13Dec.l0 k (n : Int) (ofL out)) (ofL (Lib.decDigits n ++ out)) := by
  intro n
  induction n using Nat.strongRecOn with
  | _ n ih =>
    intro out ho
    refine Ev.step (fun k => rfl) ?_
    by_cases c : n < 10
    · simp only [spec_l13Dec.l0, if_neg (show ¬ (n : Int) > 9 by omega), Option.bind_some, one_byte c, ofL_size, ofL_app, List.length_singleton, if_pos (show 1 + out.length ≤ 9223372036854775807 by omega), dec_one c]
      exact Ev.now _
    · have e : Int.tmod (n : Int) 10 = ((n % 10 : Nat) : Int) := by rw [Int.tmod_eq_emod_of_nonneg (by omega)]; rfl
      have e2 : Int.tdiv (n : Int) 10 = ((n / 10 : Nat) : Int) := by rw [Int.tdiv_eq_ediv_of_nonneg (by omega)]; rfl
      simp only [spec_l13Dec.l0, if_pos (show (n : Int) > 9 by omega), Option.bind_some, e, e2, one_byte (Nat.mod_lt n (show 0 < 10 by omega)), ofL_size, ofL_app, List.length_singleton, if_pos (show 1 + out.length ≤ 9223372036854775807 by omega), w64 (show -9223372036854775808 ≤ ((n / 10 : Nat) : Int) by omega) (by omega), dec_step c, List.append_assoc]
      exact ih (n / 10) (by omega) _ (by simp only [List.length_append, List.length_singleton]; omega)
theorem impl_statesOk_ev (n : Int) (l : List Int) (hl : l.length < 9223372036854775807) : Ev (fun k => impl_statesOk.f k l n) (asc n l) := by
  have h := down l.length (P := fun i => Ev (fun k => impl_statesOk.l0 k l n l (l.length : Int) (i : Int)) (allFrom (ascAt n l) l.length i)) ?_ ?_ 0 (by omega)
  · simpa only [impl_statesOk.f, asc, cast0] using h
  · refine Ev.step (fun k => rfl) ?_
    simp only [impl_statesOk.l0, if_neg (show ¬ (l.length : Int) < (l.length : Int) by omega), allFrom_end]
    exact Ev.now _
  · intro i hi ih
    refine Ev.step (fun k => rfl) ?_
    simp only [impl_statesOk.l0, if_pos (show (i : Int) < (l.length : Int) by omega), if_pos (nnc i), w64n (show i < 9223372036854775807 by omega)]
    rw [allFrom_step hi]
    by_cases ha : rd l i < 0
    · simp only [if_pos ha]
      exact ev_to (Ev.now _) (by simp [ascAt, show ¬ 0 ≤ rd l i by omega])
    · simp only [if_neg ha]
      by_cases hb : rd l i ≥ n
      · simp only [if_pos hb]
        exact ev_to (Ev.now _) (by simp [ascAt, show ¬ rd l i < n by omega])
      · simp only [if_neg hb]
        by_cases h0 : i = 0
        · subst h0
          simp only [cast0, if_neg (show ¬ (0 : Int) > 0 by omega)]
          exact ev_to ih (by simp [ascAt, show (0 : Int) ≤ rd l 0 by simp at ha; omega, show rd l 0 < n by simp at hb; omega])
        · simp only [if_pos (show (i : Int) > 0 by omega), pred_w (show 0 < i by omega) (show i < 9223372036854775807 by omega), if_pos (nnc (i - 1)), if_pos (show ((i - 1 : Nat) : Int) < (l.length : Int) by omega)]
          by_cases hc : rd l ((i - 1 : Nat) : Int) ≥ rd l i
          · simp only [if_pos hc]
            exact ev_to (Ev.now _) (by simp [ascAt, h0, show ¬ rd l ((i - 1 : Nat) : Int) < rd l i by omega])
          · simp only [if_neg hc]
            exact ev_to ih (by simp [ascAt, show 0 ≤ rd l i by omega, show rd l i < n by omega, show rd l ((i - 1 : Nat) : Int) < rd l i by omega])
theorem cmp_bytes : ∀ a b : List UInt8, Lib.compareBytes a b = if a = b then 0 else if Op.bytesLess a b then -1 else 1
  | [], [] => by simp [Lib.compareBytes]
  | [], _ :: _ => by simp [Lib.compareBytes, Op.bytesLess]
  | _ :: _, [] => by simp [Lib.compareBytes, Op.bytesLess]
  | x :: a, y :: b => by
    have ih := cmp_bytes a b
    simp only [Lib.compareBytes, Op.bytesLess]
    by_cases h1 : x < y
    · have hne : x ≠ y := fun e => by subst e; exact absurd h1 (UInt8.lt_irrefl x)
      simp [h1, hne]
    · by_cases h2 : y < x
      · have hne : x ≠ y := fun e => by subst e; exact absurd h2 (UInt8.lt_irrefl x)
        simp [h1, h2, hne]
      · have e : x = y := UInt8.le_antisymm (UInt8.not_lt.1 h2) (UInt8.not_lt.1 h1)
        subst e
        simp [h1, ih]
def cmpI (a b : Int) : Int := if a < b then -1 else if b < a then 1 else 0
theorem cmp_Compare_eq (a b : Int) : cmp_Compare_int.f a b = some (cmpI a b) := by
  simp only [cmp_Compare_int.f, cmp_isNaN_int.f, Option.bind_some, bne_self_eq_false, Bool.false_eq_true, if_false, cmpI]
  split
  · rfl
  · split <;> rfl
def ordS (s t : S44) : Int := if cmpI s.f0 t.f0 ≠ 0 then cmpI s.f0 t.f0 else if Lib.compareBytes s.f1.data.toList t.f1.data.toList ≠ 0 then Lib.compareBytes s.f1.data.toList t.f1.data.toList else cmpI s.f2 t.f2
theorem cmp_Or_ev (a b c : Int) : Ev (fun k => cmp_Or_int.f k [a, b, c]) (if a ≠ 0 then a else if b ≠ 0 then b else c) := by
  simp only [cmp_Or_int.f]
  refine Ev.step (fun k => rfl) ?_
  simp only [cmp_Or_int.l0, List.length_cons, List.length_nil, show ((0 + 1 + 1 + 1 : Nat) : Int) = 3 from rfl, if_pos (show (0 : Int) < 3 by omega), if_pos (show (0 : Int) ≤ 0 by omega), show rd [a, b, c] 0 = a from rfl, show wrap64 (0 + 1) = 1 by rw [w64 (by omega) (by omega)]; rfl]
  by_cases ha : a = 0
  · simp only [if_pos ha, ne_eq, ha, not_true_eq_false, if_false]
    refine Ev.step (fun k => rfl) ?_
    simp only [cmp_Or_int.l0, List.length_cons, List.length_nil, show ((0 + 1 + 1 + 1 : Nat) : Int) = 3 from rfl, if_pos (show (1 : Int) < 3 by omega), if_pos (show (0 : Int) ≤ 1 by omega), show rd [0, b, c] 1 = b from rfl, show wrap64 (1 + 1) = 2 by rw [w64 (by omega) (by omega)]; rfl]
    by_cases hb : b = 0
    · simp only [if_pos hb, ne_eq, hb, not_true_eq_false, if_false]
      refine Ev.step (fun k => rfl) ?_
      simp only [cmp_Or_int.l0, List.length_cons, List.length_nil, show ((0 + 1 + 1 + 1 : Nat) : Int) = 3 from rfl, if_pos (show (2 : Int) < 3 by omega), if_pos (show (0 : Int) ≤ 2 by omega), show rd [0, 0, c] 2 = c from rfl, show wrap64 (2 + 1) = 3 by rw [w64 (by omega) (by omega)]; rfl]
      by_cases hc : c = 0
      · simp only [if_pos hc]
        refine Ev.step (fun k => rfl) ?_
        simp only [cmp_Or_int.l0, List.length_cons, List.length_nil, show ((0 + 1 + 1 + 1 : Nat) : Int) = 3 from rfl, if_neg (show ¬ (3 : Int) < 3 by omega)]
        exact ev_to (Ev.now _) hc.symm
      · simp only [if_neg hc]
        exact Ev.now _
    · simp only [if_neg hb, ne_eq, hb, not_false_eq_true, if_true]
      exact Ev.now _
  · simp only [if_neg ha, ne_eq, ha, not_false_eq_true, if_true]
    exact Ev.now _
theorem impl_stepOrder_ev (s t : S44) : Ev (fun k => impl_stepOrder.f k s.f0 s.f1 s.f2 s.f3 t.f0 t.f1 t.f2 t.f3) (ordS s t) := by
  simp only [impl_stepOrder.f, cmp_Compare_eq, strings_Compare.f, Option.bind_some]
  exact Ev.bind (cmp_Or_ev _ _ _) (Ev.now _)
theorem ordS_lt (s t : S44) : (ordS s t < 0) = (sLt s t = true) := by
  simp only [ordS, sLt, cmp_bytes, cmpI, Lib.toList_data]
  by_cases h0 : s.f0 = t.f0
  · rw [h0]
    simp only [Int.lt_irrefl, if_false, ne_eq, not_true_eq_false, if_true]
    by_cases h1 : s.f1.data.toList = t.f1.data.toList
    · simp only [if_pos h1, not_true_eq_false, if_false, decide_eq_true_eq]
      apply propext
      constructor
      · intro h
        split at h
        · assumption
        · split at h <;> omega
      · intro h
        rw [if_pos h]
        omega
    · simp only [if_neg h1]
      cases hb : Op.bytesLess s.f1.data.toList t.f1.data.toList <;> simp
  · simp only [if_neg h0]
    by_cases h1 : s.f0 < t.f0
    · simp [h1]
    · simp [h1, show t.f0 < s.f0 by omega]
theorem impl_AutomatonValid_steps {n : Int} (l1 l2 : List Int) (l3 : List S44) (h3 : l3.length < 9223372036854775807) : Ev (fun k => impl_AutomatonValid.l0 k l3 (l3.length : Int) 0 n l1 l2 l3) (stepsOk n l3) := by
  have h := down l3.length (P := fun i => Ev (fun k => impl_AutomatonValid.l0 k l3 (l3.length : Int) (i : Int) n l1 l2 l3) (allFrom (sAt n l3) l3.length i)) ?_ ?_ 0 (by omega)
  · simpa only [stepsOk, cast0] using h
  · refine Ev.step (fun k => rfl) ?_
    simp only [impl_AutomatonValid.l0, if_neg (show ¬ (l3.length : Int) < (l3.length : Int) by omega), allFrom_end]
    exact Ev.now _
  · intro i hi ih
    have hno : sOk n (rd_T44 l3 (i : Int)) = false → (sAt n l3 i && allFrom (sAt n l3) l3.length (i + 1)) = false := fun e => by simp [sAt, e]
    have hlast : sOk n (rd_T44 l3 (i : Int)) = true → Ev (fun k => if (i : Int) > 0 then (if 0 ≤ wrap64 ((i : Int) - 1) then (if wrap64 ((i : Int) - 1) < (l3.length : Int) then ((impl_stepOrder.f k (rd_T44 l3 (wrap64 ((i : Int) - 1))).f0 (rd_T44 l3 (wrap64 ((i : Int) - 1))).f1 (rd_T44 l3 (wrap64 ((i : Int) - 1))).f2 (rd_T44 l3 (wrap64 ((i : Int) - 1))).f3 (rd_T44 l3 (i : Int)).f0 (rd_T44 l3 (i : Int)).f1 (rd_T44 l3 (i : Int)).f2 (rd_T44 l3 (i : Int)).f3).bind fun t => if t ≥ 0 then some false else impl_AutomatonValid.l0 k l3 (l3.length : Int) ((i + 1 : Nat) : Int) n l1 l2 l3) else none) else none) else impl_AutomatonValid.l0 k l3 (l3.length : Int) ((i + 1 : Nat) : Int) n l1 l2 l3) (sAt n l3 i && allFrom (sAt n l3) l3.length (i + 1)) := by
      intro hs
      by_cases h0 : i = 0
      · subst h0
        simp only [cast0, if_neg (show ¬ (0 : Int) > 0 by omega)]
        exact ev_to ih (by simp only [cast0] at hs; simp [sAt, hs])
      · simp only [if_pos (show (i : Int) > 0 by omega), pred_w (show 0 < i by omega) (show i < 9223372036854775807 by omega), if_pos (nnc (i - 1)), if_pos (show ((i - 1 : Nat) : Int) < (l3.length : Int) by omega)]
        refine Ev.bind (impl_stepOrder_ev _ _) ?_
        have ho := ordS_lt (rd_T44 l3 ((i - 1 : Nat) : Int)) (rd_T44 l3 (i : Int))
        cases hb : sLt (rd_T44 l3 ((i - 1 : Nat) : Int)) (rd_T44 l3 (i : Int)) with
        | false =>
          rw [hb] at ho
          simp only [if_pos (show ordS (rd_T44 l3 ((i - 1 : Nat) : Int)) (rd_T44 l3 (i : Int)) ≥ 0 by simp at ho; omega)]
          exact ev_to (Ev.now _) (by simp [sAt, h0, hb])
        | true =>
          rw [hb] at ho
          simp only [eq_self_iff_true, eq_iff_iff, iff_true] at ho
          simp only [if_neg (show ¬ ordS (rd_T44 l3 ((i - 1 : Nat) : Int)) (rd_T44 l3 (i : Int)) ≥ 0 by omega)]
          exact ev_to ih (by simp [sAt, hs, hb])
    refine Ev.step (fun k => rfl) ?_
    simp only [impl_AutomatonValid.l0, if_pos (show (i : Int) < (l3.length : Int) by omega), if_pos (nnc i), w64n (show i < 9223372036854775807 by omega)]
    rw [allFrom_step hi]
    by_cases c0 : (rd_T44 l3 (i : Int)).f0 < 0
    · simp only [if_pos c0]
      exact ev_to (Ev.now _) (hno (by simp [sOk]; omega)).symm
    simp only [if_neg c0]
    by_cases c1 : (rd_T44 l3 (i : Int)).f0 ≥ n
    · simp only [if_pos c1]
      exact ev_to (Ev.now _) (hno (by simp [sOk]; omega)).symm
    simp only [if_neg c1]
    by_cases c2 : (rd_T44 l3 (i : Int)).f2 < 0
    · simp only [if_pos c2]
      exact ev_to (Ev.now _) (hno (by simp [sOk]; omega)).symm
    simp only [if_neg c2]
    by_cases c3 : (rd_T44 l3 (i : Int)).f2 ≥ n
    · simp only [if_pos c3]
      exact ev_to (Ev.now _) (hno (by simp [sOk]; omega)).symm
    simp only [if_neg c3]
    have hcost : ∀ hl : (sA (rd_T44 l3 (i : Int)).f1 || sB (rd_T44 l3 (i : Int)).f1) = true, ∀ {g : Nat → Option Bool}, (sOk n (rd_T44 l3 (i : Int)) = true → Ev g (sAt n l3 i && allFrom (sAt n l3) l3.length (i + 1))) → Ev (fun k => if (rd_T44 l3 (i : Int)).f3 < 0 then some false else if (rd_T44 l3 (i : Int)).f3 > 3 then some false else g k) (sAt n l3 i && allFrom (sAt n l3) l3.length (i + 1)) := by
      intro hl g hg
      by_cases c4 : (rd_T44 l3 (i : Int)).f3 < 0
      · simp only [if_pos c4]
        exact ev_to (Ev.now _) (hno (by simp [sOk]; omega)).symm
      simp only [if_neg c4]
      by_cases c5 : (rd_T44 l3 (i : Int)).f3 > 3
      · simp only [if_pos c5]
        exact ev_to (Ev.now _) (hno (by simp [sOk]; omega)).symm
      simp only [if_neg c5]
      refine hg ?_
      simp only [sOk, hl, Bool.and_true, decide_eq_true_eq]
      omega
    by_cases ca : (rd_T44 l3 (i : Int)).f1.toList = [97]
    · simp only [if_pos ca]
      exact hcost (by simp [sA, ca]) hlast
    · simp only [if_neg ca]
      by_cases cb : (rd_T44 l3 (i : Int)).f1.toList = [98]
      · simp only [if_pos cb]
        exact hcost (by simp [sB, cb]) hlast
      · simp only [if_neg cb]
        exact ev_to (Ev.now _) (hno (by simp [sOk, sA, sB, ca, cb])).symm
theorem impl_AutomatonValid_ev (n : Int) (l1 l2 : List Int) (l3 : List S44) (h1 : l1.length < 9223372036854775807) (h2 : l2.length < 9223372036854775807) (h3 : l3.length < 9223372036854775807) : Ev (fun k => impl_AutomatonValid.f k n l1 l2 l3) (av n l1 l2 l3) := by
  have hno : Ev (fun k => impl_AutomatonValid.j0 k true n l1 l2 l3) false := by
    refine Ev.step (fun k => rfl) ?_
    simp only [impl_AutomatonValid.j0, if_true]
    exact Ev.now _
  simp only [impl_AutomatonValid.f]
  by_cases c0 : n < 1
  · simp only [if_pos c0]
    exact ev_to hno (by simp only [av]; rw [show decide (1 ≤ n ∧ n ≤ 4) = false by simp; omega]; rfl)
  simp only [if_neg c0]
  by_cases c1 : n > 4
  · simp only [if_pos c1]
    exact ev_to hno (by simp only [av]; rw [show decide (1 ≤ n ∧ n ≤ 4) = false by simp; omega]; rfl)
  simp only [if_neg c1]
  by_cases c3 : (l3.length : Int) > 24
  · simp only [if_pos c3]
    exact ev_to hno (by simp [av, show ¬ l3.length ≤ 24 by omega])
  simp only [if_neg c3]
  refine Ev.bind (impl_statesOk_ev n l1 h1) ?_
  cases e1 : asc n l1 with
  | false =>
    simp only [Bool.false_eq_true, if_false]
    exact ev_to hno (by simp [av, e1])
  | true =>
    simp only [if_true]
    refine Ev.bind (impl_statesOk_ev n l2 h2) ?_
    cases e2 : asc n l2 with
    | false => exact ev_to hno (by simp [av, e2])
    | true =>
      simp only [Bool.not_true]
      refine Ev.step (fun k => rfl) ?_
      simp only [impl_AutomatonValid.j0, Bool.false_eq_true, if_false]
      exact ev_to (impl_AutomatonValid_steps l1 l2 l3 h3) (by simp [av, e1, e2, show 1 ≤ n by omega, show n ≤ 4 by omega, show l3.length ≤ 24 by omega])
-- (r5) steps are in a strict order; two rows of the same steps, both in order, are the same.
theorem bl_irr : ∀ l, Op.bytesLess l l = false
  | [] => rfl
  | a :: x => by
    unfold Op.bytesLess
    simp [bl_irr x]
theorem bl_cons (a b : UInt8) (x y : List UInt8) : Op.bytesLess (a :: x) (b :: y) = true ↔ a.toNat < b.toNat ∨ (a = b ∧ Op.bytesLess x y = true) := by
  rw [show Op.bytesLess (a :: x) (b :: y) = (decide (a < b) || (a == b && Op.bytesLess x y)) from rfl]
  simp [UInt8.lt_iff_toNat_lt]
theorem bl_trans : ∀ x y z, Op.bytesLess x y = true → Op.bytesLess y z = true → Op.bytesLess x z = true
  | _, [], _, h, _ => by simp [Op.bytesLess] at h
  | _, _ :: _, [], _, h => by simp [Op.bytesLess] at h
  | [], _ :: _, _ :: _, _, _ => rfl
  | a :: x, b :: y, c :: z, h, k => by
    rw [bl_cons] at h k ⊢
    rcases h with h | ⟨rfl, h⟩
    · rcases k with k | ⟨rfl, k⟩
      · exact .inl (by omega)
      · exact .inl h
    · rcases k with k | ⟨rfl, k⟩
      · exact .inl k
      · exact .inr ⟨rfl, bl_trans x y z h k⟩
/-- What two steps are told apart by. -/
def sameKey (s t : S44) : Prop := s.f0 = t.f0 ∧ s.f1.toList = t.f1.toList ∧ s.f2 = t.f2
theorem sLt_iff (s t : S44) : sLt s t = true ↔ s.f0 < t.f0 ∨ (s.f0 = t.f0 ∧ (Op.bytesLess s.f1.toList t.f1.toList = true ∨ (s.f1.toList = t.f1.toList ∧ s.f2 < t.f2))) := by
  unfold sLt
  by_cases h0 : s.f0 = t.f0
  · rw [if_pos h0]
    by_cases h1 : s.f1.toList = t.f1.toList
    · rw [if_pos h1, h1, bl_irr, decide_eq_true_iff]
      simp [h0]
    · rw [if_neg h1]
      simp [h0, h1]
  · rw [if_neg h0, decide_eq_true_iff]
    simp [h0]
theorem sLt_trans (s t u : S44) (h : sLt s t = true) (k : sLt t u = true) : sLt s u = true := by
  rw [sLt_iff] at h k ⊢
  rcases h with h | ⟨e, h⟩
  · rcases k with k | ⟨e', k⟩
    · exact .inl (by omega)
    · exact .inl (by omega)
  · rcases k with k | ⟨e', k⟩
    · exact .inl (by omega)
    · refine .inr ⟨e.trans e', ?_⟩
      rcases h with h | ⟨f, h⟩
      · rcases k with k | ⟨f', k⟩
        · exact .inl (bl_trans _ _ _ h k)
        · exact .inl (f' ▸ h)
      · rcases k with k | ⟨f', k⟩
        · exact .inl (f ▸ k)
        · exact .inr ⟨f.trans f', by omega⟩
theorem sameKey.symm {s t : S44} (h : sameKey s t) : sameKey t s := ⟨h.1.symm, h.2.1.symm, h.2.2.symm⟩
/-- Strictly in order. -/
def inOrder (l : List S44) : Prop := l.Pairwise fun s t => sLt s t = true
theorem stepsOk_iff {n : Int} {l : List S44} : stepsOk n l = true ↔ (∀ s ∈ l, sOk n s = true) ∧ inOrder l := by
  constructor
  · intro h
    refine ⟨fun s hs => stepsOk_mem h hs, ?_⟩
    have adj : ∀ j (hj : j + 1 < l.length), sLt l[j] l[j + 1] = true := fun j hj => by
      have := allFrom_iff.1 h (j + 1) (by omega) hj
      simp only [sAt, Bool.and_eq_true, Bool.or_eq_true, decide_eq_true_eq] at this
      rcases this.2 with h0 | h0
      · omega
      · rw [show j + 1 - 1 = j by omega, rdI_nat (show j < l.length by omega), rdI_nat hj] at h0
        exact h0
    refine List.pairwise_iff_getElem.2 fun i j hi hj hij => ?_
    have key : ∀ d (hd : i + d + 1 < l.length), sLt l[i] l[i + d + 1] = true := by
      intro d
      induction d with
      | zero => intro hd; exact adj i hd
      | succ d ih => intro hd; exact sLt_trans _ _ _ (ih (by omega)) (adj (i + d + 1) hd)
    obtain ⟨d, rfl⟩ : ∃ d, j = i + d + 1 := ⟨j - i - 1, by omega⟩
    exact key d hj
  · rintro ⟨h1, h2⟩
    refine allFrom_iff.2 fun j _ hj => ?_
    simp only [sAt, Bool.and_eq_true, Bool.or_eq_true, decide_eq_true_eq, rdI_nat hj]
    refine ⟨h1 _ (List.getElem_mem hj), ?_⟩
    by_cases h0 : j = 0
    · exact .inl h0
    · right
      rw [rdI_nat (show j - 1 < l.length by omega)]
      exact List.pairwise_iff_getElem.1 h2 (j - 1) j (by omega) hj (by omega)
theorem asc_lt {n : Int} {l : List Int} (h : asc n l = true) : ∀ i j (hi : i < l.length) (hj : j < l.length), i < j → l[i] < l[j] := by
  have adj : ∀ j (hj : j + 1 < l.length), l[j] < l[j + 1] := fun j hj => by
    have := (asc_iff.1 h (j + 1) hj).2.2 (by omega)
    rw [show j + 1 - 1 = j by omega, rd_nat (show j < l.length by omega), rd_nat hj] at this
    exact this
  have key : ∀ d i (hd : i + d + 1 < l.length), l[i] < l[i + d + 1] := by
    intro d
    induction d with
    | zero => intro i hd; exact adj i hd
    | succ d ih => intro i hd; exact Int.lt_trans (ih i (by omega)) (adj (i + d + 1) hd)
  intro i j hi hj hij
  obtain ⟨d, rfl⟩ : ∃ d, j = i + d + 1 := ⟨j - i - 1, by omega⟩
  exact key d i hj
theorem asc_short {n : Int} (hn : n ≤ 4) {l : List Int} (h : asc n l = true) : l.length ≤ 4 := by
  have key : ∀ j (hj : j < l.length), (j : Int) ≤ l[j] := by
    intro j
    induction j with
    | zero => intro hj; have := (asc_iff.1 h 0 hj).1; rw [rd_nat hj] at this; simpa using this
    | succ j ih => intro hj; have h1 := ih (by omega); have h2 := asc_lt h j (j + 1) (by omega) hj (by omega); omega
  rcases Nat.lt_or_ge 4 l.length with h4 | h4
  · have h1 := key 4 h4
    have h2 := (asc_iff.1 h 4 h4).2.1
    rw [rd_nat h4] at h2
    omega
  · exact h4
theorem av_len {n : Int} {l1 l2 : List Int} {l3 : List S44} (h : av n l1 l2 l3 = true) : 1 ≤ n ∧ n ≤ 4 ∧ l1.length ≤ 4 ∧ l2.length ≤ 4 ∧ l3.length ≤ 24 ∧ inOrder l3 := by
  simp only [av, Bool.and_eq_true, decide_eq_true_eq] at h
  obtain ⟨⟨h1, h4⟩, ha, hb, hm, hs⟩ := h
  exact ⟨h1, h4, asc_short h4 ha, asc_short h4 hb, hm, (stepsOk_iff.1 hs).2⟩
theorem spec_l3Marks_ev (n : Int) (h1 : 1 ≤ n) (h4 : n ≤ 4) (l : List Int) (hl : l.length < 9223372036854775807) : Ev (fun k => spec_l3Marks.f k n l) (asc n l) := by
  have h := down l.length (P := fun i => Ev (fun k => spec_l3Marks.l0 k n l l (l.length : Int) (i : Int)) (allFrom (ascAt n l) l.length i)) ?_ ?_ 0 (by omega)
  · simpa only [spec_l3Marks.f, asc, cast0] using h
  · refine Ev.step (fun k => rfl) ?_
    simp only [spec_l3Marks.l0, if_neg (show ¬ (l.length : Int) < (l.length : Int) by omega), allFrom_end]
    exact Ev.now _
  · intro i hi ih
    refine Ev.step (fun k => rfl) ?_
    simp only [spec_l3Marks.l0, if_pos (show (i : Int) < (l.length : Int) by omega), if_pos (nnc i), spec_l1In_eq, Option.bind_some, w64n (show i < 9223372036854775807 by omega), w64 (show -9223372036854775808 ≤ n - 1 by omega) (show n - 1 ≤ 9223372036854775807 by omega)]
    rw [allFrom_step hi]
    by_cases hc : 0 ≤ rd l i ∧ rd l i ≤ n - 1
    · simp only [show decide (0 ≤ rd l i ∧ rd l i ≤ n - 1) = true by simpa using hc, if_true]
      by_cases h0 : i = 0
      · subst h0
        simp only [cast0, if_neg (show ¬ (0 : Int) > 0 by omega)]
        exact ev_to ih (by simp [ascAt, show (0 : Int) ≤ rd l 0 from hc.1, show rd l 0 < n by have := hc.2; simp at this; omega])
      · simp only [if_pos (show (i : Int) > 0 by omega), pred_w (show 0 < i by omega) (show i < 9223372036854775807 by omega), if_pos (nnc (i - 1)), if_pos (show ((i - 1 : Nat) : Int) < (l.length : Int) by omega)]
        by_cases hb : rd l ((i - 1 : Nat) : Int) ≥ rd l i
        · simp only [if_pos hb]
          exact ev_to (Ev.now _) (by simp [ascAt, h0, show ¬ rd l ((i - 1 : Nat) : Int) < rd l i by omega])
        · simp only [if_neg hb]
          exact ev_to ih (by simp [ascAt, hc.1, show rd l i < n by omega, show rd l ((i - 1 : Nat) : Int) < rd l i by omega])
    · simp only [show decide (0 ≤ rd l i ∧ rd l i ≤ n - 1) = false by simpa using hc, Bool.false_eq_true, if_false]
      refine ev_to (Ev.now _) ?_
      by_cases ha : 0 ≤ rd l i
      · simp [ascAt, show ¬ rd l i < n by omega]
      · simp [ascAt, ha]
theorem spec_AutomatonValid_steps {n : Int} (h1 : 1 ≤ n) (h4 : n ≤ 4) (l1 l2 : List Int) (l3 : List S44) (h3 : l3.length < 9223372036854775807) : Ev (fun k => spec_AutomatonValid.l0 k l3 (l3.length : Int) 0 n l1 l2 l3) (stepsOk n l3) := by
  have h := down l3.length (P := fun i => Ev (fun k => spec_AutomatonValid.l0 k l3 (l3.length : Int) (i : Int) n l1 l2 l3) (allFrom (sAt n l3) l3.length i)) ?_ ?_ 0 (by omega)
  · simpa only [stepsOk, cast0] using h
  · refine Ev.step (fun k => rfl) ?_
    simp only [spec_AutomatonValid.l0, if_neg (show ¬ (l3.length : Int) < (l3.length : Int) by omega), allFrom_end]
    exact Ev.now _
  · intro i hi ih
    refine Ev.step (fun k => rfl) ?_
    simp only [spec_AutomatonValid.l0, if_pos (show (i : Int) < (l3.length : Int) by omega), if_pos (nnc i), spec_l3Step_eq h1 h4, spec_l3Before_eq, Option.bind_some, w64n (show i < 9223372036854775807 by omega)]
    rw [allFrom_step hi]
    cases hs : sOk n (rd_T44 l3 (i : Int)) with
    | false =>
      simp only [Bool.false_eq_true, if_false]
      exact ev_to (Ev.now _) (by simp [sAt, hs])
    | true =>
      simp only [if_true]
      by_cases h0 : i = 0
      · subst h0
        simp only [cast0, if_neg (show ¬ (0 : Int) > 0 by omega)]
        exact ev_to ih (by simp only [cast0] at hs; simp [sAt, hs])
      · simp only [if_pos (show (i : Int) > 0 by omega), pred_w (show 0 < i by omega) (show i < 9223372036854775807 by omega), if_pos (nnc (i - 1)), if_pos (show ((i - 1 : Nat) : Int) < (l3.length : Int) by omega)]
        cases hb : sLt (rd_T44 l3 ((i - 1 : Nat) : Int)) (rd_T44 l3 (i : Int)) with
        | false =>
          simp only [Bool.false_eq_true, if_false]
          exact ev_to (Ev.now _) (by simp [sAt, h0, hb])
        | true =>
          simp only [if_true]
          exact ev_to ih (by simp [sAt, hs, hb])
theorem spec_AutomatonValid_ev (n : Int) (l1 l2 : List Int) (l3 : List S44) (h1 : l1.length < 9223372036854775807) (h2 : l2.length < 9223372036854775807) (h3 : l3.length < 9223372036854775807) : Ev (fun k => spec_AutomatonValid.f k n l1 l2 l3) (av n l1 l2 l3) := by
  have hno : Ev (fun k => spec_AutomatonValid.j0 k true n l1 l2 l3) false := by
    refine Ev.step (fun k => rfl) ?_
    simp only [spec_AutomatonValid.j0, if_true]
    exact Ev.now _
  simp only [spec_AutomatonValid.f, spec_l1In_eq, Option.bind_some]
  by_cases c0 : 1 ≤ n ∧ n ≤ 4
  · simp only [show decide (1 ≤ n ∧ n ≤ 4) = true by simpa using c0, if_true]
    refine Ev.bind (spec_l3Marks_ev n c0.1 c0.2 l1 h1) ?_
    cases e1 : asc n l1 with
    | false =>
      simp only [Bool.false_eq_true, if_false]
      exact ev_to hno (by simp [av, e1])
    | true =>
      simp only [if_true]
      refine Ev.bind (spec_l3Marks_ev n c0.1 c0.2 l2 h2) ?_
      cases e2 : asc n l2 with
      | false =>
        simp only [Bool.false_eq_true, if_false]
        exact ev_to hno (by simp [av, e2])
      | true =>
        simp only [if_true]
        by_cases c3 : (l3.length : Int) > 24
        · simp only [c3, decide_true]
          exact ev_to hno (by simp [av, show ¬ l3.length ≤ 24 by omega])
        · simp only [c3, decide_false]
          refine Ev.step (fun k => rfl) ?_
          simp only [spec_AutomatonValid.j0, Bool.false_eq_true, if_false]
          exact ev_to (spec_AutomatonValid_steps c0.1 c0.2 l1 l2 l3 h3) (by simp [av, e1, e2, c0.1, c0.2, show l3.length ≤ 24 by omega])
  · simp only [show decide (1 ≤ n ∧ n ≤ 4) = false by simpa using c0, Bool.false_eq_true, if_false]
    exact ev_to hno (by simp only [av]; rw [show decide (1 ≤ n ∧ n ≤ 4) = false by simpa using c0]; rfl)
theorem dg_len {a : Int} (h1 : a ≤ 9) : (dg a).length = 1 := by rw [dg_one h1]; rfl
theorem fnums_len {l : List Int} (h : ∀ x ∈ l, 0 ≤ x ∧ x ≤ 9) : (fnums l).length ≤ 2 * l.length := by
  have := joinL_len (c := 32) (n := 1) (l.map dg) (fun p hp => by
    obtain ⟨x, hx, rfl⟩ := List.mem_map.1 hp
    exact Nat.le_of_eq (dg_len (h x hx).2))
  rwa [List.length_map] at this
/-- Steps as a valid automaton has them. -/
def okS (s : S44) : Prop := (0 ≤ s.f0 ∧ s.f0 ≤ 9) ∧ (0 ≤ s.f2 ∧ s.f2 ≤ 9) ∧ (0 ≤ s.f3 ∧ s.f3 ≤ 9) ∧ s.f1.data.toList.length = 1
theorem okS_of {n : Int} (h4 : n ≤ 4) {s : S44} (h : sOk n s = true) : okS s := by
  obtain ⟨⟨a, b, c, d, e, f⟩, g⟩ := sOk_iff.1 h
  refine ⟨⟨a, by omega⟩, ⟨c, by omega⟩, ⟨e, by omega⟩, ?_⟩
  rw [← ByteArray.toList_eq]
  rcases g with g | g <;> rw [g] <;> rfl
theorem fstep_len {s : S44} (h : okS s) : (fstep s).length = 5 := by
  obtain ⟨a, b, c, d⟩ := h
  unfold fstep
  rw [List.length_append, List.length_append, List.length_append, List.length_cons, dg_len a.2, dg_len b.2, dg_len c.2, d]
theorem fsteps_len {l : List S44} (h : ∀ s ∈ l, okS s) : (fsteps l).length ≤ 6 * l.length := by
  have := joinL_len (c := 32) (n := 5) (l.map fstep) (fun p hp => by
    obtain ⟨x, hx, rfl⟩ := List.mem_map.1 hp
    exact Nat.le_of_eq (fstep_len (h x hx)))
  rwa [List.length_map] at this
theorem fnums_snoc {l : List Int} {i : Nat} (hi : i < l.length) : fnums (l.take (i + 1)) = if i = 0 then dg l[i] else fnums (l.take i) ++ 32 :: dg l[i] := by
  unfold fnums
  rw [List.take_succ_eq_append_getElem hi, List.map_append, List.map_cons, List.map_nil]
  split
  · rename_i h
    subst h
    rfl
  · rename_i h
    refine joinL_snoc 32 _ _ fun e => ?_
    have := congrArg List.length e
    rw [List.length_map, List.length_take] at this
    simp only [List.length_nil] at this
    omega
theorem fsteps_snoc {l : List S44} {i : Nat} (hi : i < l.length) : fsteps (l.take (i + 1)) = if i = 0 then fstep l[i] else fsteps (l.take i) ++ 32 :: fstep l[i] := by
  unfold fsteps
  rw [List.take_succ_eq_append_getElem hi, List.map_append, List.map_cons, List.map_nil]
  split
  · rename_i h
    subst h
    rfl
  · rename_i h
    refine joinL_snoc 32 _ _ fun e => ?_
    have := congrArg List.length e
    rw [List.length_map, List.length_take] at this
    simp only [List.length_nil] at this
    omega
theorem spec_l13Dec_ev {a : Int} (h0 : 0 ≤ a) (h1 : a ≤ 999999) : Ev (fun k => spec_l13Dec.f k a) (ofL (dg a)) := by
  obtain ⟨n, rfl⟩ := Int.eq_ofNat_of_zero_le h0
  have h := l13Dec_l0 n [] (by simp only [List.length_nil]; omega)
  rw [List.append_nil] at h
  refine Ev.step (fun k => rfl) ?_
  simp only [spec_l13Dec.f, if_neg (show ¬ (n : Int) < -9223372036854775807 by omega), if_neg (show ¬ (n : Int) < 0 by omega)]
  exact h
theorem spec_l3Numbers_ev (l : List Int) (hl : l.length ≤ 1000) (hv : ∀ x ∈ l, 0 ≤ x ∧ x ≤ 9) : Ev (fun k => spec_l3Numbers.f k l) (ofL (fnums l)) := by
  have h := down l.length (P := fun i => Ev (fun k => spec_l3Numbers.l0 k (ofL (fnums (l.take i))) l (l.length : Int) (i : Int)) (ofL (fnums l))) ?_ ?_ 0 (by omega)
  · exact h
  · refine Ev.step (fun k => rfl) ?_
    simp only [spec_l3Numbers.l0, if_neg (show ¬ (l.length : Int) < (l.length : Int) by omega), List.take_length]
    exact Ev.now _
  · intro i hi ih
    have hx := hv _ (List.getElem_mem hi)
    have hd := spec_l13Dec_ev hx.1 (by omega : l[i] ≤ 999999)
    have hdl := dg_len hx.2
    have hfl := fnums_len (l := l.take i) fun x h => hv x (List.mem_of_mem_take h)
    rw [List.length_take] at hfl
    rw [fnums_snoc hi] at ih
    refine Ev.step (fun k => rfl) ?_
    simp only [spec_l3Numbers.l0, if_pos (show (i : Int) < (l.length : Int) by omega), if_pos (nnc i), rd_nat hi, w64n (show i < 9223372036854775807 by omega)]
    by_cases h0 : i = 0
    · subst h0
      simp only [show ¬ ((0 : Nat) : Int) > 0 by omega, if_false]
      refine Ev.bind hd ?_
      simp only [List.take_zero, show fnums ([] : List Int) = [] from rfl, ofL_size, ofL_app, List.length_nil, List.nil_append, if_pos (show 0 + (dg l[0]).length ≤ 9223372036854775807 by omega), if_true] at ih ⊢
      exact ih
    · have e : (⟨#[32]⟩ : ByteArray) = ofL [32] := rfl
      simp only [if_pos (show (i : Int) > 0 by omega), ofL_size, if_pos (show (fnums (l.take i)).length + 1 ≤ 9223372036854775807 by omega)]
      refine Ev.bind hd ?_
      simp only [e, ofL_size, ofL_app, List.length_append, List.length_singleton, if_pos (show (fnums (l.take i)).length + 1 + (dg l[i]).length ≤ 9223372036854775807 by omega)]
      rw [if_neg h0] at ih
      simpa only [List.append_assoc, List.singleton_append] using ih
theorem spec_FA_l0 (pre : List UInt8) (hp : pre.length ≤ 1000) (l : List S44) (hl : l.length ≤ 1000) (hv : ∀ s ∈ l, okS s) : Ev (fun k => spec_FormatAutomaton.l0 k (ofL pre) l (l.length : Int) 0) (ofL (pre ++ fsteps l)) := by
  have h := down l.length (P := fun i => Ev (fun k => spec_FormatAutomaton.l0 k (ofL (pre ++ fsteps (l.take i))) l (l.length : Int) (i : Int)) (ofL (pre ++ fsteps l))) ?_ ?_ 0 (by omega)
  · simpa only [cast0, List.take_zero, show fsteps ([] : List S44) = [] from rfl, List.append_nil] using h
  · refine Ev.step (fun k => rfl) ?_
    simp only [spec_FormatAutomaton.l0, if_neg (show ¬ (l.length : Int) < (l.length : Int) by omega), List.take_length]
    exact Ev.now _
  · intro i hi ih
    obtain ⟨x0, x2, x3, x1⟩ := hv _ (List.getElem_mem hi)
    have d0 := spec_l13Dec_ev x0.1 (by omega : l[i].f0 ≤ 999999)
    have d2 := spec_l13Dec_ev x2.1 (by omega : l[i].f2 ≤ 999999)
    have d3 := spec_l13Dec_ev x3.1 (by omega : l[i].f3 ≤ 999999)
    have n0 := dg_len x0.2
    have n2 := dg_len x2.2
    have n3 := dg_len x3.2
    have hfl := fsteps_len (l := l.take i) fun x h => hv x (List.mem_of_mem_take h)
    rw [List.length_take] at hfl
    rw [fsteps_snoc hi] at ih
    unfold fstep at ih
    have ef : l[i].f1 = ofL l[i].f1.data.toList := (ofL_self _).symm
    have e32 : (⟨#[32]⟩ : ByteArray) = ofL [32] := rfl
    have e58 : (⟨#[58]⟩ : ByteArray) = ofL [58] := rfl
    refine Ev.step (fun k => rfl) ?_
    simp only [spec_FormatAutomaton.l0, if_pos (show (i : Int) < (l.length : Int) by omega), if_pos (nnc i), rdI_nat hi, w64n (show i < 9223372036854775807 by omega)]
    generalize l[i].f0 = a at d0 n0 ih
    generalize l[i].f2 = b at d2 n2 ih
    generalize l[i].f3 = c at d3 n3 ih
    generalize l[i].f1.data.toList = f at ef x1 ih
    rw [ef]
    generalize fsteps (l.take i) = q at hfl ih
    by_cases h0 : i = 0
    · rw [if_pos h0] at ih
      have hq : q.length ≤ 0 := by omega
      have hq : q = [] := List.eq_nil_of_length_eq_zero (by omega)
      subst hq
      simp only [show ¬ (i : Int) > 0 by omega, if_false, List.append_nil]
      refine Ev.bind d0 ?_
      simp only [ofL_size, ofL_app, List.length_append, if_pos (show pre.length + (dg a).length ≤ 9223372036854775807 by omega), if_pos (show pre.length + (dg a).length + f.length ≤ 9223372036854775807 by omega)]
      refine Ev.bind d2 ?_
      simp only [e58, ofL_size, ofL_app, List.length_append, List.length_singleton, if_pos (show pre.length + (dg a).length + f.length + (dg b).length ≤ 9223372036854775807 by omega), if_pos (show pre.length + (dg a).length + f.length + (dg b).length + 1 ≤ 9223372036854775807 by omega)]
      refine Ev.bind d3 ?_
      simp only [ofL_size, ofL_app, List.length_append, List.length_singleton, if_pos (show pre.length + (dg a).length + f.length + (dg b).length + 1 + (dg c).length ≤ 9223372036854775807 by omega)]
      simpa only [List.append_assoc, List.cons_append, List.nil_append] using ih
    · rw [if_neg h0] at ih
      simp only [if_pos (show (i : Int) > 0 by omega), ofL_size, List.length_append, if_pos (show pre.length + q.length + 1 ≤ 9223372036854775807 by omega)]
      refine Ev.bind d0 ?_
      simp only [e32, ofL_size, ofL_app, List.length_append, List.length_singleton, if_pos (show pre.length + q.length + 1 + (dg a).length ≤ 9223372036854775807 by omega), if_pos (show pre.length + q.length + 1 + (dg a).length + f.length ≤ 9223372036854775807 by omega)]
      refine Ev.bind d2 ?_
      simp only [e58, ofL_size, ofL_app, List.length_append, List.length_singleton, if_pos (show pre.length + q.length + 1 + (dg a).length + f.length + (dg b).length ≤ 9223372036854775807 by omega), if_pos (show pre.length + q.length + 1 + (dg a).length + f.length + (dg b).length + 1 ≤ 9223372036854775807 by omega)]
      refine Ev.bind d3 ?_
      simp only [ofL_size, ofL_app, List.length_append, List.length_singleton, if_pos (show pre.length + q.length + 1 + (dg a).length + f.length + (dg b).length + 1 + (dg c).length ≤ 9223372036854775807 by omega)]
      simpa only [List.append_assoc, List.cons_append, List.nil_append] using ih
/-- What a valid automaton's parts are. -/
theorem av_small {n : Int} {l1 l2 : List Int} {l3 : List S44} (h : av n l1 l2 l3 = true) : (0 ≤ n ∧ n ≤ 9) ∧ (l1.length ≤ 4 ∧ ∀ x ∈ l1, 0 ≤ x ∧ x ≤ 9) ∧ (l2.length ≤ 4 ∧ ∀ x ∈ l2, 0 ≤ x ∧ x ≤ 9) ∧ l3.length ≤ 24 ∧ ∀ s ∈ l3, okS s := by
  obtain ⟨n1, n4, a1, a2, hl, _⟩ := av_len h
  simp only [av, Bool.and_eq_true, decide_eq_true_eq] at h
  obtain ⟨_, ha, hb, _, hs⟩ := h
  have asc9 : ∀ l : List Int, asc n l = true → ∀ x ∈ l, 0 ≤ x ∧ x ≤ 9 := fun l hl x hx => by
    obtain ⟨i, hi, rfl⟩ := List.mem_iff_getElem.1 hx
    have := asc_iff.1 hl i hi
    rw [rd_nat hi] at this
    omega
  exact ⟨⟨by omega, by omega⟩, ⟨a1, asc9 _ ha⟩, ⟨a2, asc9 _ hb⟩, hl, fun s h => okS_of n4 (stepsOk_mem hs h)⟩
theorem fautoL_eq (n : Int) (l1 l2 : List Int) (l3 : List S44) : fautoL n l1 l2 l3 = dg n ++ ([59] ++ (fnums l1 ++ ([59] ++ (fnums l2 ++ ([59] ++ fsteps l3))))) := rfl
theorem spec_FormatAutomaton_ev (n : Int) (l1 l2 : List Int) (l3 : List S44) (h1 : l1.length ≤ 1000000000) (h2 : l2.length ≤ 1000000000) (h3 : l3.length ≤ 1000000000) : Ev (fun k => spec_FormatAutomaton.f k n l1 l2 l3) (ofL (fauto n l1 l2 l3)) := by
  simp only [spec_FormatAutomaton.f]
  refine Ev.bind (spec_AutomatonValid_ev n l1 l2 l3 (by omega) (by omega) (by omega)) ?_
  unfold fauto
  cases hv : av n l1 l2 l3 with
  | false =>
    simp only [Bool.false_eq_true, if_false]
    exact Ev.now _
  | true =>
    obtain ⟨hn, ⟨a1, v1⟩, ⟨a2, v2⟩, a3, v3⟩ := av_small hv
    have g1 := fnums_len v1
    have g2 := fnums_len v2
    have gn := dg_len hn.2
    have hN := spec_l13Dec_ev hn.1 (by omega : n ≤ 999999)
    have hA := spec_l3Numbers_ev l1 (by omega) v1
    have hB := spec_l3Numbers_ev l2 (by omega) v2
    have hF := spec_FA_l0 (dg n ++ [59] ++ fnums l1 ++ [59] ++ fnums l2 ++ [59]) (by simp only [List.length_append, List.length_singleton]; omega) l3 (by omega) v3
    have e59 : (⟨#[59]⟩ : ByteArray) = ofL [59] := rfl
    rw [fautoL_eq]
    simp only [if_true, e59]
    refine Ev.bind hN ?_
    simp only [ofL_size, ofL_app, if_pos (show (dg n).length + 1 ≤ 9223372036854775807 by omega)]
    refine Ev.bind hA ?_
    simp only [ofL_size, ofL_app, List.length_append, List.length_singleton, if_pos (show (dg n).length + 1 + (fnums l1).length ≤ 9223372036854775807 by omega), if_pos (show (dg n).length + 1 + (fnums l1).length + 1 ≤ 9223372036854775807 by omega)]
    refine Ev.bind hB ?_
    simp only [ofL_size, ofL_app, List.length_append, List.length_singleton, if_pos (show (dg n).length + 1 + (fnums l1).length + 1 + (fnums l2).length ≤ 9223372036854775807 by omega), if_pos (show (dg n).length + 1 + (fnums l1).length + 1 + (fnums l2).length + 1 ≤ 9223372036854775807 by omega)]
    simpa only [List.append_assoc] using hF
theorem itoa_dg {a : Int} (h0 : 0 ≤ a) (h1 : a ≤ 999999) : strconv_Itoa_22.f a = some (ofL (dg a)) := by
  unfold strconv_Itoa_22.f
  rw [if_pos ⟨by omega, by omega⟩]
  unfold Lib.itoa
  rw [if_neg (by omega)]
  rfl
theorem join_ofL (c : UInt8) (ps : List (List UInt8)) (hn : ps.length ≤ 140737488355328) (hl : (joinL c ps).length ≤ 140737488355328) : strings_Join.f (ps.map ofL) ⟨#[c]⟩ = some (ofL (joinL c ps)) := by
  have e : (ps.map ofL).map (·.data.toList) = ps := by
    rw [List.map_map]
    exact List.map_id _
  have e2 : (⟨#[c]⟩ : ByteArray).data.toList = [c] := rfl
  simp only [strings_Join.f, e, e2, joinL_lib, List.length_map]
  rw [if_pos ⟨hn, hl⟩]
  rfl
theorem impl_numbers_ev (l : List Int) (hl : l.length ≤ 1000) (hv : ∀ x ∈ l, 0 ≤ x ∧ x ≤ 9) : Ev (fun k => impl_numbers.f k l) (ofL (fnums l)) := by
  have h := down l.length (P := fun i => Ev (fun k => impl_numbers.l0 k (((l.take i).map dg).map ofL) l (l.length : Int) (i : Int)) (ofL (fnums l))) ?_ ?_ 0 (by omega)
  · exact h
  · have hfl := fnums_len hv
    have hj := join_ofL 32 (l.map dg) (by rw [List.length_map]; omega) (by unfold fnums at hfl; omega)
    refine Ev.step (fun k => rfl) ?_
    simp only [impl_numbers.l0, if_neg (show ¬ (l.length : Int) < (l.length : Int) by omega), List.take_length, hj, Option.bind_some]
    exact Ev.now _
  · intro i hi ih
    have hx := hv _ (List.getElem_mem hi)
    refine Ev.step (fun k => rfl) ?_
    rw [List.take_succ_eq_append_getElem hi, List.map_append, List.map_append] at ih
    simp only [impl_numbers.l0, if_pos (show (i : Int) < (l.length : Int) by omega), if_pos (nnc i), rd_nat hi, itoa_dg hx.1 (by omega : l[i] ≤ 999999), Option.bind_some, w64n (show i < 9223372036854775807 by omega), List.length_map, List.length_take, if_pos (show min i l.length < 8796093022208 by omega)]
    exact ih
theorem impl_FormatAutomaton_ev (n : Int) (l1 l2 : List Int) (l3 : List S44) (h1 : l1.length < 9223372036854775807) (h2 : l2.length < 9223372036854775807) (h3 : l3.length < 9223372036854775807) : Ev (fun k => impl_FormatAutomaton.f k n l1 l2 l3) (ofL (fauto n l1 l2 l3)) := by
  simp only [impl_FormatAutomaton.f]
  refine Ev.bind (impl_AutomatonValid_ev n l1 l2 l3 h1 h2 h3) ?_
  unfold fauto
  cases hv : av n l1 l2 l3 with
  | false =>
    simp only [Bool.false_eq_true, if_false]
    exact Ev.now _
  | true =>
    obtain ⟨hn, ⟨a1, v1⟩, ⟨a2, v2⟩, a3, v3⟩ := av_small hv
    simp only [if_true]
    have h := down l3.length (P := fun i => Ev (fun k => impl_FormatAutomaton.l0 k (((l3.take i).map fstep).map ofL) l3 (l3.length : Int) (i : Int) n l1 l2 l3) (ofL (fautoL n l1 l2 l3))) ?_ ?_ 0 (by omega)
    · exact h
    · have g1 := fnums_len v1
      have g2 := fnums_len v2
      have g3 := fsteps_len v3
      have gn := dg_len hn.2
      have hj := join_ofL 32 (l3.map fstep) (by rw [List.length_map]; omega) (by unfold fsteps at g3; omega)
      have hk := join_ofL 59 [dg n, fnums l1, fnums l2, fsteps l3] (by simp) (by
        show (fautoL n l1 l2 l3).length ≤ _
        rw [fautoL_eq]
        simp only [List.length_append, List.length_singleton]
        omega)
      refine Ev.step (fun k => rfl) ?_
      simp only [impl_FormatAutomaton.l0, if_neg (show ¬ (l3.length : Int) < (l3.length : Int) by omega), List.take_length, itoa_dg hn.1 (by omega : n ≤ 999999), Option.bind_some]
      refine Ev.bind (impl_numbers_ev l1 (by omega) v1) (Ev.bind (impl_numbers_ev l2 (by omega) v2) ?_)
      simp only [hj, Option.bind_some]
      simp only [List.map_cons, List.map_nil] at hk
      simp only [show joinL 32 (l3.map fstep) = fsteps l3 from rfl, hk, Option.bind_some]
      exact Ev.now _
    · intro i hi ih
      obtain ⟨x0, x2, x3, x1⟩ := v3 _ (List.getElem_mem hi)
      have n0 := dg_len x0.2
      have n2 := dg_len x2.2
      have n3 := dg_len x3.2
      have ef : l3[i].f1 = ofL l3[i].f1.data.toList := (ofL_self _).symm
      have e58 : (⟨#[58]⟩ : ByteArray) = ofL [58] := rfl
      refine Ev.step (fun k => rfl) ?_
      rw [List.take_succ_eq_append_getElem hi, List.map_append, List.map_append, List.map_cons, List.map_nil, List.map_cons, List.map_nil] at ih
      rw [show fstep l3[i] = dg l3[i].f0 ++ (l3[i].f1.data.toList ++ (dg l3[i].f2 ++ 58 :: dg l3[i].f3)) from rfl] at ih
      simp only [impl_FormatAutomaton.l0, if_pos (show (i : Int) < (l3.length : Int) by omega), if_pos (nnc i), rdI_nat hi, itoa_dg x0.1 (by omega : l3[i].f0 ≤ 999999), itoa_dg x2.1 (by omega : l3[i].f2 ≤ 999999), itoa_dg x3.1 (by omega : l3[i].f3 ≤ 999999), Option.bind_some, w64n (show i < 9223372036854775807 by omega), List.length_map, List.length_take, if_pos (show min i l3.length < 8796093022208 by omega)]
      generalize l3[i].f1.data.toList = f at ef x1 ih
      rw [ef]
      simp only [e58, ofL_size, ofL_app, List.length_append, List.length_singleton, n0, n2, n3, x1, if_pos (show 1 + 1 ≤ 9223372036854775807 by omega), if_pos (show 1 + 1 + 1 ≤ 9223372036854775807 by omega), if_pos (show 1 + 1 + 1 + 1 ≤ 9223372036854775807 by omega), if_pos (show 1 + 1 + 1 + 1 + 1 ≤ 9223372036854775807 by omega)]
      simpa only [List.append_assoc, List.cons_append, List.nil_append] using ih
theorem laws_toIntS_ev (l : List Int) (hl : l.length ≤ 35184372088832) : Ev (fun k => laws_toIntS.f k l) l := by
  have h := down l.length (P := fun i => ∀ out : List Int, out.length = l.length → out.take i = l.take i → Ev (fun k => laws_toIntS.l0 k l out (i : Int)) l) ?_ ?_ 0 (by omega) (List.replicate l.length 0) (by simp) (by simp)
  · simpa only [laws_toIntS.f, if_pos (show (0 : Int) ≤ (l.length : Int) by omega), Int.toNat_natCast, if_pos hl, cast0] using h
  · intro out ho ht
    refine Ev.step (fun k => rfl) ?_
    simp only [laws_toIntS.l0, if_neg (show ¬ (l.length : Int) < (l.length : Int) by omega)]
    refine ev_to (Ev.now _) ?_
    rw [List.take_length, ← ho, List.take_length] at ht
    exact ht
  · intro i hi ih out ho ht
    refine Ev.step (fun k => rfl) ?_
    simp only [laws_toIntS.l0, if_pos (show (i : Int) < (l.length : Int) by omega), if_pos (show (0 : Int) ≤ (i : Int) by omega), if_pos (show (i : Int) < (out.length : Int) by omega), rd_nat hi, w64n (show i < 9223372036854775807 by omega), Int.toNat_natCast]
    refine ih _ (by simpa using ho) ?_
    rw [List.take_succ_eq_append_getElem hi, List.take_succ_eq_append_getElem (by simpa [ho] using hi)]
    rw [List.getElem_set_self, List.take_set, ht, List.set_eq_of_length_le (by simp; omega)]
theorem laws_eqIntS_ev (a b : List Int) (hl : a.length < 9223372036854775807) : Ev (fun k => laws_eqIntS.f k a b) (decide (a = b)) := by
  by_cases hab : a.length = b.length
  · have h := down a.length (P := fun i => Ev (fun k => laws_eqIntS.l0 k a b (i : Int)) (decide (a.drop i = b.drop i))) ?_ ?_ 0 (by omega)
    · simpa only [laws_eqIntS.f, if_pos (show (a.length : Int) = (b.length : Int) by omega), List.drop_zero, cast0] using h
    · refine Ev.step (fun k => rfl) ?_
      simp only [laws_eqIntS.l0, if_neg (show ¬ (a.length : Int) < (a.length : Int) by omega)]
      exact ev_to (Ev.now _) (by rw [dropn, hab, dropn]; rfl)
    · intro i hi ih
      have hi' : i < b.length := by omega
      refine Ev.step (fun k => rfl) ?_
      simp only [laws_eqIntS.l0, if_pos (show (i : Int) < (a.length : Int) by omega), if_pos (show (0 : Int) ≤ (i : Int) by omega), if_pos (show (i : Int) < (b.length : Int) by omega), rd_nat hi, rd_nat hi', w64n (show i < 9223372036854775807 by omega), dropc hi, dropc hi']
      by_cases e : a[i] = b[i]
      · simp only [if_pos e]
        exact ev_to ih (by simp only [List.cons.injEq, e, true_and])
      · simp only [if_neg e]
        exact ev_to (Ev.now false) (by simp only [List.cons.injEq, e, false_and, decide_false])
  · simp only [laws_eqIntS.f, if_neg (show ¬ (a.length : Int) = (b.length : Int) by omega)]
    exact ev_to (Ev.now _) (by rw [eq_comm, decide_eq_false_iff_not]; exact fun e => hab (by rw [e]))
theorem rdL_nat {l : List S64} {i : Nat} (h : i < l.length) : rd_T64 l (i : Int) = l[i] := by simp [rd_T64, List.getD_eq_getElem?_getD, h]
/-- A step of the laws as one of the program. -/
def ofS (x : S64) : S44 := ⟨x.f0, x.f1, x.f2, x.f3⟩
theorem laws_szIntS_eq (l : List Int) (hl : l.length ≤ 9223372036854775807) (m : Int) (h0 : 0 ≤ m) (h1 : m ≤ 1048576) : laws_szIntS.f l m = some (if m - l.length < 0 then -1 else m - l.length) := by
  have e : wrap64 (m - (l.length : Int)) = m - l.length := w64 (by omega) (by omega)
  simp only [laws_szIntS.f, e]
  split <;> rfl
theorem laws_szStep_eq (a : Int) (b : ByteArray) (c d : Int) (hb : b.size ≤ 9223372036854775807) (m : Int) (h0 : 0 ≤ m) (h1 : m ≤ 1048576) : laws_szStep.f a b c d m = some (if m - b.size < 0 then -1 else m - b.size) := by
  have e : wrap64 (m - (b.size : Int)) = m - b.size := w64 (by omega) (by omega)
  simp only [laws_szStep.f, e]
  split <;> rfl
theorem laws_szStepS_ev (l : List S64) (hl : l.length ≤ 9223372036854775807) (hs : ∀ x ∈ l, x.f1.size ≤ 9223372036854775807) (m : Int) (h0 : 0 ≤ m) (h1 : m ≤ 1048576) : ∃ r, Ev (fun k => laws_szStepS.f k l m) r ∧ r ≤ m ∧ (0 ≤ r → (l.length : Int) ≤ m) := by
  have h := down l.length (P := fun i => ∀ q : Int, 0 ≤ q → q ≤ 1048576 → ∃ r, Ev (fun k => laws_szStepS.l0 k l q (i : Int)) r ∧ r ≤ q) ?_ ?_ 0 (by omega)
  · have e : wrap64 (m - (l.length : Int)) = m - l.length := w64 (by omega) (by omega)
    simp only [laws_szStepS.f, e]
    by_cases hh : m - (l.length : Int) < 0
    · simp only [if_pos hh]
      exact ⟨-1, Ev.now _, by omega, by omega⟩
    · simp only [if_neg hh]
      obtain ⟨r, hr, hq⟩ := h (m - l.length) (by omega) (by omega)
      exact ⟨r, hr, by omega, by omega⟩
  · intro q _ _
    refine ⟨q, Ev.step (fun k => rfl) ?_, by omega⟩
    simp only [laws_szStepS.l0, if_neg (show ¬ (l.length : Int) < (l.length : Int) by omega)]
    exact Ev.now _
  · intro i hi ih q q0 q1
    have hsz := hs _ (List.getElem_mem hi)
    by_cases hh : q - (l[i].f1.size : Int) < 0
    · refine ⟨-1, Ev.step (fun k => rfl) ?_, by omega⟩
      simp only [laws_szStepS.l0, if_pos (show (i : Int) < (l.length : Int) by omega), if_pos (nnc i), rdL_nat hi, laws_szStep_eq _ _ _ _ hsz q q0 q1, Option.bind_some, if_pos hh, if_pos (show (-1 : Int) < 0 by omega)]
      exact Ev.now _
    · obtain ⟨r, hr, hrq⟩ := ih (q - l[i].f1.size) (by omega) (by omega)
      refine ⟨r, Ev.step (fun k => rfl) ?_, by omega⟩
      simp only [laws_szStepS.l0, if_pos (show (i : Int) < (l.length : Int) by omega), if_pos (nnc i), rdL_nat hi, laws_szStep_eq _ _ _ _ hsz q q0 q1, Option.bind_some, if_neg hh, w64n (show i < 9223372036854775807 by omega)]
      exact hr
theorem laws_szAutomaton_ev (n : Int) (l1 l2 : List Int) (l3 : List S64) (h1 : l1.length ≤ 9223372036854775807) (h2 : l2.length ≤ 9223372036854775807) (h3 : l3.length ≤ 9223372036854775807) (hs : ∀ x ∈ l3, x.f1.size ≤ 9223372036854775807) :
    ∃ r, Ev (fun k => laws_szAutomaton.f k n l1 l2 l3 1048576) r ∧ r ≤ 1048576 ∧ (0 ≤ r → l1.length ≤ 1048576 ∧ l2.length ≤ 1048576 ∧ l3.length ≤ 1048576) := by
  simp only [laws_szAutomaton.f, laws_szIntS_eq l1 h1 1048576 (by omega) (by omega), Option.bind_some]
  by_cases c1 : 1048576 - (l1.length : Int) < 0
  · simp only [if_pos c1, if_pos (show (-1 : Int) < 0 by omega)]
    exact ⟨-1, Ev.now _, by omega, by omega⟩
  · simp only [if_neg c1, laws_szIntS_eq l2 h2 (1048576 - (l1.length : Int)) (by omega) (by omega), Option.bind_some]
    by_cases c2 : 1048576 - (l1.length : Int) - (l2.length : Int) < 0
    · simp only [if_pos c2, if_pos (show (-1 : Int) < 0 by omega)]
      exact ⟨-1, Ev.now _, by omega, by omega⟩
    · simp only [if_neg c2]
      obtain ⟨r, hr, hq, hl⟩ := laws_szStepS_ev l3 h3 hs (1048576 - (l1.length : Int) - (l2.length : Int)) (by omega) (by omega)
      by_cases c3 : r < 0
      · refine ⟨-1, Ev.bind hr ?_, by omega, by omega⟩
        simp only [if_pos c3]
        exact Ev.now _
      · refine ⟨r, Ev.bind hr ?_, by omega, fun _ => by omega⟩
        simp only [if_neg c3]
        exact Ev.now _
theorem laws_toStepS_ev (l : List S64) (hl : l.length ≤ 7036874417766) : Ev (fun k => laws_toStepS.f k l) (l.map ofS) := by
  have h := down l.length (P := fun i => ∀ out : List S44, out.length = l.length → out.take i = (l.map ofS).take i → Ev (fun k => laws_toStepS.l0 k l out (i : Int)) (l.map ofS)) ?_ ?_ 0 (by omega) (List.replicate l.length z44) (by simp) (by simp)
  · simpa only [laws_toStepS.f, if_pos (show (0 : Int) ≤ (l.length : Int) by omega), Int.toNat_natCast, if_pos hl, cast0] using h
  · intro out ho ht
    refine Ev.step (fun k => rfl) ?_
    simp only [laws_toStepS.l0, if_neg (show ¬ (l.length : Int) < (l.length : Int) by omega)]
    refine ev_to (Ev.now _) ?_
    rw [show l.length = (l.map ofS).length by simp, List.take_length] at ht
    rw [← ht, List.length_map, ← ho, List.take_length]
  · intro i hi ih out ho ht
    refine Ev.step (fun k => rfl) ?_
    simp only [laws_toStepS.l0, if_pos (show (i : Int) < (l.length : Int) by omega), if_pos (show (0 : Int) ≤ (i : Int) by omega), rdL_nat hi, laws_toStep.f, Option.bind_some, if_pos (show (i : Int) < (out.length : Int) by omega), w64n (show i < 9223372036854775807 by omega), Int.toNat_natCast]
    refine ih _ (by simpa using ho) ?_
    rw [List.take_succ_eq_append_getElem (l := l.map ofS) (show i < (l.map ofS).length by simpa using hi), List.take_succ_eq_append_getElem (by simpa [ho] using hi)]
    rw [List.getElem_set_self, List.take_set, ht, List.set_eq_of_length_le (by simp; omega), List.getElem_map]
    rfl
theorem laws_toAutomaton_ev (n : Int) (l1 l2 : List Int) (l3 : List S64) (h1 : l1.length ≤ 35184372088832) (h2 : l2.length ≤ 35184372088832) (h3 : l3.length ≤ 7036874417766) : Ev (fun k => laws_toAutomaton.f k n l1 l2 l3) (n, l1, l2, l3.map ofS) := by
  simp only [laws_toAutomaton.f]
  exact Ev.bind (laws_toIntS_ev l1 h1) (Ev.bind (laws_toIntS_ev l2 h2) (Ev.bind (laws_toStepS_ev l3 h3) (Ev.now _)))
theorem laws_eqStepS_self (l : List S44) (hl : l.length < 9223372036854775807) : Ev (fun k => laws_eqStepS.f k l l) true := by
  have h := down l.length (P := fun i => Ev (fun k => laws_eqStepS.l0 k l l (i : Int)) true) ?_ ?_ 0 (by omega)
  · simpa only [laws_eqStepS.f, if_true, cast0] using h
  · refine Ev.step (fun k => rfl) ?_
    simp only [laws_eqStepS.l0, if_neg (show ¬ (l.length : Int) < (l.length : Int) by omega)]
    exact Ev.now _
  · intro i hi ih
    refine Ev.step (fun k => rfl) ?_
    simp only [laws_eqStepS.l0, if_pos (show (i : Int) < (l.length : Int) by omega), if_pos (nnc i), laws_eqStep.f, if_true, Option.bind_some, w64n (show i < 9223372036854775807 by omega)]
    exact ih
theorem laws_eqAutomaton_self (n : Int) (l1 l2 : List Int) (l3 : List S44) (h1 : l1.length < 9223372036854775807) (h2 : l2.length < 9223372036854775807) (h3 : l3.length < 9223372036854775807) : Ev (fun k => laws_eqAutomaton.f k n l1 l2 l3 n l1 l2 l3) true := by
  simp only [laws_eqAutomaton.f, if_true]
  refine Ev.bind (laws_eqIntS_ev l1 l1 h1) ?_
  simp only [decide_true, if_true]
  refine Ev.bind (laws_eqIntS_ev l2 l2 h2) ?_
  simp only [decide_true, if_true]
  refine Ev.bind (laws_eqStepS_self l3 h3) ?_
  simp only [if_true]
  exact Ev.now _
theorem FnExactFormatAutomaton : laws_FnExactFormatAutomaton.Pure := by
  intro n l1 l2 l3 _ h1 _ h2 _ h3 hx
  unfold maxLen at h1 h2 h3 hx
  refine Ev.rounds ?_
  simp only [laws_FnExactFormatAutomaton.f]
  obtain ⟨r, hr, hm, hl⟩ := laws_szAutomaton_ev n l1 l2 l3 (by omega) (by omega) (by omega) (fun x hh => by have := (hx x hh).2.1; omega)
  refine Ev.bind hr ?_
  by_cases c : r < 0
  · simp only [if_pos c]
    exact Ev.now _
  simp only [if_neg c]
  have hl := hl (by omega)
  have ht := laws_toAutomaton_ev n l1 l2 l3 (by omega) (by omega) (by omega)
  have hlm : (l3.map ofS).length = l3.length := List.length_map ..
  refine Ev.bind ht (Ev.bind (spec_FormatAutomaton_ev n l1 l2 (l3.map ofS) (by omega) (by omega) (by omega)) (Ev.bind ht (Ev.bind (impl_FormatAutomaton_ev n l1 l2 (l3.map ofS) (by omega) (by omega) (by omega)) ?_)))
  simp only [if_true]
  refine Ev.bind ht (Ev.bind (laws_eqAutomaton_self n l1 l2 (l3.map ofS) (by omega) (by omega) (by omega)) ?_)
  simp only [if_true]
  exact Ev.now _

end Go.Proofs.YtojfbgegankddaaDoor.Pure
