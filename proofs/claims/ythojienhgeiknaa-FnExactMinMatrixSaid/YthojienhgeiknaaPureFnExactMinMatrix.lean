/- The pure statement of FnExactMinMatrix: the printed functions answer true at every input that can be read. -/
import Derived.Test.YthojienhgeiknaaPFnExactMinMatrixx4
set_option linter.unusedVariables false
set_option linter.unusedSimpArgs false
namespace Go.Proofs.Ythojienhgeiknaa.Pure
open Go.RowKit Go.Proofs.Ythojienhgeiknaa.PFnExactMinMatrix Go.Proofs.YthojienhgeiknaaW.PrintWords Go.Proofs.YthojienhgeiknaaW.PrintLast Go.Proofs.YthojienhgeiknaaW.PrintMore

theorem w64 {x : Int} (h0 : -9223372036854775808 ≤ x) (h1 : x ≤ 9223372036854775807) : wrap64 x = x := by unfold wrap64; omega
theorem cast0 : ((0 : Nat) : Int) = 0 := rfl
theorem w64n {i : Nat} (h : i < 9223372036854775807) : wrap64 ((i : Int) + 1) = ((i + 1 : Nat) : Int) := by rw [w64 (by omega) (by omega)]; omega
theorem rd_nat {l : List Int} {i : Nat} (h : i < l.length) : rd l (i : Int) = l[i] := by simp [rd, List.getD_eq_getElem?_getD, h]
theorem mn_eq (a b : Int) : mn a b = min a b := by unfold mn; split <;> omega
theorem mx_eq (a b : Int) : mx a b = max a b := by unfold mx; split <;> omega
theorem down (n : Nat) {P : Nat → Prop} (h0 : P n) (hs : ∀ i, i < n → P (i + 1) → P i) : ∀ i, i ≤ n → P i := by
  have h : ∀ d i, i + d = n → P i := by
    intro d
    induction d with
    | zero => intro i hi; obtain rfl : i = n := by omega
              exact h0
    | succ d ih => intro i hi; exact hs i (by omega) (ih (i + 1) (by omega))
  exact fun i hi => h (n - i) i (by omega)
theorem ev_to {α : Type} {g : Nat → Option α} {r r' : α} (h : Ev g r) (e : r = r') : Ev g r' := e ▸ h
theorem dropc {α : Type} {l : List α} {i : Nat} (h : i < l.length) : l.drop i = l[i] :: l.drop (i + 1) := List.drop_eq_getElem_cons h
theorem dropn {α : Type} (l : List α) : l.drop l.length = [] := List.drop_eq_nil_of_le (Nat.le_refl _)
theorem wf64 {x : Int} (h : (Lit.int .i64 x).wf = true) : -9223372036854775808 ≤ x ∧ x ≤ 9223372036854775807 := by
  simp [Lit.wf, IntKind.min, IntKind.max, IntKind.signed, IntKind.bits] at h
  omega
theorem wf8 {x : Int} (h : (Lit.int .u8 x).wf = true) : 0 ≤ x ∧ x ≤ 255 := by
  simp [Lit.wf, IntKind.min, IntKind.max, IntKind.signed, IntKind.bits] at h
  omega
theorem nnc (q : Nat) : (0 : Int) ≤ (q : Int) := Int.natCast_nonneg q
theorem ltc {a b : Nat} (h : a < b) : (a : Int) < (b : Int) := Int.ofNat_lt.2 h
/-- A cost: between 0 and 1000000. -/
def cv (a : Int) : Bool := decide (0 ≤ a ∧ a ≤ 1000000)
theorem cv_iff {a : Int} : cv a = true ↔ 0 ≤ a ∧ a ≤ 1000000 := by simp [cv]
/-- The sum of two costs, at most 1000000. -/
def addc (s a : Int) : Int := min (s + a) 1000000
theorem addc_bd {s a : Int} (h0 : 0 ≤ s) (h1 : 0 ≤ a) : 0 ≤ addc s a ∧ addc s a ≤ 1000000 := by unfold addc; omega
/-- A matrix: 1 to 4 rows, as many costs in each. -/
def mv (n : Int) (l : List Int) : Bool := decide (1 ≤ n ∧ n ≤ 4 ∧ (l.length : Int) = n * n) && l.all cv
theorem mv_iff {n : Int} {l : List Int} : mv n l = true ↔ (1 ≤ n ∧ n ≤ 4 ∧ (l.length : Int) = n * n) ∧ l.all cv = true := by simp [mv]
theorem sq_le {n : Int} (h1 : 1 ≤ n) (h2 : n ≤ 4) : 1 ≤ n * n ∧ n * n ≤ 16 := by
  obtain h | h | h | h : n = 1 ∨ n = 2 ∨ n = 3 ∨ n = 4 := by omega
  all_goals subst h; omega
/-- The cost in row i, column j. -/
def ent (n : Nat) (l : List Int) (i j : Nat) : Int := l.getD (i * n + j) 0
theorem rd_ent (n : Nat) (l : List Int) (i j : Nat) : rd l ((i * n + j : Nat) : Int) = ent n l i j := by
  show l.getD ((i * n + j : Nat) : Int).toNat 0 = _
  rw [Int.toNat_natCast]
  rfl
theorem idx_lt {n i j : Nat} (hi : i < n) (hj : j < n) : i * n + j < n * n := by
  have := Nat.mul_le_mul_right n (show i + 1 ≤ n from hi)
  rw [Nat.add_mul] at this
  omega
theorem sq16 {n : Nat} (h : n ≤ 4) : n * n ≤ 16 := Nat.mul_le_mul h h
theorem idx_wrap {n i j : Nat} (hn : n ≤ 4) (hi : i < n) (hj : j < n) : wrap64 ((wrap64 ((i : Int) * (n : Int))) + (j : Int)) = ((i * n + j : Nat) : Int) := by
  have h1 := idx_lt hi hj
  have h2 := sq16 hn
  have e : ((i * n + j : Nat) : Int) = (i : Int) * (n : Int) + (j : Int) := by rw [Int.natCast_add, Int.natCast_mul]
  have e2 : ((i * n : Nat) : Int) = (i : Int) * (n : Int) := Int.natCast_mul _ _
  rw [w64 (x := (i : Int) * (n : Int)) (by omega) (by omega), w64 (by omega) (by omega), e]
theorem div_idx {n i k : Nat} (hk : k < n) : (i * n + k) / n = i ∧ (i * n + k) % n = k := by
  constructor
  · rw [Nat.mul_comm, Nat.mul_add_div (by omega), Nat.div_eq_of_lt hk]; omega
  · rw [Nat.mul_comm, Nat.mul_add_mod, Nat.mod_eq_of_lt hk]
/-- The cells of a matrix, of what a function tells for each place. -/
def cells (n : Nat) (f : Nat → Nat → Int) : List Int := (List.range (n * n)).map fun t => f (t / n) (t % n)
/-- The first so many of them. -/
def cellsTo (n : Nat) (f : Nat → Nat → Int) (m : Nat) : List Int := (List.range m).map fun t => f (t / n) (t % n)
theorem cellsTo_len (n : Nat) (f : Nat → Nat → Int) (m : Nat) : (cellsTo n f m).length = m := by simp [cellsTo]
theorem cells_len (n : Nat) (f : Nat → Nat → Int) : (cells n f).length = n * n := by simp [cells]
theorem cellsTo_next (n : Nat) (f : Nat → Nat → Int) (m : Nat) : cellsTo n f m ++ [f (m / n) (m % n)] = cellsTo n f (m + 1) := by simp [cellsTo, List.range_succ]
theorem ent_cells {n : Nat} (f : Nat → Nat → Int) {i j : Nat} (hi : i < n) (hj : j < n) : ent n (cells n f) i j = f i j := by
  have h := idx_lt hi hj
  have hd := div_idx (i := i) hj
  rw [ent, cells, List.getD_eq_getElem?_getD, List.getElem?_map, List.getElem?_range h]
  simp [hd.1, hd.2]
theorem cells_ent {n : Nat} {l : List Int} (h : l.length = n * n) : cells n (ent n l) = l := by
  apply List.ext_getElem
  · rw [cells_len, h]
  · intro i h1 h2
    have e : i / n * n + i % n = i := by rw [Nat.mul_comm]; exact Nat.div_add_mod i n
    simp [cells, ent, e, h2]
theorem cells_congr {n : Nat} {f g : Nat → Nat → Int} (h : ∀ i j, i < n → j < n → f i j = g i j) : cells n f = cells n g := by
  apply List.map_congr_left
  intro t ht
  have ht : t < n * n := by simpa using ht
  have hn : 0 < n := by
    cases n with
    | zero => simp at ht
    | succ n => omega
  exact h _ _ (Nat.div_lt_of_lt_mul ht) (Nat.mod_lt _ hn)
theorem cells_all {n : Nat} {f : Nat → Nat → Int} (h : ∀ i j, i < n → j < n → cv (f i j) = true) : (cells n f).all cv = true := by
  rw [List.all_eq_true]
  intro x hx
  obtain ⟨t, ht, rfl⟩ := List.mem_map.1 hx
  have ht : t < n * n := by simpa using ht
  have hn : 0 < n := by
    cases n with
    | zero => simp at ht
    | succ n => omega
  exact h _ _ (Nat.div_lt_of_lt_mul ht) (Nat.mod_lt _ hn)
theorem mv_cells {n : Nat} (h0 : 1 ≤ n) (h1 : n ≤ 4) {f : Nat → Nat → Int} (h : ∀ i j, i < n → j < n → cv (f i j) = true) : mv (n : Int) (cells n f) = true := by
  rw [mv_iff]
  refine ⟨⟨by omega, by omega, ?_⟩, cells_all h⟩
  rw [cells_len, Int.natCast_mul]
theorem mv_nat {n : Int} {l : List Int} (h : mv n l = true) : ∃ m : Nat, n = (m : Int) ∧ 1 ≤ m ∧ m ≤ 4 ∧ l.length = m * m ∧ ∀ x ∈ l, cv x = true := by
  rw [mv_iff] at h
  obtain ⟨m, rfl⟩ := Int.eq_ofNat_of_zero_le (show 0 ≤ n by omega)
  have e := Int.natCast_mul m m
  exact ⟨m, rfl, by omega, by omega, by omega, by simpa using h.2⟩
theorem cv_ent {n : Nat} {l : List Int} (hl : l.length = n * n) (h : ∀ x ∈ l, cv x = true) {i j : Nat} (hi : i < n) (hj : j < n) : cv (ent n l i j) = true := by
  have hb := idx_lt hi hj
  have : ent n l i j = l[i * n + j]'(by omega) := by
    rw [ent, List.getD_eq_getElem?_getD, List.getElem?_eq_getElem (by omega)]
    rfl
  rw [this]
  exact h _ (List.getElem_mem _)
/-- The least of so many costs. -/
def dotTo (f : Nat → Int) (m : Nat) : Int := (List.range m).foldl (fun acc x => min acc (f x)) 1000000
theorem dotTo_next (f : Nat → Int) (m : Nat) : dotTo f (m + 1) = min (dotTo f m) (f m) := by simp [dotTo, List.range_succ]
theorem dotTo_zero (f : Nat → Int) : dotTo f 0 = 1000000 := rfl
theorem dotTo_bd {f : Nat → Int} : ∀ {m : Nat}, (∀ l, l < m → 0 ≤ f l) → 0 ≤ dotTo f m ∧ dotTo f m ≤ 1000000 := by
  intro m
  induction m with
  | zero => intro _; rw [dotTo_zero]; omega
  | succ m ih =>
    intro h
    have h1 := ih (fun l hl => h l (by omega))
    have h2 := h m (by omega)
    rw [dotTo_next]
    omega
def unitm (n : Nat) : List Int := cells n fun i j => if i = j then 0 else 1000000
def turnm (n : Nat) (a : List Int) : List Int := cells n fun i j => ent n a j i
def minm (n : Nat) (a b : List Int) : List Int := cells n fun i j => min (ent n a i j) (ent n b i j)
def mulm (n : Nat) (a b : List Int) : List Int := cells n fun i j => dotTo (fun l => addc (ent n a i l) (ent n b l j)) n
def two (n : Int) (a : List Int) (m : Int) (b : List Int) : Bool := mv n a && (mv m b && decide (n = m))
def unitR (n : Int) : Int × List Int × Bool := if 1 ≤ n ∧ n ≤ 4 then (n, unitm n.toNat, true) else (0, [], false)
def turnR (n : Int) (a : List Int) : Int × List Int × Bool := if mv n a then (n, turnm n.toNat a, true) else (0, [], false)
def minR (n : Int) (a : List Int) (m : Int) (b : List Int) : Int × List Int × Bool := if two n a m b then (n, minm n.toNat a b, true) else (0, [], false)
def mulR (n : Int) (a : List Int) (m : Int) (b : List Int) : Int × List Int × Bool := if two n a m b then (n, mulm n.toNat a b, true) else (0, [], false)
theorem two_iff {n m : Int} {a b : List Int} : two n a m b = true ↔ mv n a = true ∧ mv m b = true ∧ n = m := by simp [two]
theorem cv_bd {a : Int} (h : cv a = true) : 0 ≤ a ∧ a ≤ 1000000 := cv_iff.1 h
theorem cv_dot {n : Nat} {f : Nat → Int} (h : ∀ l, l < n → 0 ≤ f l) : cv (dotTo f n) = true := cv_iff.2 (dotTo_bd h)
theorem mv_mulm {n : Nat} (h1 : 1 ≤ n) (h4 : n ≤ 4) {a b : List Int} (hla : a.length = n * n) (hlb : b.length = n * n) (hca : ∀ x ∈ a, cv x = true) (hcb : ∀ x ∈ b, cv x = true) : mv (n : Int) (mulm n a b) = true :=
  mv_cells h1 h4 fun i j hi hj => cv_dot fun l hl => (addc_bd (cv_iff.1 (cv_ent hla hca hi hl)).1 (cv_iff.1 (cv_ent hlb hcb hl hj)).1).1
theorem mv_minm {n : Nat} (h1 : 1 ≤ n) (h4 : n ≤ 4) {a b : List Int} (hla : a.length = n * n) (hlb : b.length = n * n) (hca : ∀ x ∈ a, cv x = true) (hcb : ∀ x ∈ b, cv x = true) : mv (n : Int) (minm n a b) = true :=
  mv_cells h1 h4 fun i j hi hj => by
    have c1 := cv_iff.1 (cv_ent hla hca hi hj)
    have c2 := cv_iff.1 (cv_ent hlb hcb hi hj)
    rw [cv_iff]
    omega
theorem mv_turnm {n : Nat} (h1 : 1 ≤ n) (h4 : n ≤ 4) {a : List Int} (hla : a.length = n * n) (hca : ∀ x ∈ a, cv x = true) : mv (n : Int) (turnm n a) = true :=
  mv_cells h1 h4 fun i j hi hj => cv_ent hla hca hj hi
theorem mv_unitm {n : Nat} (h1 : 1 ≤ n) (h4 : n ≤ 4) : mv (n : Int) (unitm n) = true :=
  mv_cells h1 h4 fun i j hi hj => by
    by_cases e : i = j <;> simp [e, cv]
/-- A matrix of so many rows that is valid. -/
structure Ok (n : Nat) (l : List Int) : Prop where
  h1 : 1 ≤ n
  h4 : n ≤ 4
  len : l.length = n * n
  all : ∀ x ∈ l, cv x = true
theorem ok_of {n : Nat} {l : List Int} (h : mv (n : Int) l = true) : Ok n l := by
  obtain ⟨m, hm, h1, h4, hl, hc⟩ := mv_nat h
  obtain rfl : n = m := by omega
  exact ⟨h1, h4, hl, hc⟩
theorem Ok.mv {n : Nat} {l : List Int} (h : Ok n l) : mv (n : Int) l = true := by
  rw [mv_iff]
  refine ⟨⟨by have := h.h1; omega, by have := h.h4; omega, ?_⟩, by simpa using h.all⟩
  rw [h.len, Int.natCast_mul]
theorem Ok.two {n : Nat} {a b : List Int} (ha : Ok n a) (hb : Ok n b) : two (n : Int) a (n : Int) b = true := two_iff.2 ⟨ha.mv, hb.mv, rfl⟩
theorem Ok.mul {n : Nat} {a b : List Int} (ha : Ok n a) (hb : Ok n b) : Ok n (mulm n a b) := ok_of (mv_mulm ha.h1 ha.h4 ha.len hb.len ha.all hb.all)
theorem Ok.min {n : Nat} {a b : List Int} (ha : Ok n a) (hb : Ok n b) : Ok n (minm n a b) := ok_of (mv_minm ha.h1 ha.h4 ha.len hb.len ha.all hb.all)
theorem Ok.turn {n : Nat} {a : List Int} (ha : Ok n a) : Ok n (turnm n a) := ok_of (mv_turnm ha.h1 ha.h4 ha.len ha.all)
theorem Ok.unit {n : Nat} (h1 : 1 ≤ n) (h4 : n ≤ 4) : Ok n (unitm n) := ok_of (mv_unitm h1 h4)
theorem Ok.short {n : Nat} {a : List Int} (ha : Ok n a) : a.length ≤ 16 := by rw [ha.len]; exact sq16 ha.h4
theorem mulR_ok {n : Nat} {a b : List Int} (ha : Ok n a) (hb : Ok n b) : mulR (n : Int) a (n : Int) b = ((n : Int), mulm n a b, true) := by rw [mulR, if_pos (ha.two hb), Int.toNat_natCast]
theorem minR_ok {n : Nat} {a b : List Int} (ha : Ok n a) (hb : Ok n b) : minR (n : Int) a (n : Int) b = ((n : Int), minm n a b, true) := by rw [minR, if_pos (ha.two hb), Int.toNat_natCast]
theorem turnR_ok {n : Nat} {a : List Int} (ha : Ok n a) : turnR (n : Int) a = ((n : Int), turnm n a, true) := by rw [turnR, if_pos ha.mv, Int.toNat_natCast]
theorem unitR_ok {n : Nat} (h1 : 1 ≤ n) (h4 : n ≤ 4) : unitR (n : Int) = ((n : Int), unitm n, true) := by rw [unitR, if_pos (by omega), Int.toNat_natCast]
theorem mv_ok {n : Int} {l : List Int} (h : _root_.Go.Proofs.Ythojienhgeiknaa.Pure.mv n l = true) : ∃ m : Nat, n = (m : Int) ∧ Ok m l := by
  obtain ⟨m, hm, h1, h4, hl, hc⟩ := mv_nat h
  exact ⟨m, hm, h1, h4, hl, hc⟩
theorem tdiv_nat (t n : Nat) (h : t < 1000) : wrap64 (Int.tdiv (t : Int) (n : Int)) = ((t / n : Nat) : Int) := by
  have e : Int.tdiv (t : Int) (n : Int) = ((t / n : Nat) : Int) := rfl
  have h2 := Nat.div_le_self t n
  rw [e]
  generalize t / n = q at h2 ⊢
  exact w64 (by omega) (by omega)
theorem tmod_nat (t n : Nat) : Int.tmod (t : Int) (n : Int) = ((t % n : Nat) : Int) := rfl
theorem sq_wrap {n : Nat} (h : n ≤ 4) : wrap64 ((n : Int) * (n : Int)) = ((n * n : Nat) : Int) := by
  have := sq16 h
  have e : ((n * n : Nat) : Int) = (n : Int) * (n : Int) := Int.natCast_mul _ _
  rw [w64 (by omega) (by omega), e]
theorem div_lt {n t : Nat} (h : t < n * n) : 0 < n ∧ t / n < n ∧ t % n < n := by
  have hn : 0 < n := by
    cases n with
    | zero => simp at h
    | succ n => omega
  exact ⟨hn, Nat.div_lt_of_lt_mul h, Nat.mod_lt _ hn⟩
theorem divmod (t n : Nat) : t / n * n + t % n = t := by rw [Nat.mul_comm]; exact Nat.div_add_mod t n
theorem rd_divmod (n t : Nat) (a : List Int) : rd a (t : Int) = ent n a (t / n) (t % n) := by
  rw [← rd_ent, divmod]
theorem spec_l2Min_ev {n : Nat} (h4 : n ≤ 4) {a b : List Int} (hla : a.length = n * n) (hlb : b.length = n * n) (m : Int) : Ev (fun k => spec_l2Min.f k (n : Int) a m b) ((n : Int), minm n a b) := by
  have hs := sq16 h4
  have h := down (n * n) (P := fun t => Ev (fun k => spec_l2Min.l0 k ((n * n : Nat) : Int) (t : Int) (n : Int) a m b (n : Int) (cellsTo n (fun i j => min (ent n a i j) (ent n b i j)) t)) ((n : Int), minm n a b)) ?_ ?_ 0 (by omega)
  · simpa only [spec_l2Min.f, hla, cast0, cellsTo, List.range_zero, List.map_nil] using h
  · refine Ev.step (fun k => rfl) ?_
    simp only [spec_l2Min.l0, if_neg (show ¬ ((n * n : Nat) : Int) < ((n * n : Nat) : Int) by omega)]
    exact Ev.now _
  · intro t ht ih
    have hn := cellsTo_next n (fun i j => min (ent n a i j) (ent n b i j)) t
    refine Ev.step (fun k => rfl) ?_
    simp only [spec_l2Min.l0, hla, hlb, if_pos (show (t : Int) < ((n * n : Nat) : Int) by omega), if_pos (show (0 : Int) ≤ (t : Int) by omega), cellsTo_len, if_pos (show t < 17592186044416 by omega), w64n (show t < 9223372036854775807 by omega), mn_eq, rd_divmod n t, hn]
    exact ih
theorem spec_l1In_eq (a b c : Int) : spec_l1In.f a b c = some (decide (b ≤ a ∧ a ≤ c)) := by
  unfold spec_l1In.f
  split <;> simp <;> omega
theorem spec_CostValid_eq (a : Int) : spec_CostValid.f a = some (cv a) := by
  unfold spec_CostValid.f
  rw [spec_l1In_eq]
  rfl
theorem spec_l1All_ev (l : List Int) (hl : l.length < 9223372036854775807) : Ev (fun k => spec_l1All.f k l) (l.all cv) := by
  have h := down l.length (P := fun i => Ev (fun k => spec_l1All.l0 k l (l.length : Int) (i : Int)) ((l.drop i).all cv)) ?_ ?_ 0 (by omega)
  · exact h
  · refine Ev.step (fun k => rfl) ?_
    simp only [spec_l1All.l0, if_neg (show ¬ (l.length : Int) < (l.length : Int) by omega), dropn, List.all_nil]
    exact Ev.now _
  · intro i hi ih
    refine Ev.step (fun k => rfl) ?_
    simp only [spec_l1All.l0, if_pos (show (i : Int) < (l.length : Int) by omega), if_pos (show (0 : Int) ≤ (i : Int) by omega), rd_nat hi, spec_CostValid_eq, Option.bind_some, dropc hi, List.all_cons, w64n (show i < 9223372036854775807 by omega)]
    cases cv l[i] with
    | false => simpa using Ev.now _
    | true => simpa using ih
theorem spec_MatrixValid_ev (n : Int) (l : List Int) (hl : l.length < 9223372036854775807) : Ev (fun k => spec_MatrixValid.f k n l) (mv n l) := by
  simp only [spec_MatrixValid.f, spec_l1In_eq, Option.bind_some]
  by_cases h : 1 ≤ n ∧ n ≤ 4
  · have hs := sq_le h.1 h.2
    simp only [h, and_self, decide_true, if_true, w64 (show -9223372036854775808 ≤ n * n by omega) (show n * n ≤ 9223372036854775807 by omega)]
    by_cases e : (l.length : Int) = n * n
    · simp only [if_pos e]
      refine Ev.bind (spec_l1All_ev l hl) ?_
      exact ev_to (Ev.now _) (by simp [mv, h, e])
    · simp only [if_neg e]
      exact ev_to (Ev.now _) (by simp [mv, e])
  · simp only [h, decide_false, Bool.false_eq_true, if_false]
    refine ev_to (Ev.now false) ?_
    rw [mv, decide_eq_false (fun q => h ⟨q.1, q.2.1⟩)]
    rfl
theorem spec_l2Two_ev (n : Int) (a : List Int) (m : Int) (b : List Int) (ha : a.length < 9223372036854775807) (hb : b.length < 9223372036854775807) : Ev (fun k => spec_l2Two.f k n a m b) (two n a m b) := by
  simp only [spec_l2Two.f]
  refine Ev.bind (spec_MatrixValid_ev n a ha) ?_
  cases h1 : mv n a with
  | false => simpa only [two, h1, Bool.false_and, Bool.false_eq_true, if_false] using Ev.now _
  | true =>
    simp only [if_true]
    refine Ev.bind (spec_MatrixValid_ev m b hb) ?_
    cases h2 : mv m b with
    | false => simpa only [two, h1, h2, Bool.true_and, Bool.false_and, Bool.false_eq_true, if_false] using Ev.now _
    | true =>
      simp only [if_true, two, h1, h2, Bool.true_and]
      exact ev_to (Ev.now _) (by by_cases e : n = m <;> simp [e])
theorem two_nat {n m : Int} {a b : List Int} (h : two n a m b = true) : ∃ q : Nat, n = (q : Int) ∧ m = (q : Int) ∧ 1 ≤ q ∧ q ≤ 4 ∧ a.length = q * q ∧ b.length = q * q ∧ (∀ x ∈ a, cv x = true) ∧ ∀ x ∈ b, cv x = true := by
  rw [two_iff] at h
  obtain ⟨q, hq, h1, h4, hl, hc⟩ := mv_nat h.1
  obtain ⟨q', hq', h1', h4', hl', hc'⟩ := mv_nat h.2.1
  obtain rfl : q' = q := by omega
  exact ⟨q', hq, hq', h1, h4, hl, hl', hc, hc'⟩
theorem spec_MinMatrix_ev (n : Int) (a : List Int) (m : Int) (b : List Int) (ha : a.length < 9223372036854775807) (hb : b.length < 9223372036854775807) : Ev (fun k => spec_MinMatrix.f k n a m b) (minR n a m b) := by
  simp only [spec_MinMatrix.f]
  refine Ev.bind (spec_l2Two_ev n a m b ha hb) ?_
  cases hv : two n a m b with
  | false => simpa only [minR, hv, Bool.false_eq_true, if_false] using Ev.now _
  | true =>
    obtain ⟨q, rfl, rfl, h1, h4, hla, hlb, -, -⟩ := two_nat hv
    simp only [if_true]
    refine Ev.bind (spec_l2Min_ev h4 hla hlb _) ?_
    exact ev_to (Ev.now _) (by rw [minR, if_pos hv, Int.toNat_natCast])
theorem impl_Matrix_at_eq {n : Nat} (h4 : n ≤ 4) {l : List Int} (hl : l.length = n * n) {i j : Nat} (hi : i < n) (hj : j < n) : impl_Matrix_at.f (n : Int) l (i : Int) (j : Int) = some (ent n l i j) := by
  have hb := idx_lt hi hj
  have hlc : (l.length : Int) = ((n * n : Nat) : Int) := by rw [hl]
  simp only [impl_Matrix_at.f, idx_wrap h4 hi hj, if_pos (show (0 : Int) ≤ ((i * n + j : Nat) : Int) by omega), if_pos (show ((i * n + j : Nat) : Int) < (l.length : Int) by omega), rd_ent]
theorem filled_MinMatrix_1_l1 {n : Nat} (hn : n ≤ 4) (c0 : Int) (c1 : List Int) (c2 : Int) (c3 : List Int) (g : Nat → Nat → Int) (hg : ∀ i j : Nat, i < n → j < n → impl_MinMatrix_1.f (i : Int) (j : Int) c0 c1 c2 c3 = some (g i j)) (i : Nat) (hi : i < n)
    (ho : Ev (fun k => impl_filled_at_impl_MinMatrix_1.l0 k (n : Int) (n : Int) ((i + 1 : Nat) : Int) c0 c1 c2 c3 (n : Int) (cellsTo n g ((i + 1) * n))) ((n : Int), cells n g)) :
    ∀ j, j ≤ n → Ev (fun k => impl_filled_at_impl_MinMatrix_1.l1 k (n : Int) (i : Int) (n : Int) (i : Int) (n : Int) (j : Int) c0 c1 c2 c3 (n : Int) (cellsTo n g (i * n + j))) ((n : Int), cells n g) := by
  have e1 : i * n + n = (i + 1) * n := by rw [Nat.add_mul]; omega
  refine down n ?_ ?_
  · refine Ev.step (fun k => rfl) ?_
    simp only [impl_filled_at_impl_MinMatrix_1.l1, if_neg (show ¬ (n : Int) < (n : Int) by omega), w64n (show i < 9223372036854775807 by omega), e1]
    exact ho
  · intro j hj ih
    have hl := idx_lt hi hj
    have hs := sq16 hn
    have hd := div_idx (i := i) hj
    have hnx := cellsTo_next n g (i * n + j)
    rw [hd.1, hd.2] at hnx
    refine Ev.step (fun k => rfl) ?_
    simp only [impl_filled_at_impl_MinMatrix_1.l1, if_pos (show (j : Int) < (n : Int) by omega)]
    simp only [hg i j hi hj, Option.bind_some]
    simp only [cellsTo_len, if_pos (show i * n + j < 17592186044416 by omega), hnx, w64n (show j < 9223372036854775807 by omega)]
    exact ih
theorem filled_MinMatrix_1_ev {n : Nat} (hn : n ≤ 4) (c0 : Int) (c1 : List Int) (c2 : Int) (c3 : List Int) (g : Nat → Nat → Int) (hg : ∀ i j : Nat, i < n → j < n → impl_MinMatrix_1.f (i : Int) (j : Int) c0 c1 c2 c3 = some (g i j)) :
    Ev (fun k => impl_filled_at_impl_MinMatrix_1.f k (n : Int) c0 c1 c2 c3) ((n : Int), cells n g) := by
  have h := down n (P := fun i => Ev (fun k => impl_filled_at_impl_MinMatrix_1.l0 k (n : Int) (n : Int) (i : Int) c0 c1 c2 c3 (n : Int) (cellsTo n g (i * n))) ((n : Int), cells n g)) ?_ ?_ 0 (by omega)
  · simpa only [impl_filled_at_impl_MinMatrix_1.f, Nat.zero_mul, cast0, cellsTo, List.range_zero, List.map_nil] using h
  · refine Ev.step (fun k => rfl) ?_
    simp only [impl_filled_at_impl_MinMatrix_1.l0, if_neg (show ¬ (n : Int) < (n : Int) by omega)]
    exact Ev.now _
  · intro i hi ih
    refine Ev.step (fun k => rfl) ?_
    simp only [impl_filled_at_impl_MinMatrix_1.l0, if_pos (show (i : Int) < (n : Int) by omega)]
    exact filled_MinMatrix_1_l1 hn c0 c1 c2 c3 g hg i hi ih 0 (by omega)
theorem impl_CostValid_eq (a : Int) : impl_CostValid.f a = some (cv a) := by
  unfold impl_CostValid.f cv
  split <;> simp <;> omega
theorem impl_IndexValid_ev (l : List Int) (hl : l.length < 9223372036854775807) : ∃ r, Ev (fun k => slices_IndexFunc_int_int_at_impl_MatrixValid_1.f k l) r ∧ decide (r ≥ 0) = !(l.all cv) := by
  have h := down l.length (P := fun i => ∃ r, Ev (fun k => slices_IndexFunc_int_int_at_impl_MatrixValid_1.l0 k l (l.length : Int) (i : Int)) r ∧ decide (r ≥ 0) = !((l.drop i).all cv)) ?_ ?_ 0 (by omega)
  · simpa only [slices_IndexFunc_int_int_at_impl_MatrixValid_1.f, List.drop_zero, cast0] using h
  · refine ⟨-1, Ev.step (fun k => rfl) ?_, by rw [dropn]; rfl⟩
    simp only [slices_IndexFunc_int_int_at_impl_MatrixValid_1.l0, if_neg (show ¬ (l.length : Int) < (l.length : Int) by omega)]
    exact Ev.now _
  · intro i hi ih
    obtain ⟨r, hr, hd⟩ := ih
    cases hc : cv l[i] with
    | true =>
      refine ⟨r, Ev.step (fun k => rfl) ?_, by rw [hd, dropc hi, List.all_cons, hc, Bool.true_and]⟩
      simp only [slices_IndexFunc_int_int_at_impl_MatrixValid_1.l0, if_pos (show (i : Int) < (l.length : Int) by omega), if_pos (show (0 : Int) ≤ (i : Int) by omega), rd_nat hi, impl_MatrixValid_1.f, impl_CostValid_eq, hc, Option.bind_some, Bool.not_true, Bool.false_eq_true, if_false, w64n (show i < 9223372036854775807 by omega)]
      exact hr
    | false =>
      refine ⟨(i : Int), Ev.step (fun k => rfl) ?_, by rw [dropc hi, List.all_cons, hc, decide_eq_true (by omega)]; rfl⟩
      simp only [slices_IndexFunc_int_int_at_impl_MatrixValid_1.l0, if_pos (show (i : Int) < (l.length : Int) by omega), if_pos (show (0 : Int) ≤ (i : Int) by omega), rd_nat hi, impl_MatrixValid_1.f, impl_CostValid_eq, hc, Option.bind_some, Bool.not_false, if_true]
      exact Ev.now _
theorem impl_MatrixValid_ev (n : Int) (l : List Int) (hl : l.length < 9223372036854775807) : Ev (fun k => impl_MatrixValid.f k n l) (mv n l) := by
  simp only [impl_MatrixValid.f]
  by_cases h1 : n < 1
  · simp only [if_pos h1]
    exact ev_to (Ev.now _) (by rw [mv, decide_eq_false (fun q => by omega)]; rfl)
  · simp only [if_neg h1]
    by_cases h4 : n > 4
    · simp only [if_pos h4]
      exact ev_to (Ev.now _) (by rw [mv, decide_eq_false (fun q => by omega)]; rfl)
    · have hs := sq_le (show 1 ≤ n by omega) (show n ≤ 4 by omega)
      simp only [if_neg h4, w64 (show -9223372036854775808 ≤ n * n by omega) (show n * n ≤ 9223372036854775807 by omega)]
      by_cases e : (l.length : Int) = n * n
      · obtain ⟨r, hr, hd⟩ := impl_IndexValid_ev l hl
        simp only [if_pos e, slices_ContainsFunc_int_int_at_impl_MatrixValid_1.f]
        refine Ev.bind (Ev.bind hr (Ev.now _)) ?_
        refine ev_to (Ev.now _) ?_
        rw [hd, Bool.not_not, mv, decide_eq_true ⟨by omega, by omega, e⟩, Bool.true_and]
      · simp only [if_neg e]
        exact ev_to (Ev.now _) (by rw [mv, decide_eq_false (fun q => e q.2.2)]; rfl)
theorem impl_alike_ev (n : Int) (a : List Int) (m : Int) (b : List Int) (ha : a.length < 9223372036854775807) (hb : b.length < 9223372036854775807) : Ev (fun k => impl_alike.f k n a m b) (two n a m b) := by
  simp only [impl_alike.f]
  refine Ev.bind (impl_MatrixValid_ev n a ha) ?_
  cases h1 : mv n a with
  | false => simpa only [two, h1, Bool.false_and, Bool.false_eq_true, if_false] using Ev.now _
  | true =>
    simp only [if_true]
    refine Ev.bind (impl_MatrixValid_ev m b hb) ?_
    cases h2 : mv m b with
    | false => simpa only [two, h1, h2, Bool.true_and, Bool.false_and, Bool.false_eq_true, if_false] using Ev.now _
    | true =>
      simp only [if_true, two, h1, h2, Bool.true_and]
      exact ev_to (Ev.now _) (by by_cases e : n = m <;> simp [e])
theorem impl_MinMatrix_ev (n : Int) (a : List Int) (m : Int) (b : List Int) (ha : a.length < 9223372036854775807) (hb : b.length < 9223372036854775807) : Ev (fun k => impl_MinMatrix.f k n a m b) (minR n a m b) := by
  simp only [impl_MinMatrix.f]
  refine Ev.bind (impl_alike_ev n a m b ha hb) ?_
  cases hv : two n a m b with
  | false => simpa only [minR, hv, Bool.false_eq_true, if_false] using Ev.now _
  | true =>
    obtain ⟨q, rfl, rfl, h1, h4, hla, hlb, -, -⟩ := two_nat hv
    have hf := filled_MinMatrix_1_ev (n := q) h4 (q : Int) a (q : Int) b (fun i j => min (ent q a i j) (ent q b i j)) (fun i j hi hj => by simp only [impl_MinMatrix_1.f, impl_Matrix_at_eq h4 hla hi hj, impl_Matrix_at_eq h4 hlb hi hj, Option.bind_some, mn_eq])
    simp only [if_true]
    refine Ev.bind hf ?_
    exact ev_to (Ev.now _) (by rw [minR, if_pos hv, Int.toNat_natCast]; rfl)
/-- The numbers that the laws write into a row: k, k + 1, .. -/
def marks (k : Int) : Nat → List Int
  | 0 => []
  | n + 1 => k :: marks (k + 1) n
theorem marks_len (n : Nat) : ∀ k, (marks k n).length = n := by
  induction n with
  | zero => intro k; rfl
  | succ n ih => intro k; simp [marks, ih]
theorem marks_snoc (n : Nat) : ∀ k, marks k (n + 1) = marks k n ++ [k + n] := by
  induction n with
  | zero => intro k; simp [marks]
  | succ n ih =>
    intro k
    rw [marks, ih (k + 1), marks]
    simp
    omega
theorem marks_get (n : Nat) : ∀ (k : Int) (i : Nat) (h : i < (marks k n).length), (marks k n)[i] = k + i := by
  induction n with
  | zero => intro k i h; simp [marks] at h
  | succ n ih =>
    intro k i h
    cases i with
    | zero => simp [marks]
    | succ i =>
      simp only [marks, List.getElem_cons_succ]
      rw [ih]
      omega
theorem laws_markIntS_ev (l : List Int) (k0 : Int) (h0 : 0 ≤ k0) (hb : k0 + l.length ≤ 9223372036854775806) : Ev (fun k => laws_markIntS.f k l k0) (k0 + l.length, marks k0 l.length) := by
  have h := down l.length (P := fun i => ∀ x : List Int, x.length = l.length → x.take i = marks k0 i → Ev (fun k => laws_markIntS.l0 k x (k0 + (i : Int)) (i : Int)) (k0 + l.length, marks k0 l.length)) ?_ ?_ 0 (by omega) l rfl (by simp [marks])
  · simpa only [laws_markIntS.f, cast0, Int.add_zero] using h
  · intro x hx ht
    refine Ev.step (fun k => rfl) ?_
    simp only [laws_markIntS.l0, if_neg (show ¬ (l.length : Int) < (x.length : Int) by omega)]
    rw [← hx, List.take_length] at ht
    rw [hx] at ht
    exact ev_to (Ev.now _) (by rw [ht])
  · intro i hi ih x hx ht
    refine Ev.step (fun k => rfl) ?_
    have e : wrap64 (k0 + (i : Int) + 1) = k0 + ((i + 1 : Nat) : Int) := by rw [w64 (by omega) (by omega)]; omega
    simp only [laws_markIntS.l0, if_pos (show (i : Int) < (x.length : Int) by omega), if_pos (show (0 : Int) ≤ (i : Int) by omega), w64n (show i < 9223372036854775807 by omega), Int.toNat_natCast, e]
    refine ih _ (by simpa using hx) ?_
    rw [List.take_succ_eq_append_getElem (by simpa [hx] using hi), marks_snoc, List.getElem_set_self, List.take_set, ht, List.set_eq_of_length_le (by rw [marks_len]; omega)]
theorem laws_heldIntS_ev (n : Nat) (k0 : Int) (h0 : 0 ≤ k0) (hb : k0 + n ≤ 9223372036854775806) : Ev (fun k => laws_heldIntS.f k (marks k0 n) k0) (k0 + n) := by
  have hl := marks_len n k0
  have h := down n (P := fun i => Ev (fun k => laws_heldIntS.l0 k (marks k0 n) (k0 + (i : Int)) (i : Int)) (k0 + n)) ?_ ?_ 0 (by omega)
  · simpa only [laws_heldIntS.f, cast0, Int.add_zero] using h
  · refine Ev.step (fun k => rfl) ?_
    simp only [laws_heldIntS.l0, hl, if_neg (show ¬ (n : Int) < (n : Int) by omega)]
    exact Ev.now _
  · intro i hi ih
    refine Ev.step (fun k => rfl) ?_
    have hi' : i < (marks k0 n).length := by omega
    have e : wrap64 (k0 + (i : Int) + 1) = k0 + ((i + 1 : Nat) : Int) := by rw [w64 (by omega) (by omega)]; omega
    simp only [laws_heldIntS.l0, hl, if_pos (show (i : Int) < (n : Int) by omega), if_pos (show (0 : Int) ≤ (i : Int) by omega), rd_nat hi', marks_get, if_true, w64n (show i < 9223372036854775807 by omega), e]
    exact ih
theorem laws_markMatrix_ev (n : Int) (l : List Int) (k0 : Int) (h0 : 0 ≤ k0) (hb : k0 + l.length ≤ 9223372036854775806) : Ev (fun k => laws_markMatrix.f k n l k0) (k0 + l.length, marks k0 l.length) := by
  simp only [laws_markMatrix.f]
  exact Ev.bind (laws_markIntS_ev l k0 h0 hb) (Ev.now _)
theorem laws_heldMatrix_ev (n : Int) (m : Nat) (k0 : Int) (h0 : 0 ≤ k0) (hb : k0 + m ≤ 9223372036854775806) : Ev (fun k => laws_heldMatrix.f k n (marks k0 m) k0) (k0 + m) := by
  simp only [laws_heldMatrix.f]
  refine Ev.bind (laws_heldIntS_ev m k0 h0 hb) ?_
  simp only [if_neg (show ¬ k0 + (m : Int) < 0 by omega)]
  exact Ev.now _
theorem laws_szMatrix_eq (n : Int) (l : List Int) (hl : l.length ≤ 9223372036854775807) (m : Int) (h0 : 0 ≤ m) (h1 : m ≤ 1048576) : laws_szMatrix.f n l m = some (if m - l.length < 0 then -1 else m - l.length) := by
  have e : wrap64 (m - (l.length : Int)) = m - l.length := w64 (by omega) (by omega)
  simp only [laws_szMatrix.f, laws_szIntS.f, e]
  by_cases h : m - (l.length : Int) < 0
  · simp [h]
  · simp [h]
theorem laws_toIntS_ev (l : List Int) (hl : l.length ≤ 35184372088832) : Ev (fun k => laws_toIntS.f k l) l := by
  have h := down l.length (P := fun i => ∀ out : List Int, out.length = l.length → out.take i = l.take i → Ev (fun k => laws_toIntS.l0 k l out (i : Int)) l) ?_ ?_ 0 (by omega) (List.replicate l.length 0) (by simp) (by simp)
  · simpa only [laws_toIntS.f, if_pos (show (0 : Int) ≤ (l.length : Int) by omega), Int.toNat_natCast, if_pos hl, cast0] using h
  · intro out ho ht
    refine Ev.step (fun k => rfl) ?_
    simp only [laws_toIntS.l0, if_neg (show ¬ (l.length : Int) < (l.length : Int) by omega)]
    refine ev_to (Ev.now _) ?_
    rw [List.take_length, ← ho, List.take_length] at ht
    exact ht
  · intro i hi ih out ho ht
    refine Ev.step (fun k => rfl) ?_
    simp only [laws_toIntS.l0, if_pos (show (i : Int) < (l.length : Int) by omega), if_pos (show (0 : Int) ≤ (i : Int) by omega), if_pos (show (i : Int) < (out.length : Int) by omega), rd_nat hi, w64n (show i < 9223372036854775807 by omega), Int.toNat_natCast]
    refine ih _ (by simpa using ho) ?_
    rw [List.take_succ_eq_append_getElem hi, List.take_succ_eq_append_getElem (by simpa [ho] using hi)]
    rw [List.getElem_set_self, List.take_set, ht, List.set_eq_of_length_le (by simp; omega)]
theorem laws_toMatrix_ev (n : Int) (l : List Int) (hl : l.length ≤ 35184372088832) : Ev (fun k => laws_toMatrix.f k n l) (n, l) := by
  simp only [laws_toMatrix.f]
  exact Ev.bind (laws_toIntS_ev l hl) (Ev.now _)
theorem laws_eqIntS_ev (a b : List Int) (hl : a.length < 9223372036854775807) : Ev (fun k => laws_eqIntS.f k a b) (decide (a = b)) := by
  by_cases hab : a.length = b.length
  · have h := down a.length (P := fun i => Ev (fun k => laws_eqIntS.l0 k a b (i : Int)) (decide (a.drop i = b.drop i))) ?_ ?_ 0 (by omega)
    · simpa only [laws_eqIntS.f, if_pos (show (a.length : Int) = (b.length : Int) by omega), List.drop_zero, cast0] using h
    · refine Ev.step (fun k => rfl) ?_
      simp only [laws_eqIntS.l0, if_neg (show ¬ (a.length : Int) < (a.length : Int) by omega)]
      exact ev_to (Ev.now _) (by rw [dropn, hab, dropn]; rfl)
    · intro i hi ih
      have hi' : i < b.length := by omega
      refine Ev.step (fun k => rfl) ?_
      simp only [laws_eqIntS.l0, if_pos (show (i : Int) < (a.length : Int) by omega), if_pos (show (0 : Int) ≤ (i : Int) by omega), if_pos (show (i : Int) < (b.length : Int) by omega), rd_nat hi, rd_nat hi', w64n (show i < 9223372036854775807 by omega), dropc hi, dropc hi']
      by_cases e : a[i] = b[i]
      · simp only [if_pos e]
        exact ev_to ih (by simp only [List.cons.injEq, e, true_and])
      · simp only [if_neg e]
        exact ev_to (Ev.now false) (by simp only [List.cons.injEq, e, false_and, decide_false])
  · simp only [laws_eqIntS.f, if_neg (show ¬ (a.length : Int) = (b.length : Int) by omega)]
    exact ev_to (Ev.now _) (by rw [eq_comm, decide_eq_false_iff_not]; exact fun e => hab (by rw [e]))
theorem laws_eqMatrix_ev (n : Int) (l : List Int) (hl : l.length < 9223372036854775807) : Ev (fun k => laws_eqMatrix.f k n l n l) true := by
  simp only [laws_eqMatrix.f, if_true]
  refine Ev.bind (laws_eqIntS_ev l l hl) ?_
  simpa using Ev.now _

theorem FnExactMinMatrix : laws_FnExactMinMatrix.Pure := by
  intro n a m b _ ha _ _ hb _
  unfold maxLen at ha hb
  refine Ev.rounds ?_
  simp only [laws_FnExactMinMatrix.f, laws_szMatrix_eq n a ha 1048576 (by omega) (by omega), Option.bind_some]
  by_cases h : 1048576 - (a.length : Int) < 0
  · simp only [if_pos h, if_pos (show (-1 : Int) < 0 by omega)]
    exact Ev.now _
  simp only [if_neg h, laws_szMatrix_eq m b hb (1048576 - (a.length : Int)) (by omega) (by omega), Option.bind_some]
  by_cases h2 : 1048576 - (a.length : Int) - (b.length : Int) < 0
  · simp only [if_pos h2, if_pos (show (-1 : Int) < 0 by omega)]
    exact Ev.now _
  simp only [if_neg h2]
  obtain ⟨r1, r2, r3, hr, hlen⟩ : ∃ r1 r2 r3, minR n a m b = (r1, r2, r3) ∧ r2.length ≤ 16 := by
    unfold minR
    cases hv : two n a m b with
    | false => exact ⟨0, [], false, rfl, by simp⟩
    | true =>
      have h3 := two_iff.1 hv
      obtain ⟨q, rfl, hk⟩ := mv_ok h3.1
      obtain ⟨q', hq', hk'⟩ := mv_ok h3.2.1
      obtain rfl : q' = q := by omega
      exact ⟨_, _, _, rfl, by simpa using (hk.min hk').short⟩
  have ta := laws_toMatrix_ev n a (by omega)
  have tb := laws_toMatrix_ev m b (by omega)
  have hs := spec_MinMatrix_ev n a m b (by omega) (by omega)
  have hi := impl_MinMatrix_ev n a m b (by omega) (by omega)
  rw [hr] at hs hi
  have hq := laws_eqMatrix_ev r1 r2 (by omega)
  have xa := laws_eqMatrix_ev n a (by omega)
  have xb := laws_eqMatrix_ev m b (by omega)
  have ma := laws_markMatrix_ev n a 1 (by omega) (by omega)
  have mb := laws_markMatrix_ev m b (1 + a.length) (by omega) (by omega)
  have hg := laws_markMatrix_ev r1 r2 1 (by omega) (by omega)
  have hh := laws_heldMatrix_ev r1 r2.length 1 (by omega) (by omega)
  refine Ev.bind ta (Ev.bind tb (Ev.bind hs (Ev.bind ta (Ev.bind tb (Ev.bind hi (Ev.bind hq ?_))))))
  simp only [if_true, bne_self_eq_false]
  first | (refine Ev.step (fun k => rfl) ?_; simp only [laws_FnExactMinMatrix.j0, Bool.false_eq_true, if_false]) | simp only [Bool.false_eq_true, if_false] | skip
  refine Ev.bind ta (Ev.bind xa ?_)
  simp only [if_true]
  refine Ev.bind tb (Ev.bind xb ?_)
  simp only [if_true]
  refine Ev.bind ma (Ev.bind mb ?_)
  simp only [if_neg (show ¬ (1 : Int) + (a.length : Int) + (b.length : Int) < 0 by omega)]
  refine Ev.bind hq ?_
  simp only [if_true, bne_self_eq_false]
  first | (refine Ev.step (fun k => rfl) ?_; simp only [laws_FnExactMinMatrix.j1, Bool.false_eq_true, if_false]) | simp only [Bool.false_eq_true, if_false] | skip
  refine Ev.bind hg (Ev.bind hh ?_)
  simp only [if_neg (show ¬ (1 : Int) + (r2.length : Int) < 0 by omega), if_true]
  refine Ev.bind ta (Ev.bind tb (Ev.bind hi (Ev.bind hq ?_)))
  simp only [if_true, bne_self_eq_false]
  first | (refine Ev.step (fun k => rfl) ?_; simp only [laws_FnExactMinMatrix.j2, Bool.false_eq_true, if_false]) | simp only [Bool.false_eq_true, if_false] | skip
  refine Ev.bind hh ?_
  simp only [if_neg (show ¬ (1 : Int) + (r2.length : Int) < 0 by omega), if_true]
  exact Ev.now _

end Go.Proofs.Ythojienhgeiknaa.Pure
