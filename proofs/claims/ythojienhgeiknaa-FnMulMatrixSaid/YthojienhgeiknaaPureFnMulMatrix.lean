/- The pure statement of FnMulMatrix: the printed functions answer true at every input that can be read. -/
import Derived.Test.YthojienhgeiknaaPFnMulMatrixx3
set_option linter.unusedVariables false
set_option linter.unusedSimpArgs false
namespace Go.Proofs.Ythojienhgeiknaa.Pure
open Go.RowKit Go.Proofs.Ythojienhgeiknaa.PFnMulMatrix Go.Proofs.YthojienhgeiknaaW.PrintWords Go.Proofs.YthojienhgeiknaaW.PrintLast Go.Proofs.YthojienhgeiknaaW.PrintMore

theorem w64 {x : Int} (h0 : -9223372036854775808 ≤ x) (h1 : x ≤ 9223372036854775807) : wrap64 x = x := by unfold wrap64; omega
theorem cast0 : ((0 : Nat) : Int) = 0 := rfl
theorem w64n {i : Nat} (h : i < 9223372036854775807) : wrap64 ((i : Int) + 1) = ((i + 1 : Nat) : Int) := by rw [w64 (by omega) (by omega)]; omega
theorem rd_nat {l : List Int} {i : Nat} (h : i < l.length) : rd l (i : Int) = l[i] := by simp [rd, List.getD_eq_getElem?_getD, h]
theorem mn_eq (a b : Int) : mn a b = min a b := by unfold mn; split <;> omega
theorem mx_eq (a b : Int) : mx a b = max a b := by unfold mx; split <;> omega
theorem down (n : Nat) {P : Nat → Prop} (h0 : P n) (hs : ∀ i, i < n → P (i + 1) → P i) : ∀ i, i ≤ n → P i := by
  have h : ∀ d i, i + d = n → P i := by
    intro d
    induction d with
    | zero => intro i hi; obtain rfl : i = n := by omega
              exact h0
    | succ d ih => intro i hi; exact hs i (by omega) (ih (i + 1) (by omega))
  exact fun i hi => h (n - i) i (by omega)
theorem ev_to {α : Type} {g : Nat → Option α} {r r' : α} (h : Ev g r) (e : r = r') : Ev g r' := e ▸ h
theorem dropc {α : Type} {l : List α} {i : Nat} (h : i < l.length) : l.drop i = l[i] :: l.drop (i + 1) := List.drop_eq_getElem_cons h
theorem dropn {α : Type} (l : List α) : l.drop l.length = [] := List.drop_eq_nil_of_le (Nat.le_refl _)
theorem wf64 {x : Int} (h : (Lit.int .i64 x).wf = true) : -9223372036854775808 ≤ x ∧ x ≤ 9223372036854775807 := by
  simp [Lit.wf, IntKind.min, IntKind.max, IntKind.signed, IntKind.bits] at h
  omega
theorem wf8 {x : Int} (h : (Lit.int .u8 x).wf = true) : 0 ≤ x ∧ x ≤ 255 := by
  simp [Lit.wf, IntKind.min, IntKind.max, IntKind.signed, IntKind.bits] at h
  omega
theorem nnc (q : Nat) : (0 : Int) ≤ (q : Int) := Int.natCast_nonneg q
theorem ltc {a b : Nat} (h : a < b) : (a : Int) < (b : Int) := Int.ofNat_lt.2 h
/-- A cost: between 0 and 1000000. -/
def cv (a : Int) : Bool := decide (0 ≤ a ∧ a ≤ 1000000)
theorem cv_iff {a : Int} : cv a = true ↔ 0 ≤ a ∧ a ≤ 1000000 := by simp [cv]
/-- The sum of two costs, at most 1000000. -/
def addc (s a : Int) : Int := min (s + a) 1000000
theorem addc_bd {s a : Int} (h0 : 0 ≤ s) (h1 : 0 ≤ a) : 0 ≤ addc s a ∧ addc s a ≤ 1000000 := by unfold addc; omega
/-- A matrix: 1 to 4 rows, as many costs in each. -/
def mv (n : Int) (l : List Int) : Bool := decide (1 ≤ n ∧ n ≤ 4 ∧ (l.length : Int) = n * n) && l.all cv
theorem mv_iff {n : Int} {l : List Int} : mv n l = true ↔ (1 ≤ n ∧ n ≤ 4 ∧ (l.length : Int) = n * n) ∧ l.all cv = true := by simp [mv]
theorem sq_le {n : Int} (h1 : 1 ≤ n) (h2 : n ≤ 4) : 1 ≤ n * n ∧ n * n ≤ 16 := by
  obtain h | h | h | h : n = 1 ∨ n = 2 ∨ n = 3 ∨ n = 4 := by omega
  all_goals subst h; omega
/-- The cost in row i, column j. -/
def ent (n : Nat) (l : List Int) (i j : Nat) : Int := l.getD (i * n + j) 0
theorem rd_ent (n : Nat) (l : List Int) (i j : Nat) : rd l ((i * n + j : Nat) : Int) = ent n l i j := by
  show l.getD ((i * n + j : Nat) : Int).toNat 0 = _
  rw [Int.toNat_natCast]
  rfl
theorem idx_lt {n i j : Nat} (hi : i < n) (hj : j < n) : i * n + j < n * n := by
  have := Nat.mul_le_mul_right n (show i + 1 ≤ n from hi)
  rw [Nat.add_mul] at this
  omega
theorem sq16 {n : Nat} (h : n ≤ 4) : n * n ≤ 16 := Nat.mul_le_mul h h
theorem idx_wrap {n i j : Nat} (hn : n ≤ 4) (hi : i < n) (hj : j < n) : wrap64 ((wrap64 ((i : Int) * (n : Int))) + (j : Int)) = ((i * n + j : Nat) : Int) := by
  have h1 := idx_lt hi hj
  have h2 := sq16 hn
  have e : ((i * n + j : Nat) : Int) = (i : Int) * (n : Int) + (j : Int) := by rw [Int.natCast_add, Int.natCast_mul]
  have e2 : ((i * n : Nat) : Int) = (i : Int) * (n : Int) := Int.natCast_mul _ _
  rw [w64 (x := (i : Int) * (n : Int)) (by omega) (by omega), w64 (by omega) (by omega), e]
theorem div_idx {n i k : Nat} (hk : k < n) : (i * n + k) / n = i ∧ (i * n + k) % n = k := by
  constructor
  · rw [Nat.mul_comm, Nat.mul_add_div (by omega), Nat.div_eq_of_lt hk]; omega
  · rw [Nat.mul_comm, Nat.mul_add_mod, Nat.mod_eq_of_lt hk]
/-- The cells of a matrix, of what a function tells for each place. -/
def cells (n : Nat) (f : Nat → Nat → Int) : List Int := (List.range (n * n)).map fun t => f (t / n) (t % n)
/-- The first so many of them. -/
def cellsTo (n : Nat) (f : Nat → Nat → Int) (m : Nat) : List Int := (List.range m).map fun t => f (t / n) (t % n)
theorem cellsTo_len (n : Nat) (f : Nat → Nat → Int) (m : Nat) : (cellsTo n f m).length = m := by simp [cellsTo]
theorem cells_len (n : Nat) (f : Nat → Nat → Int) : (cells n f).length = n * n := by simp [cells]
theorem cellsTo_next (n : Nat) (f : Nat → Nat → Int) (m : Nat) : cellsTo n f m ++ [f (m / n) (m % n)] = cellsTo n f (m + 1) := by simp [cellsTo, List.range_succ]
theorem ent_cells {n : Nat} (f : Nat → Nat → Int) {i j : Nat} (hi : i < n) (hj : j < n) : ent n (cells n f) i j = f i j := by
  have h := idx_lt hi hj
  have hd := div_idx (i := i) hj
  rw [ent, cells, List.getD_eq_getElem?_getD, List.getElem?_map, List.getElem?_range h]
  simp [hd.1, hd.2]
theorem cells_ent {n : Nat} {l : List Int} (h : l.length = n * n) : cells n (ent n l) = l := by
  apply List.ext_getElem
  · rw [cells_len, h]
  · intro i h1 h2
    have e : i / n * n + i % n = i := by rw [Nat.mul_comm]; exact Nat.div_add_mod i n
    simp [cells, ent, e, h2]
theorem cells_congr {n : Nat} {f g : Nat → Nat → Int} (h : ∀ i j, i < n → j < n → f i j = g i j) : cells n f = cells n g := by
  apply List.map_congr_left
  intro t ht
  have ht : t < n * n := by simpa using ht
  have hn : 0 < n := by
    cases n with
    | zero => simp at ht
    | succ n => omega
  exact h _ _ (Nat.div_lt_of_lt_mul ht) (Nat.mod_lt _ hn)
theorem cells_all {n : Nat} {f : Nat → Nat → Int} (h : ∀ i j, i < n → j < n → cv (f i j) = true) : (cells n f).all cv = true := by
  rw [List.all_eq_true]
  intro x hx
  obtain ⟨t, ht, rfl⟩ := List.mem_map.1 hx
  have ht : t < n * n := by simpa using ht
  have hn : 0 < n := by
    cases n with
    | zero => simp at ht
    | succ n => omega
  exact h _ _ (Nat.div_lt_of_lt_mul ht) (Nat.mod_lt _ hn)
theorem mv_cells {n : Nat} (h0 : 1 ≤ n) (h1 : n ≤ 4) {f : Nat → Nat → Int} (h : ∀ i j, i < n → j < n → cv (f i j) = true) : mv (n : Int) (cells n f) = true := by
  rw [mv_iff]
  refine ⟨⟨by omega, by omega, ?_⟩, cells_all h⟩
  rw [cells_len, Int.natCast_mul]
theorem mv_nat {n : Int} {l : List Int} (h : mv n l = true) : ∃ m : Nat, n = (m : Int) ∧ 1 ≤ m ∧ m ≤ 4 ∧ l.length = m * m ∧ ∀ x ∈ l, cv x = true := by
  rw [mv_iff] at h
  obtain ⟨m, rfl⟩ := Int.eq_ofNat_of_zero_le (show 0 ≤ n by omega)
  have e := Int.natCast_mul m m
  exact ⟨m, rfl, by omega, by omega, by omega, by simpa using h.2⟩
theorem cv_ent {n : Nat} {l : List Int} (hl : l.length = n * n) (h : ∀ x ∈ l, cv x = true) {i j : Nat} (hi : i < n) (hj : j < n) : cv (ent n l i j) = true := by
  have hb := idx_lt hi hj
  have : ent n l i j = l[i * n + j]'(by omega) := by
    rw [ent, List.getD_eq_getElem?_getD, List.getElem?_eq_getElem (by omega)]
    rfl
  rw [this]
  exact h _ (List.getElem_mem _)
/-- The least of so many costs. -/
def dotTo (f : Nat → Int) (m : Nat) : Int := (List.range m).foldl (fun acc x => min acc (f x)) 1000000
theorem dotTo_next (f : Nat → Int) (m : Nat) : dotTo f (m + 1) = min (dotTo f m) (f m) := by simp [dotTo, List.range_succ]
theorem dotTo_zero (f : Nat → Int) : dotTo f 0 = 1000000 := rfl
theorem dotTo_bd {f : Nat → Int} : ∀ {m : Nat}, (∀ l, l < m → 0 ≤ f l) → 0 ≤ dotTo f m ∧ dotTo f m ≤ 1000000 := by
  intro m
  induction m with
  | zero => intro _; rw [dotTo_zero]; omega
  | succ m ih =>
    intro h
    have h1 := ih (fun l hl => h l (by omega))
    have h2 := h m (by omega)
    rw [dotTo_next]
    omega
def unitm (n : Nat) : List Int := cells n fun i j => if i = j then 0 else 1000000
def turnm (n : Nat) (a : List Int) : List Int := cells n fun i j => ent n a j i
def minm (n : Nat) (a b : List Int) : List Int := cells n fun i j => min (ent n a i j) (ent n b i j)
def mulm (n : Nat) (a b : List Int) : List Int := cells n fun i j => dotTo (fun l => addc (ent n a i l) (ent n b l j)) n
def two (n : Int) (a : List Int) (m : Int) (b : List Int) : Bool := mv n a && (mv m b && decide (n = m))
def unitR (n : Int) : Int × List Int × Bool := if 1 ≤ n ∧ n ≤ 4 then (n, unitm n.toNat, true) else (0, [], false)
def turnR (n : Int) (a : List Int) : Int × List Int × Bool := if mv n a then (n, turnm n.toNat a, true) else (0, [], false)
def minR (n : Int) (a : List Int) (m : Int) (b : List Int) : Int × List Int × Bool := if two n a m b then (n, minm n.toNat a b, true) else (0, [], false)
def mulR (n : Int) (a : List Int) (m : Int) (b : List Int) : Int × List Int × Bool := if two n a m b then (n, mulm n.toNat a b, true) else (0, [], false)
theorem two_iff {n m : Int} {a b : List Int} : two n a m b = true ↔ mv n a = true ∧ mv m b = true ∧ n = m := by simp [two]
theorem cv_bd {a : Int} (h : cv a = true) : 0 ≤ a ∧ a ≤ 1000000 := cv_iff.1 h
theorem cv_dot {n : Nat} {f : Nat → Int} (h : ∀ l, l < n → 0 ≤ f l) : cv (dotTo f n) = true := cv_iff.2 (dotTo_bd h)
theorem mv_mulm {n : Nat} (h1 : 1 ≤ n) (h4 : n ≤ 4) {a b : List Int} (hla : a.length = n * n) (hlb : b.length = n * n) (hca : ∀ x ∈ a, cv x = true) (hcb : ∀ x ∈ b, cv x = true) : mv (n : Int) (mulm n a b) = true :=
  mv_cells h1 h4 fun i j hi hj => cv_dot fun l hl => (addc_bd (cv_iff.1 (cv_ent hla hca hi hl)).1 (cv_iff.1 (cv_ent hlb hcb hl hj)).1).1
theorem mv_minm {n : Nat} (h1 : 1 ≤ n) (h4 : n ≤ 4) {a b : List Int} (hla : a.length = n * n) (hlb : b.length = n * n) (hca : ∀ x ∈ a, cv x = true) (hcb : ∀ x ∈ b, cv x = true) : mv (n : Int) (minm n a b) = true :=
  mv_cells h1 h4 fun i j hi hj => by
    have c1 := cv_iff.1 (cv_ent hla hca hi hj)
    have c2 := cv_iff.1 (cv_ent hlb hcb hi hj)
    rw [cv_iff]
    omega
theorem mv_turnm {n : Nat} (h1 : 1 ≤ n) (h4 : n ≤ 4) {a : List Int} (hla : a.length = n * n) (hca : ∀ x ∈ a, cv x = true) : mv (n : Int) (turnm n a) = true :=
  mv_cells h1 h4 fun i j hi hj => cv_ent hla hca hj hi
theorem mv_unitm {n : Nat} (h1 : 1 ≤ n) (h4 : n ≤ 4) : mv (n : Int) (unitm n) = true :=
  mv_cells h1 h4 fun i j hi hj => by
    by_cases e : i = j <;> simp [e, cv]
/-- A matrix of so many rows that is valid. -/
structure Ok (n : Nat) (l : List Int) : Prop where
  h1 : 1 ≤ n
  h4 : n ≤ 4
  len : l.length = n * n
  all : ∀ x ∈ l, cv x = true
theorem ok_of {n : Nat} {l : List Int} (h : mv (n : Int) l = true) : Ok n l := by
  obtain ⟨m, hm, h1, h4, hl, hc⟩ := mv_nat h
  obtain rfl : n = m := by omega
  exact ⟨h1, h4, hl, hc⟩
theorem Ok.mv {n : Nat} {l : List Int} (h : Ok n l) : mv (n : Int) l = true := by
  rw [mv_iff]
  refine ⟨⟨by have := h.h1; omega, by have := h.h4; omega, ?_⟩, by simpa using h.all⟩
  rw [h.len, Int.natCast_mul]
theorem Ok.two {n : Nat} {a b : List Int} (ha : Ok n a) (hb : Ok n b) : two (n : Int) a (n : Int) b = true := two_iff.2 ⟨ha.mv, hb.mv, rfl⟩
theorem Ok.mul {n : Nat} {a b : List Int} (ha : Ok n a) (hb : Ok n b) : Ok n (mulm n a b) := ok_of (mv_mulm ha.h1 ha.h4 ha.len hb.len ha.all hb.all)
theorem Ok.min {n : Nat} {a b : List Int} (ha : Ok n a) (hb : Ok n b) : Ok n (minm n a b) := ok_of (mv_minm ha.h1 ha.h4 ha.len hb.len ha.all hb.all)
theorem Ok.turn {n : Nat} {a : List Int} (ha : Ok n a) : Ok n (turnm n a) := ok_of (mv_turnm ha.h1 ha.h4 ha.len ha.all)
theorem Ok.unit {n : Nat} (h1 : 1 ≤ n) (h4 : n ≤ 4) : Ok n (unitm n) := ok_of (mv_unitm h1 h4)
theorem Ok.short {n : Nat} {a : List Int} (ha : Ok n a) : a.length ≤ 16 := by rw [ha.len]; exact sq16 ha.h4
theorem mulR_ok {n : Nat} {a b : List Int} (ha : Ok n a) (hb : Ok n b) : mulR (n : Int) a (n : Int) b = ((n : Int), mulm n a b, true) := by rw [mulR, if_pos (ha.two hb), Int.toNat_natCast]
theorem minR_ok {n : Nat} {a b : List Int} (ha : Ok n a) (hb : Ok n b) : minR (n : Int) a (n : Int) b = ((n : Int), minm n a b, true) := by rw [minR, if_pos (ha.two hb), Int.toNat_natCast]
theorem turnR_ok {n : Nat} {a : List Int} (ha : Ok n a) : turnR (n : Int) a = ((n : Int), turnm n a, true) := by rw [turnR, if_pos ha.mv, Int.toNat_natCast]
theorem unitR_ok {n : Nat} (h1 : 1 ≤ n) (h4 : n ≤ 4) : unitR (n : Int) = ((n : Int), unitm n, true) := by rw [unitR, if_pos (by omega), Int.toNat_natCast]
theorem mv_ok {n : Int} {l : List Int} (h : _root_.Go.Proofs.Ythojienhgeiknaa.Pure.mv n l = true) : ∃ m : Nat, n = (m : Int) ∧ Ok m l := by
  obtain ⟨m, hm, h1, h4, hl, hc⟩ := mv_nat h
  exact ⟨m, hm, h1, h4, hl, hc⟩
theorem le_dot {f : Nat → Int} {x : Int} : ∀ {m : Nat}, x ≤ dotTo f m ↔ x ≤ 1000000 ∧ ∀ l, l < m → x ≤ f l := by
  intro m
  induction m with
  | zero => simp [dotTo_zero]
  | succ m ih =>
    rw [dotTo_next]
    constructor
    · intro h
      have h1 := ih.1 (by omega)
      refine ⟨h1.1, fun l hl => ?_⟩
      by_cases e : l = m
      · subst e; omega
      · exact h1.2 l (by omega)
    · intro h
      have h1 := ih.2 ⟨h.1, fun l hl => h.2 l (by omega)⟩
      have h2 := h.2 m (by omega)
      omega
theorem eq_le {a b : Int} (h : ∀ x, x ≤ a ↔ x ≤ b) : a = b := by
  have h1 := (h a).1 (by omega)
  have h2 := (h b).2 (by omega)
  omega
theorem addc_comm (a b : Int) : addc a b = addc b a := by unfold addc; omega
theorem addc_assoc {a c : Int} (b : Int) (ha : 0 ≤ a) (hc : 0 ≤ c) : addc (addc a b) c = addc a (addc b c) := by unfold addc; omega
theorem addc_dot {f : Nat → Int} {c : Int} (hc : 0 ≤ c) : ∀ {m : Nat}, addc (dotTo f m) c = dotTo (fun l => addc (f l) c) m := by
  intro m
  induction m with
  | zero => rw [dotTo_zero, dotTo_zero]; unfold addc; omega
  | succ m ih => rw [dotTo_next, dotTo_next, ← ih]; unfold addc; omega
theorem dot_addc {f : Nat → Int} {c : Int} (hc : 0 ≤ c) {m : Nat} : addc c (dotTo f m) = dotTo (fun l => addc c (f l)) m := by
  rw [addc_comm, addc_dot hc]
  congr 1
  funext l
  exact addc_comm _ _
theorem dot_swap {f : Nat → Nat → Int} {m k : Nat} : dotTo (fun l => dotTo (fun j => f l j) k) m = dotTo (fun j => dotTo (fun l => f l j) m) k := by
  apply eq_le
  intro x
  simp only [le_dot]
  constructor
  · rintro ⟨h0, h⟩
    exact ⟨h0, fun j hj => ⟨h0, fun l hl => (h l hl).2 j hj⟩⟩
  · rintro ⟨h0, h⟩
    exact ⟨h0, fun j hj => ⟨h0, fun l hl => (h l hl).2 j hj⟩⟩
theorem dot_congr {f g : Nat → Int} {m : Nat} (h : ∀ l, l < m → f l = g l) : dotTo f m = dotTo g m := by
  apply eq_le
  intro x
  simp only [le_dot]
  constructor
  · rintro ⟨h0, h1⟩; exact ⟨h0, fun l hl => by rw [← h l hl]; exact h1 l hl⟩
  · rintro ⟨h0, h1⟩; exact ⟨h0, fun l hl => by rw [h l hl]; exact h1 l hl⟩
theorem ent_mul {n : Nat} (a b : List Int) {i j : Nat} (hi : i < n) (hj : j < n) : ent n (mulm n a b) i j = dotTo (fun l => addc (ent n a i l) (ent n b l j)) n := ent_cells _ hi hj
theorem ent_min {n : Nat} (a b : List Int) {i j : Nat} (hi : i < n) (hj : j < n) : ent n (minm n a b) i j = min (ent n a i j) (ent n b i j) := ent_cells _ hi hj
theorem ent_turn {n : Nat} (a : List Int) {i j : Nat} (hi : i < n) (hj : j < n) : ent n (turnm n a) i j = ent n a j i := ent_cells _ hi hj
theorem ent_unit {n : Nat} {i j : Nat} (hi : i < n) (hj : j < n) : ent n (unitm n) i j = if i = j then 0 else 1000000 := ent_cells _ hi hj
theorem Ok.ext {n : Nat} {a b : List Int} (ha : Ok n a) (hb : Ok n b) (h : ∀ i j, i < n → j < n → ent n a i j = ent n b i j) : a = b := by
  rw [← cells_ent ha.len, ← cells_ent hb.len]
  exact cells_congr h
theorem Ok.bd {n : Nat} {a : List Int} (ha : Ok n a) {i j : Nat} (hi : i < n) (hj : j < n) : 0 ≤ ent n a i j ∧ ent n a i j ≤ 1000000 := cv_iff.1 (cv_ent ha.len ha.all hi hj)
theorem mul_assoc {n : Nat} {a b c : List Int} (ha : Ok n a) (hb : Ok n b) (hc : Ok n c) : mulm n (mulm n a b) c = mulm n a (mulm n b c) := by
  refine ((ha.mul hb).mul hc).ext (ha.mul (hb.mul hc)) fun i j hi hj => ?_
  rw [ent_mul _ _ hi hj, ent_mul _ _ hi hj]
  have h1 : dotTo (fun l => addc (ent n (mulm n a b) i l) (ent n c l j)) n = dotTo (fun l => dotTo (fun k => addc (ent n a i k) (addc (ent n b k l) (ent n c l j))) n) n := by
    refine dot_congr fun l hl => ?_
    rw [ent_mul _ _ hi hl, addc_dot (hc.bd hl hj).1]
    refine dot_congr fun k hk => ?_
    exact addc_assoc _ (ha.bd hi hk).1 (hc.bd hl hj).1
  have h2 : dotTo (fun k => addc (ent n a i k) (ent n (mulm n b c) k j)) n = dotTo (fun k => dotTo (fun l => addc (ent n a i k) (addc (ent n b k l) (ent n c l j))) n) n := by
    refine dot_congr fun k hk => ?_
    rw [ent_mul _ _ hk hj, dot_addc (ha.bd hi hk).1]
  rw [h1, h2, dot_swap]
theorem mul_unit {n : Nat} {a : List Int} (ha : Ok n a) : mulm n a (unitm n) = a := by
  refine (ha.mul (Ok.unit ha.h1 ha.h4)).ext ha fun i j hi hj => ?_
  rw [ent_mul _ _ hi hj]
  apply eq_le
  intro x
  rw [le_dot]
  have hb := ha.bd hi hj
  constructor
  · rintro ⟨-, h⟩
    have := h j hj
    rw [ent_unit hj hj, if_pos rfl] at this
    unfold addc at this
    omega
  · intro h
    refine ⟨by omega, fun l hl => ?_⟩
    rw [ent_unit hl hj]
    have hc := ha.bd hi hl
    by_cases e : l = j
    · subst e; rw [if_pos rfl]; unfold addc; omega
    · rw [if_neg e]; unfold addc; omega
theorem unit_mul {n : Nat} {a : List Int} (ha : Ok n a) : mulm n (unitm n) a = a := by
  refine ((Ok.unit ha.h1 ha.h4).mul ha).ext ha fun i j hi hj => ?_
  rw [ent_mul _ _ hi hj]
  apply eq_le
  intro x
  rw [le_dot]
  have hb := ha.bd hi hj
  constructor
  · rintro ⟨-, h⟩
    have := h i hi
    rw [ent_unit hi hi, if_pos rfl] at this
    unfold addc at this
    omega
  · intro h
    refine ⟨by omega, fun l hl => ?_⟩
    rw [ent_unit hi hl]
    have hc := ha.bd hl hj
    by_cases e : i = l
    · subst e; rw [if_pos rfl]; unfold addc; omega
    · rw [if_neg e]; unfold addc; omega
theorem turn_mul {n : Nat} {a b : List Int} (ha : Ok n a) (hb : Ok n b) : mulm n (turnm n b) (turnm n a) = turnm n (mulm n a b) := by
  refine (hb.turn.mul ha.turn).ext (ha.mul hb).turn fun i j hi hj => ?_
  rw [ent_mul _ _ hi hj, ent_turn _ hi hj, ent_mul _ _ hj hi]
  refine dot_congr fun l hl => ?_
  rw [ent_turn _ hi hl, ent_turn _ hl hj, addc_comm]
theorem turn_turn {n : Nat} {a : List Int} (ha : Ok n a) : turnm n (turnm n a) = a := by
  refine ha.turn.turn.ext ha fun i j hi hj => ?_
  rw [ent_turn _ hi hj, ent_turn _ hj hi]
theorem addc_min (a b c : Int) : addc (min a b) c = min (addc a c) (addc b c) := by unfold addc; omega
theorem dot_min {f g : Nat → Int} {m : Nat} : dotTo (fun l => min (f l) (g l)) m = min (dotTo f m) (dotTo g m) := by
  apply eq_le
  intro x
  rw [le_dot]
  have h1 := @le_dot f x m
  have h2 := @le_dot g x m
  constructor
  · rintro ⟨h0, h⟩
    have a1 := h1.2 ⟨h0, fun l hl => by have := h l hl; omega⟩
    have a2 := h2.2 ⟨h0, fun l hl => by have := h l hl; omega⟩
    omega
  · intro h
    have a1 := h1.1 (by omega)
    have a2 := h2.1 (by omega)
    exact ⟨a1.1, fun l hl => by have := a1.2 l hl; have := a2.2 l hl; omega⟩
theorem min_mul {n : Nat} {a b c : List Int} (ha : Ok n a) (hb : Ok n b) (hc : Ok n c) : mulm n (minm n a b) c = minm n (mulm n a c) (mulm n b c) := by
  refine ((ha.min hb).mul hc).ext ((ha.mul hc).min (hb.mul hc)) fun i j hi hj => ?_
  rw [ent_mul _ _ hi hj, ent_min _ _ hi hj, ent_mul _ _ hi hj, ent_mul _ _ hi hj, ← dot_min]
  refine dot_congr fun l hl => ?_
  rw [ent_min _ _ hi hl, addc_min]
theorem mul_min {n : Nat} {a b c : List Int} (ha : Ok n a) (hb : Ok n b) (hc : Ok n c) : mulm n c (minm n a b) = minm n (mulm n c a) (mulm n c b) := by
  refine (hc.mul (ha.min hb)).ext ((hc.mul ha).min (hc.mul hb)) fun i j hi hj => ?_
  rw [ent_mul _ _ hi hj, ent_min _ _ hi hj, ent_mul _ _ hi hj, ent_mul _ _ hi hj, ← dot_min]
  refine dot_congr fun l hl => ?_
  rw [ent_min _ _ hl hj, addc_comm, addc_min, addc_comm, addc_comm _ (ent n c i l)]
theorem min_comm' {n : Nat} {a b : List Int} (ha : Ok n a) (hb : Ok n b) : minm n b a = minm n a b := by
  refine (hb.min ha).ext (ha.min hb) fun i j hi hj => ?_
  rw [ent_min _ _ hi hj, ent_min _ _ hi hj]
  omega
theorem min_assoc' {n : Nat} {a b c : List Int} (ha : Ok n a) (hb : Ok n b) (hc : Ok n c) : minm n (minm n a b) c = minm n a (minm n b c) := by
  refine ((ha.min hb).min hc).ext (ha.min (hb.min hc)) fun i j hi hj => ?_
  rw [ent_min _ _ hi hj, ent_min _ _ hi hj, ent_min _ _ hi hj, ent_min _ _ hi hj]
  omega
theorem min_self' {n : Nat} {a : List Int} (ha : Ok n a) : minm n a a = a := by
  refine (ha.min ha).ext ha fun i j hi hj => ?_
  rw [ent_min _ _ hi hj]
  omega
/-- A reader's bytes: at most 2000 numbers between 0 and 255. -/
def Rdr (s : List Int) : Prop := s.length ≤ 2000 ∧ ∀ x ∈ s, 0 ≤ x ∧ x ≤ 255
theorem i64_wrap_nat (n : Nat) (h : n < 9223372036854775808) : IntKind.i64.wrap (n : Int) = (n : Int) := by
  simp [IntKind.wrap, IntKind.bits, IntKind.signed]; omega
theorem xor_i64_nat (a b : Nat) (ha : a < 9223372036854775808) (hb : b < 9223372036854775808) : bits .xor .i64 (a : Int) (b : Int) = ((a ^^^ b : Nat) : Int) := by
  have hx : a ^^^ b < 2 ^ 63 := Nat.xor_lt_two_pow (by omega) (by omega)
  have h1 : (BitVec.ofInt 64 (a : Int)).toNat = a := by
    rw [BitVec.ofInt_natCast, BitVec.toNat_ofNat]; exact Nat.mod_eq_of_lt (by omega)
  have h2 : (BitVec.ofInt 64 (b : Int)).toNat = b := by
    rw [BitVec.ofInt_natCast, BitVec.toNat_ofNat]; exact Nat.mod_eq_of_lt (by omega)
  show IntKind.i64.wrap ((BitVec.ofInt 64 (a : Int) ^^^ BitVec.ofInt 64 (b : Int)).toNat : Int) = _
  rw [BitVec.toNat_xor, h1, h2, i64_wrap_nat _ (by omega)]
theorem xor_nn {x y : Int} (h0 : 0 ≤ x) (h1 : x < 9223372036854775808) (h2 : 0 ≤ y) (h3 : y < 9223372036854775808) : 0 ≤ bits .xor .i64 x y := by
  obtain ⟨a, rfl⟩ := Int.eq_ofNat_of_zero_le h0
  obtain ⟨b, rfl⟩ := Int.eq_ofNat_of_zero_le h2
  rw [xor_i64_nat a b (by omega) (by omega)]
  omega
theorem tm_nn {x n : Int} (h : 0 ≤ x) : 0 ≤ Int.tmod x n := Int.tmod_nonneg _ h
theorem tm_lt {x n : Int} (h : 0 < n) : Int.tmod x n < n := Int.tmod_lt_of_pos _ h
theorem rd_bd {s : List Int} (hs : Rdr s) (i : Int) : 0 ≤ rd s i ∧ rd s i ≤ 255 := by
  unfold rd
  rw [List.getD_eq_getElem?_getD]
  by_cases h : i.toNat < s.length
  · rw [List.getElem?_eq_getElem h]
    exact hs.2 _ (List.getElem_mem h)
  · rw [List.getElem?_eq_none (by omega)]
    simp
theorem mix_bd {a b p q : Int} (ha : 0 ≤ a ∧ a ≤ 255) (hb : 0 ≤ b ∧ b ≤ 255) (hp : 0 ≤ p ∧ p ≤ 1000000) (hq : 0 ≤ q ∧ q ≤ 1000000) :
    0 ≤ wrap64 ((wrap64 ((wrap64 ((wrap64 ((wrap64 a) * 131)) + (wrap64 ((wrap64 b) * 1117)))) + (wrap64 (p * 29)))) + (wrap64 ((wrap64 q) * 53))) ∧ wrap64 ((wrap64 ((wrap64 ((wrap64 ((wrap64 a) * 131)) + (wrap64 ((wrap64 b) * 1117)))) + (wrap64 (p * 29)))) + (wrap64 ((wrap64 q) * 53))) ≤ 1000000000 := by
  rw [w64 (x := a) (by omega) (by omega), w64 (x := b) (by omega) (by omega), w64 (x := q) (by omega) (by omega), w64 (x := a * 131) (by omega) (by omega), w64 (x := b * 1117) (by omega) (by omega), w64 (x := p * 29) (by omega) (by omega), w64 (x := q * 53) (by omega) (by omega), w64 (x := a * 131 + b * 1117) (by omega) (by omega), w64 (x := a * 131 + b * 1117 + p * 29) (by omega) (by omega), w64 (by omega) (by omega)]
  omega
theorem mixed_bd {x n : Int} (h0 : 0 ≤ x) (h1 : x ≤ 1000000000) (hn : 0 < n) : 0 ≤ Int.tmod (bits .xor .i64 x (wrap64 (Int.tdiv x 64))) n ∧ Int.tmod (bits .xor .i64 x (wrap64 (Int.tdiv x 64))) n < n := by
  refine ⟨tm_nn (xor_nn h0 (by omega) ?_ ?_), tm_lt hn⟩
  all_goals rw [Int.tdiv_eq_ediv_of_nonneg h0, w64 (by omega) (by omega)]; omega
theorem spec_l13Rd_pick_ev {s : List Int} (hs : Rdr s) {p : Int} (hp : 0 ≤ p ∧ p ≤ 1000000) (n : Int) : ∃ v, Ev (fun k => spec_l13Rd_pick.f k s p n) (v, p + 1) ∧ 0 ≤ v ∧ (1 ≤ n → v < n) := by
  have e1 : wrap64 (p + 1) = p + 1 := w64 (by omega) (by omega)
  have e2 : wrap64 (p + 1 - 1) = p := by rw [w64 (by omega) (by omega)]; omega
  by_cases hn : n < 1
  · refine ⟨0, ?_, by omega, by omega⟩
    simp only [spec_l13Rd_pick.f, if_pos hn, e1]
    refine Ev.step (fun k => rfl) ?_
    simp only [spec_l13Rd_pick.j0, if_true]
    exact Ev.now _
  · by_cases hl : s.length = 0
    · refine ⟨0, ?_, by omega, by omega⟩
      simp only [spec_l13Rd_pick.f, if_neg hn, e1]
      refine Ev.step (fun k => rfl) ?_
      simp only [spec_l13Rd_pick.j0, hl]
      exact Ev.now _
    · have hlb : ((s.length : Int) == 0) = false := by rw [beq_eq_false_iff_ne]; omega
      have key : ∃ v, (∀ k, spec_l13Rd_pick.j0 (k + 1) n false s (p + 1) = some (v, p + 1)) ∧ 0 ≤ v ∧ v < n := by
        simp only [spec_l13Rd_pick.j0, Bool.false_eq_true, if_false, e2, if_neg (show ¬ n = 0 by omega), if_pos hp.1, if_neg (show ¬ (s.length : Int) = 0 by omega)]
        by_cases hlt : p < (s.length : Int)
        · have hb := rd_bd hs p
          simp only [if_pos hlt]
          exact ⟨_, fun k => rfl, tm_nn (by rw [w64 (by omega) (by omega)]; omega), tm_lt (by omega)⟩
        · have t1 : 0 ≤ Int.tmod p (s.length : Int) := tm_nn hp.1
          have t2 : Int.tmod p (s.length : Int) < (s.length : Int) := tm_lt (by omega)
          have e3 : wrap64 (wrap64 (p * 7) + 3) = p * 7 + 3 := by rw [w64 (x := p * 7) (by omega) (by omega), w64 (by omega) (by omega)]
          have t3 : 0 ≤ Int.tmod (p * 7 + 3) (s.length : Int) := tm_nn (by omega)
          have t4 : Int.tmod (p * 7 + 3) (s.length : Int) < (s.length : Int) := tm_lt (by omega)
          simp only [if_neg hlt, e3, if_pos t1, if_pos t2, if_pos t3, if_pos t4]
          have hq : 0 ≤ Int.tdiv p (s.length : Int) ∧ Int.tdiv p (s.length : Int) ≤ 1000000 := by
            rw [Int.tdiv_eq_ediv_of_nonneg hp.1]
            have a1 := Int.ediv_nonneg hp.1 (show (0 : Int) ≤ (s.length : Int) by omega)
            have a2 := Int.ediv_le_self (s.length : Int) hp.1
            omega
          have hm := mix_bd (rd_bd hs (Int.tmod p (s.length : Int))) (rd_bd hs (Int.tmod (p * 7 + 3) (s.length : Int))) hp hq
          have hf := mixed_bd hm.1 hm.2 (show 0 < n by omega)
          exact ⟨_, fun k => rfl, hf.1, hf.2⟩
      obtain ⟨v, hv, h0, h1⟩ := key
      refine ⟨v, ?_, h0, fun _ => h1⟩
      simp only [spec_l13Rd_pick.f, if_neg hn, e1, hlb]
      exact Ev.step hv (Ev.now _)
theorem rd_mem {l : List Int} {i : Int} (h0 : 0 ≤ i) (h1 : i < (l.length : Int)) : rd l i ∈ l := by
  obtain ⟨n, rfl⟩ := Int.eq_ofNat_of_zero_le h0
  rw [rd_nat (by omega)]
  exact List.getElem_mem _
theorem spec_l13Open_ev (l : List Int) (hl : ∀ x ∈ l, (Lit.int .u8 x).wf = true) : ∃ s, spec_l13Open.f l = some (s, 0) ∧ Rdr s := by
  have hb : ∀ x ∈ l, 0 ≤ x ∧ x ≤ 255 := fun x hx => wf8 (hl x hx)
  by_cases h : (l.length : Int) > 2000
  · exact ⟨l.take 2000, by simp only [spec_l13Open.f, if_pos h, if_pos (show (2000 : Int) ≤ (l.length : Int) by omega)], by simp; omega, fun x hx => hb x (List.mem_of_mem_take hx)⟩
  · exact ⟨l, by simp only [spec_l13Open.f, if_neg h], by omega, hb⟩
theorem spec_l13Rd_num_ev {s : List Int} (hs : Rdr s) {p : Int} (hp : 0 ≤ p ∧ p ≤ 1000000) (l : List Int) (hl : 0 < l.length) : ∃ v, Ev (fun k => spec_l13Rd_num.f k s p l) (v, p + 1) ∧ v ∈ l := by
  obtain ⟨v, hv, h0, h1⟩ := spec_l13Rd_pick_ev hs hp (l.length : Int)
  have h1 := h1 (by omega)
  refine ⟨rd l v, ?_, rd_mem h0 h1⟩
  simp only [spec_l13Rd_num.f]
  refine Ev.bind hv ?_
  simp only [if_pos h0, if_pos h1]
  exact Ev.now _
theorem tdiv_nat (t n : Nat) (h : t < 1000) : wrap64 (Int.tdiv (t : Int) (n : Int)) = ((t / n : Nat) : Int) := by
  have e : Int.tdiv (t : Int) (n : Int) = ((t / n : Nat) : Int) := rfl
  have h2 := Nat.div_le_self t n
  rw [e]
  generalize t / n = q at h2 ⊢
  exact w64 (by omega) (by omega)
theorem tmod_nat (t n : Nat) : Int.tmod (t : Int) (n : Int) = ((t % n : Nat) : Int) := rfl
theorem sq_wrap {n : Nat} (h : n ≤ 4) : wrap64 ((n : Int) * (n : Int)) = ((n * n : Nat) : Int) := by
  have := sq16 h
  have e : ((n * n : Nat) : Int) = (n : Int) * (n : Int) := Int.natCast_mul _ _
  rw [w64 (by omega) (by omega), e]
theorem div_lt {n t : Nat} (h : t < n * n) : 0 < n ∧ t / n < n ∧ t % n < n := by
  have hn : 0 < n := by
    cases n with
    | zero => simp at h
    | succ n => omega
  exact ⟨hn, Nat.div_lt_of_lt_mul h, Nat.mod_lt _ hn⟩
theorem divmod (t n : Nat) : t / n * n + t % n = t := by rw [Nat.mul_comm]; exact Nat.div_add_mod t n
theorem spec_l2Draw_ev {s : List Int} (hs : Rdr s) {n : Nat} (h4 : n ≤ 4) {p : Int} (hp : 0 ≤ p ∧ p ≤ 900000) : ∃ l q, Ev (fun k => spec_l2Draw.f k s p (n : Int)) ((n : Int), l, q) ∧ l.length = n * n ∧ p ≤ q ∧ q ≤ p + 16 := by
  have h16 := sq16 h4
  have h := down (n * n) (P := fun t => ∀ (l : List Int) (q : Int), l.length = t → q = p + t → ∃ r q', Ev (fun k => spec_l2Draw.l0 k ((n * n : Nat) : Int) (t : Int) s q (n : Int) l) ((n : Int), r, q') ∧ r.length = n * n ∧ p ≤ q' ∧ q' ≤ p + 16) ?_ ?_ 0 (by omega) [] p rfl (by omega)
  · simpa only [spec_l2Draw.f, sq_wrap h4, cast0] using h
  · intro l q hl hq
    refine ⟨l, q, Ev.step (fun k => rfl) ?_, hl, by omega, by omega⟩
    simp only [spec_l2Draw.l0, if_neg (show ¬ ((n * n : Nat) : Int) < ((n * n : Nat) : Int) by omega)]
    exact Ev.now _
  · intro t ht ih l q hl hq
    obtain ⟨v, hv, -⟩ := spec_l13Rd_num_ev hs (p := q) (by omega) [1000000, 0, 1, 1000000, 2, 1, 0, 5, 700000] (by simp)
    obtain ⟨r, q', hr, h1, h2, h3⟩ := ih (l ++ [v]) (q + 1) (by simp; omega) (by omega)
    refine ⟨r, q', Ev.step (fun k => rfl) ?_, h1, h2, h3⟩
    simp only [spec_l2Draw.l0, if_pos (show (t : Int) < ((n * n : Nat) : Int) by omega)]
    refine Ev.bind hv ?_
    simp only [if_pos (show l.length < 17592186044416 by omega), w64n (show t < 9223372036854775807 by omega)]
    exact hr
theorem spec_l2Bad_ev {s : List Int} (hs : Rdr s) (n : Int) {l : List Int} (h1 : 1 ≤ l.length) (h16 : l.length ≤ 16) {p : Int} (hp : 0 ≤ p ∧ p ≤ 900000) : ∃ n' l' q, Ev (fun k => spec_l2Bad.f k s p n l) (n', l', q) ∧ l'.length ≤ 17 ∧ p ≤ q ∧ q ≤ p + 2 := by
  obtain ⟨c, hc, c0, c1⟩ := spec_l13Rd_pick_ev hs (p := p) (by omega) 24
  by_cases e0 : c = 0
  · obtain ⟨v, hv, -⟩ := spec_l13Rd_num_ev hs (p := p + 1) (by omega) [0, 5, (-1), 1, 9223372036854775807] (by simp)
    refine ⟨v, l, p + 1 + 1, ?_, by omega, by omega, by omega⟩
    simp only [spec_l2Bad.f]
    refine Ev.bind hc ?_
    simp only [if_pos e0]
    exact Ev.bind hv (Ev.now _)
  · by_cases e1 : c = 1
    · refine ⟨n, l ++ [0], p + 1, ?_, by simp; omega, by omega, by omega⟩
      simp only [spec_l2Bad.f]
      refine Ev.bind hc ?_
      simp only [if_neg e0, if_pos e1, Option.bind_some, List.nil_append, List.length_nil, Nat.zero_add, if_pos (show l.length < 17592186044416 by omega)]
      exact Ev.now _
    · by_cases e2 : c = 2
      · obtain ⟨v, hv, -⟩ := spec_l13Rd_num_ev hs (p := p + 1) (by omega) [(-1), 1000001] (by simp)
        refine ⟨n, [v] ++ l.drop 1, p + 1 + 1, ?_, by simp; omega, by omega, by omega⟩
        simp only [spec_l2Bad.f]
        refine Ev.bind hc ?_
        simp only [if_neg e0, if_neg e1, if_pos e2]
        refine Ev.bind hv ?_
        simp only [Option.bind_some, if_pos (show (1 : Int) ≤ (l.length : Int) by omega), List.length_drop, List.length_cons, List.length_nil, if_pos (show 0 + 1 + (l.length - 1) < 17592186044416 by omega)]
        exact Ev.now _
      · refine ⟨n, l, p + 1, ?_, by omega, by omega, by omega⟩
        simp only [spec_l2Bad.f]
        refine Ev.bind hc ?_
        simp only [if_neg e0, if_neg e1, if_neg e2]
        exact Ev.now _
theorem spec_l2Pair_ev {s : List Int} (hs : Rdr s) {p : Int} (hp : 0 ≤ p ∧ p ≤ 800000) : ∃ n a m b q, Ev (fun k => spec_l2Pair.f k s p) (n, a, m, b, q) ∧ a.length ≤ 17 ∧ b.length ≤ 17 := by
  obtain ⟨c, hc, c0, c1⟩ := spec_l13Rd_pick_ev hs (p := p) (by omega) 4
  have c1 := c1 (by omega)
  obtain ⟨m, hm⟩ := Int.eq_ofNat_of_zero_le (show 0 ≤ 1 + c by omega)
  have hw : wrap64 (1 + c) = (m : Int) := by rw [w64 (by omega) (by omega)]; exact hm
  obtain ⟨l, q, hl, h1, h2, h3⟩ := spec_l2Draw_ev hs (n := m) (by omega) (p := p + 1) (by omega)
  have hpos : 1 ≤ m * m := Nat.mul_pos (by omega) (by omega)
  have h16 := sq16 (n := m) (by omega)
  obtain ⟨n', l', q', hb, h4, h5, h6⟩ := spec_l2Bad_ev hs (m : Int) (l := l) (by omega) (by omega) (p := q) (by omega)
  obtain ⟨d, hd, d0, d1⟩ := spec_l13Rd_pick_ev hs (p := q') (by omega) 16
  by_cases e : d = 0
  · obtain ⟨c', hc', c0', c1'⟩ := spec_l13Rd_pick_ev hs (p := q' + 1) (by omega) 4
    have c1' := c1' (by omega)
    obtain ⟨m', hm'⟩ := Int.eq_ofNat_of_zero_le (show 0 ≤ 1 + c' by omega)
    have hw' : wrap64 (1 + c') = (m' : Int) := by rw [w64 (by omega) (by omega)]; exact hm'
    obtain ⟨r, t, hr, r1, r2, r3⟩ := spec_l2Draw_ev hs (n := m') (by omega) (p := q' + 1 + 1) (by omega)
    have r16 := sq16 (n := m') (by omega)
    refine ⟨n', l', (m' : Int), r, t, ?_, h4, by omega⟩
    simp only [spec_l2Pair.f]
    refine Ev.bind hc ?_
    simp only [hw]
    refine Ev.bind hl (Ev.bind hb (Ev.bind hd ?_))
    simp only [if_pos e]
    refine Ev.bind hc' ?_
    simp only [hw']
    exact Ev.bind hr (Ev.now _)
  · obtain ⟨r, t, hr, r1, r2, r3⟩ := spec_l2Draw_ev hs (n := m) (by omega) (p := q' + 1) (by omega)
    refine ⟨n', l', (m : Int), r, t, ?_, h4, by omega⟩
    simp only [spec_l2Pair.f]
    refine Ev.bind hc ?_
    simp only [hw]
    refine Ev.bind hl (Ev.bind hb (Ev.bind hd ?_))
    simp only [if_neg e]
    exact Ev.bind hr (Ev.now _)
theorem spec_DrawMinMatrix_ev (l : List Int) (hl : ∀ x ∈ l, (Lit.int .u8 x).wf = true) : ∃ n a m b, Ev (fun k => spec_DrawMinMatrix.f k l) (n, a, m, b) ∧ a.length ≤ 17 ∧ b.length ≤ 17 := by
  obtain ⟨s, e, hs⟩ := spec_l13Open_ev l hl
  obtain ⟨n, a, m, b, q, h, h1, h2⟩ := spec_l2Pair_ev hs (p := 0) (by omega)
  refine ⟨n, a, m, b, ?_, h1, h2⟩
  simp only [spec_DrawMinMatrix.f, e, Option.bind_some]
  exact Ev.bind h (Ev.now _)
theorem spec_DrawMulMatrix_ev (l : List Int) (hl : ∀ x ∈ l, (Lit.int .u8 x).wf = true) : ∃ n a m b, Ev (fun k => spec_DrawMulMatrix.f k l) (n, a, m, b) ∧ a.length ≤ 17 ∧ b.length ≤ 17 := by
  obtain ⟨s, e, hs⟩ := spec_l13Open_ev l hl
  obtain ⟨n, a, m, b, q, h, h1, h2⟩ := spec_l2Pair_ev hs (p := 0) (by omega)
  refine ⟨n, a, m, b, ?_, h1, h2⟩
  simp only [spec_DrawMulMatrix.f, e, Option.bind_some]
  exact Ev.bind h (Ev.now _)
theorem laws_daSame_ev (a b : List Int) (ha : a.length < 9223372036854775807) : Ev (fun k => laws_daSame.f k a b) (decide (a = b)) := by
  have hm : mn (a.length : Int) (b.length : Int) = ((min a.length b.length : Nat) : Int) := by rw [mn_eq]; omega
  have h := down (min a.length b.length) (P := fun i => Ev (fun k => laws_daSame.l0 k a b ((min a.length b.length : Nat) : Int) (i : Int)) (decide (a.drop i = b.drop i))) ?_ ?_ 0 (by omega)
  · simpa only [laws_daSame.f, hm, List.drop_zero, cast0] using h
  · refine Ev.step (fun k => rfl) ?_
    simp only [laws_daSame.l0, if_neg (show ¬ ((min a.length b.length : Nat) : Int) < ((min a.length b.length : Nat) : Int) by omega)]
    refine ev_to (Ev.now _) ?_
    by_cases e : a.length = b.length
    · have e1 : min a.length b.length = a.length := by omega
      rw [e1, dropn, e, dropn]
      simp
    · rw [beq_eq_false_iff_ne.2 (by omega)]
      symm
      rw [decide_eq_false_iff_not]
      intro h
      have := congrArg List.length h
      simp at this
      omega
  · intro i hi ih
    have h1 : i < a.length := by omega
    have h2 : i < b.length := by omega
    refine Ev.step (fun k => rfl) ?_
    simp only [laws_daSame.l0, if_pos (show (i : Int) < ((min a.length b.length : Nat) : Int) by omega), if_pos (show (0 : Int) ≤ (i : Int) by omega), if_pos (show (i : Int) < (a.length : Int) by omega), if_pos (show (i : Int) < (b.length : Int) by omega), rd_nat h1, rd_nat h2, w64n (show i < 9223372036854775807 by omega)]
    by_cases e : a[i] = b[i]
    · simp only [if_pos e]
      exact ev_to ih (by rw [dropc h1, dropc h2]; simp only [List.cons.injEq, e, true_and])
    · simp only [if_neg e]
      exact ev_to (Ev.now false) (by rw [dropc h1, dropc h2]; simp only [List.cons.injEq, e, false_and, decide_false])
theorem laws_daMatrix_ev (n : Int) (a : List Int) (m : Int) (b : List Int) (ha : a.length < 9223372036854775807) : Ev (fun k => laws_daMatrix.f k n a m b) (decide (n = m ∧ a = b)) := by
  simp only [laws_daMatrix.f]
  by_cases e : n = m
  · simp only [if_pos e]
    refine Ev.bind (laws_daSame_ev a b ha) ?_
    exact ev_to (Ev.now _) (by simp [e])
  · simp only [if_neg e]
    exact ev_to (Ev.now _) (by simp [e])
theorem laws_daMatrix_self (n : Int) (a : List Int) (ha : a.length < 9223372036854775807) : Ev (fun k => laws_daMatrix.f k n a n a) true :=
  ev_to (laws_daMatrix_ev n a n a ha) (by simp)
theorem impl_CostValid_eq (a : Int) : impl_CostValid.f a = some (cv a) := by
  unfold impl_CostValid.f cv
  split <;> simp <;> omega
theorem impl_IndexValid_ev (l : List Int) (hl : l.length < 9223372036854775807) : ∃ r, Ev (fun k => slices_IndexFunc_int_int_at_impl_MatrixValid_1.f k l) r ∧ decide (r ≥ 0) = !(l.all cv) := by
  have h := down l.length (P := fun i => ∃ r, Ev (fun k => slices_IndexFunc_int_int_at_impl_MatrixValid_1.l0 k l (l.length : Int) (i : Int)) r ∧ decide (r ≥ 0) = !((l.drop i).all cv)) ?_ ?_ 0 (by omega)
  · simpa only [slices_IndexFunc_int_int_at_impl_MatrixValid_1.f, List.drop_zero, cast0] using h
  · refine ⟨-1, Ev.step (fun k => rfl) ?_, by rw [dropn]; rfl⟩
    simp only [slices_IndexFunc_int_int_at_impl_MatrixValid_1.l0, if_neg (show ¬ (l.length : Int) < (l.length : Int) by omega)]
    exact Ev.now _
  · intro i hi ih
    obtain ⟨r, hr, hd⟩ := ih
    cases hc : cv l[i] with
    | true =>
      refine ⟨r, Ev.step (fun k => rfl) ?_, by rw [hd, dropc hi, List.all_cons, hc, Bool.true_and]⟩
      simp only [slices_IndexFunc_int_int_at_impl_MatrixValid_1.l0, if_pos (show (i : Int) < (l.length : Int) by omega), if_pos (show (0 : Int) ≤ (i : Int) by omega), rd_nat hi, impl_MatrixValid_1.f, impl_CostValid_eq, hc, Option.bind_some, Bool.not_true, Bool.false_eq_true, if_false, w64n (show i < 9223372036854775807 by omega)]
      exact hr
    | false =>
      refine ⟨(i : Int), Ev.step (fun k => rfl) ?_, by rw [dropc hi, List.all_cons, hc, decide_eq_true (by omega)]; rfl⟩
      simp only [slices_IndexFunc_int_int_at_impl_MatrixValid_1.l0, if_pos (show (i : Int) < (l.length : Int) by omega), if_pos (show (0 : Int) ≤ (i : Int) by omega), rd_nat hi, impl_MatrixValid_1.f, impl_CostValid_eq, hc, Option.bind_some, Bool.not_false, if_true]
      exact Ev.now _
theorem impl_MatrixValid_ev (n : Int) (l : List Int) (hl : l.length < 9223372036854775807) : Ev (fun k => impl_MatrixValid.f k n l) (mv n l) := by
  simp only [impl_MatrixValid.f]
  by_cases h1 : n < 1
  · simp only [if_pos h1]
    exact ev_to (Ev.now _) (by rw [mv, decide_eq_false (fun q => by omega)]; rfl)
  · simp only [if_neg h1]
    by_cases h4 : n > 4
    · simp only [if_pos h4]
      exact ev_to (Ev.now _) (by rw [mv, decide_eq_false (fun q => by omega)]; rfl)
    · have hs := sq_le (show 1 ≤ n by omega) (show n ≤ 4 by omega)
      simp only [if_neg h4, w64 (show -9223372036854775808 ≤ n * n by omega) (show n * n ≤ 9223372036854775807 by omega)]
      by_cases e : (l.length : Int) = n * n
      · obtain ⟨r, hr, hd⟩ := impl_IndexValid_ev l hl
        simp only [if_pos e, slices_ContainsFunc_int_int_at_impl_MatrixValid_1.f]
        refine Ev.bind (Ev.bind hr (Ev.now _)) ?_
        refine ev_to (Ev.now _) ?_
        rw [hd, Bool.not_not, mv, decide_eq_true ⟨by omega, by omega, e⟩, Bool.true_and]
      · simp only [if_neg e]
        exact ev_to (Ev.now _) (by rw [mv, decide_eq_false (fun q => e q.2.2)]; rfl)
theorem filled_UnitMatrix_1_l1 {n : Nat} (hn : n ≤ 4) (g : Nat → Nat → Int) (hg : ∀ i j : Nat, i < n → j < n → impl_UnitMatrix_1.f (i : Int) (j : Int) = some (g i j)) (i : Nat) (hi : i < n)
    (ho : Ev (fun k => impl_filled_at_impl_UnitMatrix_1.l0 k (n : Int) (n : Int) ((i + 1 : Nat) : Int) (n : Int) (cellsTo n g ((i + 1) * n))) ((n : Int), cells n g)) :
    ∀ j, j ≤ n → Ev (fun k => impl_filled_at_impl_UnitMatrix_1.l1 k (n : Int) (i : Int) (n : Int) (i : Int) (n : Int) (j : Int) (n : Int) (cellsTo n g (i * n + j))) ((n : Int), cells n g) := by
  have e1 : i * n + n = (i + 1) * n := by rw [Nat.add_mul]; omega
  refine down n ?_ ?_
  · refine Ev.step (fun k => rfl) ?_
    simp only [impl_filled_at_impl_UnitMatrix_1.l1, if_neg (show ¬ (n : Int) < (n : Int) by omega), w64n (show i < 9223372036854775807 by omega), e1]
    exact ho
  · intro j hj ih
    have hl := idx_lt hi hj
    have hs := sq16 hn
    have hd := div_idx (i := i) hj
    have hnx := cellsTo_next n g (i * n + j)
    rw [hd.1, hd.2] at hnx
    refine Ev.step (fun k => rfl) ?_
    simp only [impl_filled_at_impl_UnitMatrix_1.l1, if_pos (show (j : Int) < (n : Int) by omega)]
    simp only [hg i j hi hj, Option.bind_some]
    simp only [cellsTo_len, if_pos (show i * n + j < 17592186044416 by omega), hnx, w64n (show j < 9223372036854775807 by omega)]
    exact ih
theorem filled_UnitMatrix_1_ev {n : Nat} (hn : n ≤ 4) (g : Nat → Nat → Int) (hg : ∀ i j : Nat, i < n → j < n → impl_UnitMatrix_1.f (i : Int) (j : Int) = some (g i j)) :
    Ev (fun k => impl_filled_at_impl_UnitMatrix_1.f k (n : Int)) ((n : Int), cells n g) := by
  have h := down n (P := fun i => Ev (fun k => impl_filled_at_impl_UnitMatrix_1.l0 k (n : Int) (n : Int) (i : Int) (n : Int) (cellsTo n g (i * n))) ((n : Int), cells n g)) ?_ ?_ 0 (by omega)
  · simpa only [impl_filled_at_impl_UnitMatrix_1.f, Nat.zero_mul, cast0, cellsTo, List.range_zero, List.map_nil] using h
  · refine Ev.step (fun k => rfl) ?_
    simp only [impl_filled_at_impl_UnitMatrix_1.l0, if_neg (show ¬ (n : Int) < (n : Int) by omega)]
    exact Ev.now _
  · intro i hi ih
    refine Ev.step (fun k => rfl) ?_
    simp only [impl_filled_at_impl_UnitMatrix_1.l0, if_pos (show (i : Int) < (n : Int) by omega)]
    exact filled_UnitMatrix_1_l1 hn g hg i hi ih 0 (by omega)
theorem impl_UnitMatrix_ev (n : Int) : Ev (fun k => impl_UnitMatrix.f k n) (unitR n) := by
  simp only [impl_UnitMatrix.f]
  by_cases h1 : n < 1
  · simp only [if_pos h1]
    exact ev_to (Ev.now _) (by rw [unitR, if_neg (by omega)])
  · simp only [if_neg h1]
    by_cases h4 : n > 4
    · simp only [if_pos h4]
      exact ev_to (Ev.now _) (by rw [unitR, if_neg (by omega)])
    · simp only [if_neg h4]
      obtain ⟨m, rfl⟩ := Int.eq_ofNat_of_zero_le (show 0 ≤ n by omega)
      have hf := filled_UnitMatrix_1_ev (n := m) (by omega) (fun i j => if i = j then 0 else 1000000) (fun i j _ _ => by
        simp only [impl_UnitMatrix_1.f]
        by_cases e : i = j
        · simp [e]
        · rw [if_neg (show ¬ (i : Int) = (j : Int) by omega), if_neg e])
      refine Ev.bind hf ?_
      exact ev_to (Ev.now _) (by rw [unitR, if_pos (by omega), Int.toNat_natCast]; rfl)
theorem impl_Matrix_at_eq {n : Nat} (h4 : n ≤ 4) {l : List Int} (hl : l.length = n * n) {i j : Nat} (hi : i < n) (hj : j < n) : impl_Matrix_at.f (n : Int) l (i : Int) (j : Int) = some (ent n l i j) := by
  have hb := idx_lt hi hj
  have hlc : (l.length : Int) = ((n * n : Nat) : Int) := by rw [hl]
  simp only [impl_Matrix_at.f, idx_wrap h4 hi hj, if_pos (show (0 : Int) ≤ ((i * n + j : Nat) : Int) by omega), if_pos (show ((i * n + j : Nat) : Int) < (l.length : Int) by omega), rd_ent]
theorem filled_TurnMatrix_1_l1 {n : Nat} (hn : n ≤ 4) (c0 : Int) (c1 : List Int) (g : Nat → Nat → Int) (hg : ∀ i j : Nat, i < n → j < n → impl_TurnMatrix_1.f (i : Int) (j : Int) c0 c1 = some (g i j)) (i : Nat) (hi : i < n)
    (ho : Ev (fun k => impl_filled_at_impl_TurnMatrix_1.l0 k (n : Int) (n : Int) ((i + 1 : Nat) : Int) c0 c1 (n : Int) (cellsTo n g ((i + 1) * n))) ((n : Int), cells n g)) :
    ∀ j, j ≤ n → Ev (fun k => impl_filled_at_impl_TurnMatrix_1.l1 k (n : Int) (i : Int) (n : Int) (i : Int) (n : Int) (j : Int) c0 c1 (n : Int) (cellsTo n g (i * n + j))) ((n : Int), cells n g) := by
  have e1 : i * n + n = (i + 1) * n := by rw [Nat.add_mul]; omega
  refine down n ?_ ?_
  · refine Ev.step (fun k => rfl) ?_
    simp only [impl_filled_at_impl_TurnMatrix_1.l1, if_neg (show ¬ (n : Int) < (n : Int) by omega), w64n (show i < 9223372036854775807 by omega), e1]
    exact ho
  · intro j hj ih
    have hl := idx_lt hi hj
    have hs := sq16 hn
    have hd := div_idx (i := i) hj
    have hnx := cellsTo_next n g (i * n + j)
    rw [hd.1, hd.2] at hnx
    refine Ev.step (fun k => rfl) ?_
    simp only [impl_filled_at_impl_TurnMatrix_1.l1, if_pos (show (j : Int) < (n : Int) by omega)]
    simp only [hg i j hi hj, Option.bind_some]
    simp only [cellsTo_len, if_pos (show i * n + j < 17592186044416 by omega), hnx, w64n (show j < 9223372036854775807 by omega)]
    exact ih
theorem filled_TurnMatrix_1_ev {n : Nat} (hn : n ≤ 4) (c0 : Int) (c1 : List Int) (g : Nat → Nat → Int) (hg : ∀ i j : Nat, i < n → j < n → impl_TurnMatrix_1.f (i : Int) (j : Int) c0 c1 = some (g i j)) :
    Ev (fun k => impl_filled_at_impl_TurnMatrix_1.f k (n : Int) c0 c1) ((n : Int), cells n g) := by
  have h := down n (P := fun i => Ev (fun k => impl_filled_at_impl_TurnMatrix_1.l0 k (n : Int) (n : Int) (i : Int) c0 c1 (n : Int) (cellsTo n g (i * n))) ((n : Int), cells n g)) ?_ ?_ 0 (by omega)
  · simpa only [impl_filled_at_impl_TurnMatrix_1.f, Nat.zero_mul, cast0, cellsTo, List.range_zero, List.map_nil] using h
  · refine Ev.step (fun k => rfl) ?_
    simp only [impl_filled_at_impl_TurnMatrix_1.l0, if_neg (show ¬ (n : Int) < (n : Int) by omega)]
    exact Ev.now _
  · intro i hi ih
    refine Ev.step (fun k => rfl) ?_
    simp only [impl_filled_at_impl_TurnMatrix_1.l0, if_pos (show (i : Int) < (n : Int) by omega)]
    exact filled_TurnMatrix_1_l1 hn c0 c1 g hg i hi ih 0 (by omega)
theorem impl_TurnMatrix_ev (n : Int) (l : List Int) (hl : l.length < 9223372036854775807) : Ev (fun k => impl_TurnMatrix.f k n l) (turnR n l) := by
  simp only [impl_TurnMatrix.f]
  refine Ev.bind (impl_MatrixValid_ev n l hl) ?_
  cases hv : mv n l with
  | false => simpa only [turnR, hv, Bool.false_eq_true, if_false] using Ev.now _
  | true =>
    obtain ⟨m, rfl, h1, h4, hlen, hc⟩ := mv_nat hv
    have hf := filled_TurnMatrix_1_ev (n := m) h4 (m : Int) l (fun i j => ent m l j i) (fun i j hi hj => by simp only [impl_TurnMatrix_1.f, impl_Matrix_at_eq h4 hlen hj hi, Option.bind_some])
    simp only [if_true]
    refine Ev.bind hf ?_
    exact ev_to (Ev.now _) (by rw [turnR, if_pos hv, Int.toNat_natCast]; rfl)
theorem filled_MulMatrix_1_l1 {n : Nat} (hn : n ≤ 4) (c0 : Int) (c1 : List Int) (c2 : Int) (c3 : List Int) (g : Nat → Nat → Int) (hg : ∀ i j : Nat, i < n → j < n → Ev (fun k => impl_MulMatrix_1.f k (i : Int) (j : Int) c0 c1 c2 c3) (g i j)) (i : Nat) (hi : i < n)
    (ho : Ev (fun k => impl_filled_at_impl_MulMatrix_1.l0 k (n : Int) (n : Int) ((i + 1 : Nat) : Int) c0 c1 c2 c3 (n : Int) (cellsTo n g ((i + 1) * n))) ((n : Int), cells n g)) :
    ∀ j, j ≤ n → Ev (fun k => impl_filled_at_impl_MulMatrix_1.l1 k (n : Int) (i : Int) (n : Int) (i : Int) (n : Int) (j : Int) c0 c1 c2 c3 (n : Int) (cellsTo n g (i * n + j))) ((n : Int), cells n g) := by
  have e1 : i * n + n = (i + 1) * n := by rw [Nat.add_mul]; omega
  refine down n ?_ ?_
  · refine Ev.step (fun k => rfl) ?_
    simp only [impl_filled_at_impl_MulMatrix_1.l1, if_neg (show ¬ (n : Int) < (n : Int) by omega), w64n (show i < 9223372036854775807 by omega), e1]
    exact ho
  · intro j hj ih
    have hl := idx_lt hi hj
    have hs := sq16 hn
    have hd := div_idx (i := i) hj
    have hnx := cellsTo_next n g (i * n + j)
    rw [hd.1, hd.2] at hnx
    refine Ev.step (fun k => rfl) ?_
    simp only [impl_filled_at_impl_MulMatrix_1.l1, if_pos (show (j : Int) < (n : Int) by omega)]
    refine Ev.bind (hg i j hi hj) ?_
    simp only [cellsTo_len, if_pos (show i * n + j < 17592186044416 by omega), hnx, w64n (show j < 9223372036854775807 by omega)]
    exact ih
theorem filled_MulMatrix_1_ev {n : Nat} (hn : n ≤ 4) (c0 : Int) (c1 : List Int) (c2 : Int) (c3 : List Int) (g : Nat → Nat → Int) (hg : ∀ i j : Nat, i < n → j < n → Ev (fun k => impl_MulMatrix_1.f k (i : Int) (j : Int) c0 c1 c2 c3) (g i j)) :
    Ev (fun k => impl_filled_at_impl_MulMatrix_1.f k (n : Int) c0 c1 c2 c3) ((n : Int), cells n g) := by
  have h := down n (P := fun i => Ev (fun k => impl_filled_at_impl_MulMatrix_1.l0 k (n : Int) (n : Int) (i : Int) c0 c1 c2 c3 (n : Int) (cellsTo n g (i * n))) ((n : Int), cells n g)) ?_ ?_ 0 (by omega)
  · simpa only [impl_filled_at_impl_MulMatrix_1.f, Nat.zero_mul, cast0, cellsTo, List.range_zero, List.map_nil] using h
  · refine Ev.step (fun k => rfl) ?_
    simp only [impl_filled_at_impl_MulMatrix_1.l0, if_neg (show ¬ (n : Int) < (n : Int) by omega)]
    exact Ev.now _
  · intro i hi ih
    refine Ev.step (fun k => rfl) ?_
    simp only [impl_filled_at_impl_MulMatrix_1.l0, if_pos (show (i : Int) < (n : Int) by omega)]
    exact filled_MulMatrix_1_l1 hn c0 c1 c2 c3 g hg i hi ih 0 (by omega)
theorem impl_alike_ev (n : Int) (a : List Int) (m : Int) (b : List Int) (ha : a.length < 9223372036854775807) (hb : b.length < 9223372036854775807) : Ev (fun k => impl_alike.f k n a m b) (two n a m b) := by
  simp only [impl_alike.f]
  refine Ev.bind (impl_MatrixValid_ev n a ha) ?_
  cases h1 : mv n a with
  | false => simpa only [two, h1, Bool.false_and, Bool.false_eq_true, if_false] using Ev.now _
  | true =>
    simp only [if_true]
    refine Ev.bind (impl_MatrixValid_ev m b hb) ?_
    cases h2 : mv m b with
    | false => simpa only [two, h1, h2, Bool.true_and, Bool.false_and, Bool.false_eq_true, if_false] using Ev.now _
    | true =>
      simp only [if_true, two, h1, h2, Bool.true_and]
      exact ev_to (Ev.now _) (by by_cases e : n = m <;> simp [e])
theorem impl_AddCost_eq (a b : Int) : impl_AddCost.f a b = some (if cv a && cv b then addc a b else -1) := by
  unfold impl_AddCost.f
  rw [impl_CostValid_eq, impl_CostValid_eq]
  cases ha : cv a with
  | false => simp
  | true =>
    cases hb : cv b with
    | false => simp
    | true =>
      rw [cv_iff] at ha hb
      simp only [Option.bind_some, if_true, Bool.and_self, mn_eq, w64 (show -9223372036854775808 ≤ a + b by omega) (show a + b ≤ 9223372036854775807 by omega), addc]
theorem two_nat {n m : Int} {a b : List Int} (h : two n a m b = true) : ∃ q : Nat, n = (q : Int) ∧ m = (q : Int) ∧ 1 ≤ q ∧ q ≤ 4 ∧ a.length = q * q ∧ b.length = q * q ∧ (∀ x ∈ a, cv x = true) ∧ ∀ x ∈ b, cv x = true := by
  rw [two_iff] at h
  obtain ⟨q, hq, h1, h4, hl, hc⟩ := mv_nat h.1
  obtain ⟨q', hq', h1', h4', hl', hc'⟩ := mv_nat h.2.1
  obtain rfl : q' = q := by omega
  exact ⟨q', hq, hq', h1, h4, hl, hl', hc, hc'⟩
theorem impl_MulMatrix_1_ev {n : Nat} (h4 : n ≤ 4) {a b : List Int} (hla : a.length = n * n) (hlb : b.length = n * n) (ha : ∀ x ∈ a, cv x = true) (hb : ∀ x ∈ b, cv x = true) {i j : Nat} (hi : i < n) (hj : j < n) :
    Ev (fun k => impl_MulMatrix_1.f k (i : Int) (j : Int) (n : Int) a (n : Int) b) (dotTo (fun l => addc (ent n a i l) (ent n b l j)) n) := by
  have h := down n (P := fun l => Ev (fun k => impl_MulMatrix_1.l0 k (i : Int) (j : Int) (dotTo (fun l => addc (ent n a i l) (ent n b l j)) l) (n : Int) (l : Int) (n : Int) a (n : Int) b) (dotTo (fun l => addc (ent n a i l) (ent n b l j)) n)) ?_ ?_ 0 (by omega)
  · simpa only [impl_MulMatrix_1.f, cast0, dotTo_zero] using h
  · refine Ev.step (fun k => rfl) ?_
    simp only [impl_MulMatrix_1.l0, if_neg (show ¬ (n : Int) < (n : Int) by omega)]
    exact Ev.now _
  · intro l hl ih
    rw [dotTo_next] at ih
    refine Ev.step (fun k => rfl) ?_
    simp only [impl_MulMatrix_1.l0, if_pos (show (l : Int) < (n : Int) by omega), impl_Matrix_at_eq h4 hla hi hl, impl_Matrix_at_eq h4 hlb hl hj, impl_AddCost_eq, cv_ent hla ha hi hl, cv_ent hlb hb hl hj, Bool.and_self, if_true, Option.bind_some, mn_eq, w64n (show l < 9223372036854775807 by omega)]
    exact ih
theorem impl_MulMatrix_ev (n : Int) (a : List Int) (m : Int) (b : List Int) (ha : a.length < 9223372036854775807) (hb : b.length < 9223372036854775807) : Ev (fun k => impl_MulMatrix.f k n a m b) (mulR n a m b) := by
  simp only [impl_MulMatrix.f]
  refine Ev.bind (impl_alike_ev n a m b ha hb) ?_
  cases hv : two n a m b with
  | false => simpa only [mulR, hv, Bool.false_eq_true, if_false] using Ev.now _
  | true =>
    obtain ⟨q, rfl, rfl, h1, h4, hla, hlb, hca, hcb⟩ := two_nat hv
    have hf := filled_MulMatrix_1_ev (n := q) h4 (q : Int) a (q : Int) b (fun i j => dotTo (fun l => addc (ent q a i l) (ent q b l j)) q) (fun i j hi hj => impl_MulMatrix_1_ev h4 hla hlb hca hcb hi hj)
    simp only [if_true]
    refine Ev.bind hf ?_
    exact ev_to (Ev.now _) (by rw [mulR, if_pos hv, Int.toNat_natCast]; rfl)
theorem spec_l2Mul_l1 {n : Nat} (h4 : n ≤ 4) {a b : List Int} (hla : a.length = n * n) (hlb : b.length = n * n) (hca : ∀ x ∈ a, cv x = true) (hcb : ∀ x ∈ b, cv x = true) (m : Int) {t : Nat} (ht : t < n * n)
    (ho : Ev (fun k => spec_l2Mul.l0 k ((n * n : Nat) : Int) ((t + 1 : Nat) : Int) (n : Int) a m b (n : Int) (cellsTo n (fun i j => dotTo (fun l => addc (ent n a i l) (ent n b l j)) n) (t + 1))) ((n : Int), mulm n a b)) :
    ∀ l, l ≤ n → Ev (fun k => spec_l2Mul.l1 k ((t / n : Nat) : Int) ((t % n : Nat) : Int) (dotTo (fun l => addc (ent n a (t / n) l) (ent n b l (t % n))) l) ((n * n : Nat) : Int) (t : Int) (n : Int) (l : Int) (n : Int) a m b (n : Int) (cellsTo n (fun i j => dotTo (fun l => addc (ent n a i l) (ent n b l j)) n) t)) ((n : Int), mulm n a b) := by
  obtain ⟨hm, hd, hr⟩ := div_lt ht
  have hs := sq16 h4
  have hac : (a.length : Int) = ((n * n : Nat) : Int) := by rw [hla]
  have hbc : (b.length : Int) = ((n * n : Nat) : Int) := by rw [hlb]
  refine down n ?_ ?_
  · have hn := cellsTo_next n (fun i j => dotTo (fun l => addc (ent n a i l) (ent n b l j)) n) t
    refine Ev.step (fun k => rfl) ?_
    simp only [spec_l2Mul.l1, if_neg (show ¬ (n : Int) < (n : Int) by omega), cellsTo_len, if_pos (show t < 17592186044416 by omega), w64n (show t < 9223372036854775807 by omega), hn]
    exact ho
  · intro l hl ih
    rw [dotTo_next] at ih
    have b1 := idx_lt hd hl
    have b2 := idx_lt hl hr
    have c1 := cv_iff.1 (cv_ent hla hca hd hl)
    have c2 := cv_iff.1 (cv_ent hlb hcb hl hr)
    have e : mn (wrap64 (ent n a (t / n) l + ent n b l (t % n))) 1000000 = addc (ent n a (t / n) l) (ent n b l (t % n)) := by rw [mn_eq, w64 (by omega) (by omega)]; rfl
    refine Ev.step (fun k => rfl) ?_
    simp only [spec_l2Mul.l1, if_pos (show (l : Int) < (n : Int) by omega), idx_wrap h4 hd hl, idx_wrap h4 hl hr, if_pos (nnc (t / n * n + l)), if_pos (show ((t / n * n + l : Nat) : Int) < (a.length : Int) from ltc (by rw [hla]; exact b1)), if_pos (nnc (l * n + t % n)), if_pos (show ((l * n + t % n : Nat) : Int) < (b.length : Int) from ltc (by rw [hlb]; exact b2)), rd_ent, spec_l1Add.f, e, Option.bind_some, w64n (show l < 9223372036854775807 by omega)]
    rw [mn_eq]
    exact ih
theorem spec_l2Mul_ev {n : Nat} (h4 : n ≤ 4) {a b : List Int} (hla : a.length = n * n) (hlb : b.length = n * n) (hca : ∀ x ∈ a, cv x = true) (hcb : ∀ x ∈ b, cv x = true) (m : Int) : Ev (fun k => spec_l2Mul.f k (n : Int) a m b) ((n : Int), mulm n a b) := by
  have hs := sq16 h4
  have h := down (n * n) (P := fun t => Ev (fun k => spec_l2Mul.l0 k ((n * n : Nat) : Int) (t : Int) (n : Int) a m b (n : Int) (cellsTo n (fun i j => dotTo (fun l => addc (ent n a i l) (ent n b l j)) n) t)) ((n : Int), mulm n a b)) ?_ ?_ 0 (by omega)
  · simpa only [spec_l2Mul.f, sq_wrap h4, cast0, cellsTo, List.range_zero, List.map_nil] using h
  · refine Ev.step (fun k => rfl) ?_
    simp only [spec_l2Mul.l0, if_neg (show ¬ ((n * n : Nat) : Int) < ((n * n : Nat) : Int) by omega)]
    exact Ev.now _
  · intro t ht ih
    obtain ⟨hm, hd, hr⟩ := div_lt ht
    have hi := spec_l2Mul_l1 h4 hla hlb hca hcb m ht ih 0 (by omega)
    refine Ev.step (fun k => rfl) ?_
    simp only [spec_l2Mul.l0, if_pos (show (t : Int) < ((n * n : Nat) : Int) by omega), if_neg (show ¬ (n : Int) = 0 by omega), tdiv_nat t n (by omega), tmod_nat]
    exact hi
theorem spec_l1In_eq (a b c : Int) : spec_l1In.f a b c = some (decide (b ≤ a ∧ a ≤ c)) := by
  unfold spec_l1In.f
  split <;> simp <;> omega
theorem spec_CostValid_eq (a : Int) : spec_CostValid.f a = some (cv a) := by
  unfold spec_CostValid.f
  rw [spec_l1In_eq]
  rfl
theorem spec_l1All_ev (l : List Int) (hl : l.length < 9223372036854775807) : Ev (fun k => spec_l1All.f k l) (l.all cv) := by
  have h := down l.length (P := fun i => Ev (fun k => spec_l1All.l0 k l (l.length : Int) (i : Int)) ((l.drop i).all cv)) ?_ ?_ 0 (by omega)
  · exact h
  · refine Ev.step (fun k => rfl) ?_
    simp only [spec_l1All.l0, if_neg (show ¬ (l.length : Int) < (l.length : Int) by omega), dropn, List.all_nil]
    exact Ev.now _
  · intro i hi ih
    refine Ev.step (fun k => rfl) ?_
    simp only [spec_l1All.l0, if_pos (show (i : Int) < (l.length : Int) by omega), if_pos (show (0 : Int) ≤ (i : Int) by omega), rd_nat hi, spec_CostValid_eq, Option.bind_some, dropc hi, List.all_cons, w64n (show i < 9223372036854775807 by omega)]
    cases cv l[i] with
    | false => simpa using Ev.now _
    | true => simpa using ih
theorem spec_MatrixValid_ev (n : Int) (l : List Int) (hl : l.length < 9223372036854775807) : Ev (fun k => spec_MatrixValid.f k n l) (mv n l) := by
  simp only [spec_MatrixValid.f, spec_l1In_eq, Option.bind_some]
  by_cases h : 1 ≤ n ∧ n ≤ 4
  · have hs := sq_le h.1 h.2
    simp only [h, and_self, decide_true, if_true, w64 (show -9223372036854775808 ≤ n * n by omega) (show n * n ≤ 9223372036854775807 by omega)]
    by_cases e : (l.length : Int) = n * n
    · simp only [if_pos e]
      refine Ev.bind (spec_l1All_ev l hl) ?_
      exact ev_to (Ev.now _) (by simp [mv, h, e])
    · simp only [if_neg e]
      exact ev_to (Ev.now _) (by simp [mv, e])
  · simp only [h, decide_false, Bool.false_eq_true, if_false]
    refine ev_to (Ev.now false) ?_
    rw [mv, decide_eq_false (fun q => h ⟨q.1, q.2.1⟩)]
    rfl
theorem spec_l2Two_ev (n : Int) (a : List Int) (m : Int) (b : List Int) (ha : a.length < 9223372036854775807) (hb : b.length < 9223372036854775807) : Ev (fun k => spec_l2Two.f k n a m b) (two n a m b) := by
  simp only [spec_l2Two.f]
  refine Ev.bind (spec_MatrixValid_ev n a ha) ?_
  cases h1 : mv n a with
  | false => simpa only [two, h1, Bool.false_and, Bool.false_eq_true, if_false] using Ev.now _
  | true =>
    simp only [if_true]
    refine Ev.bind (spec_MatrixValid_ev m b hb) ?_
    cases h2 : mv m b with
    | false => simpa only [two, h1, h2, Bool.true_and, Bool.false_and, Bool.false_eq_true, if_false] using Ev.now _
    | true =>
      simp only [if_true, two, h1, h2, Bool.true_and]
      exact ev_to (Ev.now _) (by by_cases e : n = m <;> simp [e])
theorem spec_MulMatrix_ev (n : Int) (a : List Int) (m : Int) (b : List Int) (ha : a.length < 9223372036854775807) (hb : b.length < 9223372036854775807) : Ev (fun k => spec_MulMatrix.f k n a m b) (mulR n a m b) := by
  simp only [spec_MulMatrix.f]
  refine Ev.bind (spec_l2Two_ev n a m b ha hb) ?_
  cases hv : two n a m b with
  | false => simpa only [mulR, hv, Bool.false_eq_true, if_false] using Ev.now _
  | true =>
    obtain ⟨q, rfl, rfl, h1, h4, hla, hlb, hca, hcb⟩ := two_nat hv
    simp only [if_true]
    refine Ev.bind (spec_l2Mul_ev h4 hla hlb hca hcb _) ?_
    exact ev_to (Ev.now _) (by rw [mulR, if_pos hv, Int.toNat_natCast])
theorem Mul_j3 {n : Nat} {a b c : List Int} (ha : Ok n a) (hb : Ok n b) (hc : Ok n c) : Ev (fun k => laws_FnMulMatrix.j3 k n a n b n (mulm n a b) n c) true := by
  have hm := ha.mul hb
  have hu := Ok.unit ha.h1 ha.h4
  have hta := ha.turn
  have htb := hb.turn
  have s1 := ha.short
  have s2 := hb.short
  have s3 := hc.short
  have s4 := hm.short
  have s5 := hu.short
  have s6 := hta.short
  have s7 := htb.short
  have hbc := hb.mul hc
  have x1 := impl_MulMatrix_ev (n : Int) (mulm n a b) (n : Int) c (by omega) (by omega)
  rw [mulR_ok hm hc] at x1
  have x2 := impl_MulMatrix_ev (n : Int) b (n : Int) c (by omega) (by omega)
  rw [mulR_ok hb hc] at x2
  have x3 := impl_MulMatrix_ev (n : Int) a (n : Int) (mulm n b c) (by omega) (by have := hbc.short; omega)
  rw [mulR_ok ha hbc, ← mul_assoc ha hb hc] at x3
  have x4 := impl_UnitMatrix_ev (n : Int)
  rw [unitR_ok ha.h1 ha.h4] at x4
  have x5 := impl_MulMatrix_ev (n : Int) a (n : Int) (unitm n) (by omega) (by omega)
  rw [mulR_ok ha hu, mul_unit ha] at x5
  have x6 := impl_MulMatrix_ev (n : Int) (unitm n) (n : Int) a (by omega) (by omega)
  rw [mulR_ok hu ha, unit_mul ha] at x6
  have x7 := impl_TurnMatrix_ev (n : Int) a (by omega)
  rw [turnR_ok ha] at x7
  have x8 := impl_TurnMatrix_ev (n : Int) b (by omega)
  rw [turnR_ok hb] at x8
  have x9 := impl_TurnMatrix_ev (n : Int) (mulm n a b) (by omega)
  rw [turnR_ok hm] at x9
  have x10 := impl_MulMatrix_ev (n : Int) (turnm n b) (n : Int) (turnm n a) (by omega) (by omega)
  rw [mulR_ok htb hta, turn_mul ha hb] at x10
  have x11 := impl_MatrixValid_ev (n : Int) (mulm n a b) (by omega)
  rw [hm.mv] at x11
  refine Ev.step (fun k => rfl) ?_
  simp only [laws_FnMulMatrix.j3]
  refine Ev.bind x1 (Ev.bind x2 (Ev.bind x3 (Ev.bind x4 (Ev.bind x5 (Ev.bind x6 (Ev.bind x7 (Ev.bind x8 (Ev.bind x9 (Ev.bind x10 (Ev.bind x11 ?_))))))))))
  simp only [if_true]
  refine Ev.bind (laws_daMatrix_self _ (mulm n (mulm n a b) c) (by have := (hm.mul hc).short; omega)) ?_
  simp only [if_true]
  refine Ev.bind (laws_daMatrix_self _ _ (by omega)) ?_
  simp only [if_true]
  refine Ev.bind (laws_daMatrix_self _ _ (by omega)) ?_
  simp only [if_true]
  exact Ev.bind (laws_daMatrix_self _ _ (by have := hm.turn.short; omega)) (Ev.now _)
theorem Mul_j2 {n : Nat} {a b : List Int} (ha : Ok n a) (hb : Ok n b) (t : Bool) (m : Int) (c : List Int) (hc : t = false → m = (n : Int) ∧ Ok n c) : Ev (fun k => laws_FnMulMatrix.j2 k t n a n b n (mulm n a b) m c) true := by
  refine Ev.step (fun k => rfl) ?_
  cases t with
  | true =>
    simp only [laws_FnMulMatrix.j2, if_true]
    exact Mul_j3 ha hb hb
  | false =>
    obtain ⟨rfl, h⟩ := hc rfl
    simp only [laws_FnMulMatrix.j2, Bool.false_eq_true, if_false]
    exact Mul_j3 ha hb h
theorem Mul_main (l0 l1 : List Int) (h0 : ∀ x ∈ l0, (Lit.int .u8 x).wf = true) (h1 : ∀ x ∈ l1, (Lit.int .u8 x).wf = true) : Ev (fun k => laws_FnMulMatrix.j0 k l0 l1 false) true := by
  obtain ⟨n, a, m, b, hd, hl, hl'⟩ := spec_DrawMulMatrix_ev l0 h0
  have hi := impl_MulMatrix_ev n a m b (by omega) (by omega)
  have hs := spec_MulMatrix_ev n a m b (by omega) (by omega)
  refine Ev.step (fun k => rfl) ?_
  simp only [laws_FnMulMatrix.j0, Bool.false_eq_true, if_false]
  refine Ev.bind hd ?_
  by_cases hv : two n a m b = true
  · obtain ⟨v1, v2, rfl⟩ := two_iff.1 hv
    obtain ⟨n, rfl, ha⟩ := mv_ok v1
    have hb := ok_of v2
    have hM := ha.mul hb
    rw [mulR_ok ha hb] at hi hs
    refine Ev.bind hi (Ev.bind hs (Ev.bind (laws_daMatrix_self _ (mulm n a b) (by have := hM.short; omega)) ?_))
    simp only [if_true, bne_self_eq_false, Bool.false_eq_true, if_false, Bool.not_true]
    refine Ev.step (fun k => rfl) ?_
    simp only [laws_FnMulMatrix.j1, Bool.false_eq_true, if_false]
    obtain ⟨p, c, q, d, he, hc, -⟩ := spec_DrawMinMatrix_ev l1 h1
    refine Ev.bind he (Ev.bind (impl_MatrixValid_ev p c (by omega)) ?_)
    by_cases hp : mv p c = true
    · simp only [if_pos hp]
      refine Mul_j2 ha hb _ _ _ fun e => ?_
      have e : p = (n : Int) := by simpa using e
      subst e
      exact ⟨rfl, ok_of hp⟩
    · simp only [if_neg hp]
      exact Mul_j2 ha hb _ _ _ fun e => by cases e
  · have er : mulR n a m b = (0, [], false) := by rw [mulR, if_neg hv]
    rw [er] at hi hs
    have d := laws_daMatrix_self 0 [] (by simp)
    refine Ev.bind hi (Ev.bind hs (Ev.bind d ?_))
    simp only [if_true, bne_self_eq_false, Bool.false_eq_true, if_false, Bool.not_false]
    refine Ev.step (fun k => rfl) ?_
    simp only [laws_FnMulMatrix.j1, if_true]
    refine Ev.bind d ?_
    simp only [if_true, beq_self_eq_true]
    exact Ev.now _
theorem FnMulMatrix : laws_FnMulMatrix.Pure := by
  intro l0 l1 _ _ h0 _ _ h1
  refine Ev.rounds ?_
  simp only [laws_FnMulMatrix.f]
  have ht : Ev (fun k => laws_FnMulMatrix.j0 k l0 l1 true) true := by
    refine Ev.step (fun k => rfl) ?_
    simp only [laws_FnMulMatrix.j0, if_true]
    exact Ev.now _
  by_cases c0 : (l0.length : Int) > 1048576
  · simp only [if_pos c0]; exact ht
  · simp only [if_neg c0]
    by_cases c1 : (l1.length : Int) > 1048576
    · simp only [c1, decide_true]; exact ht
    · simp only [c1, decide_false]; exact Mul_main l0 l1 h0 h1

end Go.Proofs.Ythojienhgeiknaa.Pure
