/- The pure statement of FnExactCountAccepted: the printed functions answer true at every input that can be read. -/
import Derived.Test.YtejnpldoakgadaaPGAx5
set_option linter.unusedVariables false
set_option linter.unusedSimpArgs false
namespace Go.Proofs.Ytejnpldoakgadaa.Pure
open Go.RowKit Go.Proofs.Ytejnpldoakgadaa.PGA Go.Proofs.YtejnpldoakgadaaW.PrintWords Go.Proofs.YtejnpldoakgadaaW.PrintLast Go.Proofs.YtejnpldoakgadaaW.PrintMore

theorem w64 {x : Int} (h0 : -9223372036854775808 ≤ x) (h1 : x ≤ 9223372036854775807) : wrap64 x = x := by unfold wrap64; omega
theorem cast0 : ((0 : Nat) : Int) = 0 := rfl
theorem w64n {i : Nat} (h : i < 9223372036854775807) : wrap64 ((i : Int) + 1) = ((i + 1 : Nat) : Int) := by rw [w64 (by omega) (by omega)]; omega
theorem rd_nat {l : List Int} {i : Nat} (h : i < l.length) : rd l (i : Int) = l[i] := by simp [rd, List.getD_eq_getElem?_getD, h]
theorem mn_eq (a b : Int) : mn a b = min a b := by unfold mn; split <;> omega
theorem mx_eq (a b : Int) : mx a b = max a b := by unfold mx; split <;> omega
theorem down (n : Nat) {P : Nat → Prop} (h0 : P n) (hs : ∀ i, i < n → P (i + 1) → P i) : ∀ i, i ≤ n → P i := by
  have h : ∀ d i, i + d = n → P i := by
    intro d
    induction d with
    | zero => intro i hi; obtain rfl : i = n := by omega
              exact h0
    | succ d ih => intro i hi; exact hs i (by omega) (ih (i + 1) (by omega))
  exact fun i hi => h (n - i) i (by omega)
theorem ev_to {α : Type} {g : Nat → Option α} {r r' : α} (h : Ev g r) (e : r = r') : Ev g r' := e ▸ h
theorem dropc {α : Type} {l : List α} {i : Nat} (h : i < l.length) : l.drop i = l[i] :: l.drop (i + 1) := List.drop_eq_getElem_cons h
theorem dropn {α : Type} (l : List α) : l.drop l.length = [] := List.drop_eq_nil_of_le (Nat.le_refl _)
theorem wf64 {x : Int} (h : (Lit.int .i64 x).wf = true) : -9223372036854775808 ≤ x ∧ x ≤ 9223372036854775807 := by
  simp [Lit.wf, IntKind.min, IntKind.max, IntKind.signed, IntKind.bits] at h
  omega
theorem wf8 {x : Int} (h : (Lit.int .u8 x).wf = true) : 0 ≤ x ∧ x ≤ 255 := by
  simp [Lit.wf, IntKind.min, IntKind.max, IntKind.signed, IntKind.bits] at h
  omega
theorem nnc (q : Nat) : (0 : Int) ≤ (q : Int) := Int.natCast_nonneg q
theorem ltc {a b : Nat} (h : a < b) : (a : Int) < (b : Int) := Int.ofNat_lt.2 h
/-- A cost: between 0 and 1000000. -/
def cv (a : Int) : Bool := decide (0 ≤ a ∧ a ≤ 1000000)
theorem cv_iff {a : Int} : cv a = true ↔ 0 ≤ a ∧ a ≤ 1000000 := by simp [cv]
/-- The sum of two costs, at most 1000000. -/
def addc (s a : Int) : Int := min (s + a) 1000000
theorem addc_bd {s a : Int} (h0 : 0 ≤ s) (h1 : 0 ≤ a) : 0 ≤ addc s a ∧ addc s a ≤ 1000000 := by unfold addc; omega
/-- A matrix: 1 to 4 rows, as many costs in each. -/
def mv (n : Int) (l : List Int) : Bool := decide (1 ≤ n ∧ n ≤ 4 ∧ (l.length : Int) = n * n) && l.all cv
theorem mv_iff {n : Int} {l : List Int} : mv n l = true ↔ (1 ≤ n ∧ n ≤ 4 ∧ (l.length : Int) = n * n) ∧ l.all cv = true := by simp [mv]
theorem sq_le {n : Int} (h1 : 1 ≤ n) (h2 : n ≤ 4) : 1 ≤ n * n ∧ n * n ≤ 16 := by
  obtain h | h | h | h : n = 1 ∨ n = 2 ∨ n = 3 ∨ n = 4 := by omega
  all_goals subst h; omega
/-- The cost in row i, column j. -/
def ent (n : Nat) (l : List Int) (i j : Nat) : Int := l.getD (i * n + j) 0
theorem rd_ent (n : Nat) (l : List Int) (i j : Nat) : rd l ((i * n + j : Nat) : Int) = ent n l i j := by
  show l.getD ((i * n + j : Nat) : Int).toNat 0 = _
  rw [Int.toNat_natCast]
  rfl
theorem idx_lt {n i j : Nat} (hi : i < n) (hj : j < n) : i * n + j < n * n := by
  have := Nat.mul_le_mul_right n (show i + 1 ≤ n from hi)
  rw [Nat.add_mul] at this
  omega
theorem sq16 {n : Nat} (h : n ≤ 4) : n * n ≤ 16 := Nat.mul_le_mul h h
theorem idx_wrap {n i j : Nat} (hn : n ≤ 4) (hi : i < n) (hj : j < n) : wrap64 ((wrap64 ((i : Int) * (n : Int))) + (j : Int)) = ((i * n + j : Nat) : Int) := by
  have h1 := idx_lt hi hj
  have h2 := sq16 hn
  have e : ((i * n + j : Nat) : Int) = (i : Int) * (n : Int) + (j : Int) := by rw [Int.natCast_add, Int.natCast_mul]
  have e2 : ((i * n : Nat) : Int) = (i : Int) * (n : Int) := Int.natCast_mul _ _
  rw [w64 (x := (i : Int) * (n : Int)) (by omega) (by omega), w64 (by omega) (by omega), e]
theorem div_idx {n i k : Nat} (hk : k < n) : (i * n + k) / n = i ∧ (i * n + k) % n = k := by
  constructor
  · rw [Nat.mul_comm, Nat.mul_add_div (by omega), Nat.div_eq_of_lt hk]; omega
  · rw [Nat.mul_comm, Nat.mul_add_mod, Nat.mod_eq_of_lt hk]
/-- The cells of a matrix, of what a function tells for each place. -/
def cells (n : Nat) (f : Nat → Nat → Int) : List Int := (List.range (n * n)).map fun t => f (t / n) (t % n)
/-- The first so many of them. -/
def cellsTo (n : Nat) (f : Nat → Nat → Int) (m : Nat) : List Int := (List.range m).map fun t => f (t / n) (t % n)
theorem cellsTo_len (n : Nat) (f : Nat → Nat → Int) (m : Nat) : (cellsTo n f m).length = m := by simp [cellsTo]
theorem cells_len (n : Nat) (f : Nat → Nat → Int) : (cells n f).length = n * n := by simp [cells]
theorem cellsTo_next (n : Nat) (f : Nat → Nat → Int) (m : Nat) : cellsTo n f m ++ [f (m / n) (m % n)] = cellsTo n f (m + 1) := by simp [cellsTo, List.range_succ]
theorem ent_cells {n : Nat} (f : Nat → Nat → Int) {i j : Nat} (hi : i < n) (hj : j < n) : ent n (cells n f) i j = f i j := by
  have h := idx_lt hi hj
  have hd := div_idx (i := i) hj
  rw [ent, cells, List.getD_eq_getElem?_getD, List.getElem?_map, List.getElem?_range h]
  simp [hd.1, hd.2]
theorem cells_ent {n : Nat} {l : List Int} (h : l.length = n * n) : cells n (ent n l) = l := by
  apply List.ext_getElem
  · rw [cells_len, h]
  · intro i h1 h2
    have e : i / n * n + i % n = i := by rw [Nat.mul_comm]; exact Nat.div_add_mod i n
    simp [cells, ent, e, h2]
theorem cells_congr {n : Nat} {f g : Nat → Nat → Int} (h : ∀ i j, i < n → j < n → f i j = g i j) : cells n f = cells n g := by
  apply List.map_congr_left
  intro t ht
  have ht : t < n * n := by simpa using ht
  have hn : 0 < n := by
    cases n with
    | zero => simp at ht
    | succ n => omega
  exact h _ _ (Nat.div_lt_of_lt_mul ht) (Nat.mod_lt _ hn)
theorem cells_all {n : Nat} {f : Nat → Nat → Int} (h : ∀ i j, i < n → j < n → cv (f i j) = true) : (cells n f).all cv = true := by
  rw [List.all_eq_true]
  intro x hx
  obtain ⟨t, ht, rfl⟩ := List.mem_map.1 hx
  have ht : t < n * n := by simpa using ht
  have hn : 0 < n := by
    cases n with
    | zero => simp at ht
    | succ n => omega
  exact h _ _ (Nat.div_lt_of_lt_mul ht) (Nat.mod_lt _ hn)
theorem mv_cells {n : Nat} (h0 : 1 ≤ n) (h1 : n ≤ 4) {f : Nat → Nat → Int} (h : ∀ i j, i < n → j < n → cv (f i j) = true) : mv (n : Int) (cells n f) = true := by
  rw [mv_iff]
  refine ⟨⟨by omega, by omega, ?_⟩, cells_all h⟩
  rw [cells_len, Int.natCast_mul]
theorem mv_nat {n : Int} {l : List Int} (h : mv n l = true) : ∃ m : Nat, n = (m : Int) ∧ 1 ≤ m ∧ m ≤ 4 ∧ l.length = m * m ∧ ∀ x ∈ l, cv x = true := by
  rw [mv_iff] at h
  obtain ⟨m, rfl⟩ := Int.eq_ofNat_of_zero_le (show 0 ≤ n by omega)
  have e := Int.natCast_mul m m
  exact ⟨m, rfl, by omega, by omega, by omega, by simpa using h.2⟩
theorem cv_ent {n : Nat} {l : List Int} (hl : l.length = n * n) (h : ∀ x ∈ l, cv x = true) {i j : Nat} (hi : i < n) (hj : j < n) : cv (ent n l i j) = true := by
  have hb := idx_lt hi hj
  have : ent n l i j = l[i * n + j]'(by omega) := by
    rw [ent, List.getD_eq_getElem?_getD, List.getElem?_eq_getElem (by omega)]
    rfl
  rw [this]
  exact h _ (List.getElem_mem _)
/-- The least of so many costs. -/
def dotTo (f : Nat → Int) (m : Nat) : Int := (List.range m).foldl (fun acc x => min acc (f x)) 1000000
theorem dotTo_next (f : Nat → Int) (m : Nat) : dotTo f (m + 1) = min (dotTo f m) (f m) := by simp [dotTo, List.range_succ]
theorem dotTo_zero (f : Nat → Int) : dotTo f 0 = 1000000 := rfl
theorem dotTo_bd {f : Nat → Int} : ∀ {m : Nat}, (∀ l, l < m → 0 ≤ f l) → 0 ≤ dotTo f m ∧ dotTo f m ≤ 1000000 := by
  intro m
  induction m with
  | zero => intro _; rw [dotTo_zero]; omega
  | succ m ih =>
    intro h
    have h1 := ih (fun l hl => h l (by omega))
    have h2 := h m (by omega)
    rw [dotTo_next]
    omega
def unitm (n : Nat) : List Int := cells n fun i j => if i = j then 0 else 1000000
def turnm (n : Nat) (a : List Int) : List Int := cells n fun i j => ent n a j i
def minm (n : Nat) (a b : List Int) : List Int := cells n fun i j => min (ent n a i j) (ent n b i j)
def mulm (n : Nat) (a b : List Int) : List Int := cells n fun i j => dotTo (fun l => addc (ent n a i l) (ent n b l j)) n
def two (n : Int) (a : List Int) (m : Int) (b : List Int) : Bool := mv n a && (mv m b && decide (n = m))
def unitR (n : Int) : Int × List Int × Bool := if 1 ≤ n ∧ n ≤ 4 then (n, unitm n.toNat, true) else (0, [], false)
def turnR (n : Int) (a : List Int) : Int × List Int × Bool := if mv n a then (n, turnm n.toNat a, true) else (0, [], false)
def minR (n : Int) (a : List Int) (m : Int) (b : List Int) : Int × List Int × Bool := if two n a m b then (n, minm n.toNat a b, true) else (0, [], false)
def mulR (n : Int) (a : List Int) (m : Int) (b : List Int) : Int × List Int × Bool := if two n a m b then (n, mulm n.toNat a b, true) else (0, [], false)
theorem two_iff {n m : Int} {a b : List Int} : two n a m b = true ↔ mv n a = true ∧ mv m b = true ∧ n = m := by simp [two]
theorem cv_bd {a : Int} (h : cv a = true) : 0 ≤ a ∧ a ≤ 1000000 := cv_iff.1 h
theorem cv_dot {n : Nat} {f : Nat → Int} (h : ∀ l, l < n → 0 ≤ f l) : cv (dotTo f n) = true := cv_iff.2 (dotTo_bd h)
theorem mv_mulm {n : Nat} (h1 : 1 ≤ n) (h4 : n ≤ 4) {a b : List Int} (hla : a.length = n * n) (hlb : b.length = n * n) (hca : ∀ x ∈ a, cv x = true) (hcb : ∀ x ∈ b, cv x = true) : mv (n : Int) (mulm n a b) = true :=
  mv_cells h1 h4 fun i j hi hj => cv_dot fun l hl => (addc_bd (cv_iff.1 (cv_ent hla hca hi hl)).1 (cv_iff.1 (cv_ent hlb hcb hl hj)).1).1
theorem mv_minm {n : Nat} (h1 : 1 ≤ n) (h4 : n ≤ 4) {a b : List Int} (hla : a.length = n * n) (hlb : b.length = n * n) (hca : ∀ x ∈ a, cv x = true) (hcb : ∀ x ∈ b, cv x = true) : mv (n : Int) (minm n a b) = true :=
  mv_cells h1 h4 fun i j hi hj => by
    have c1 := cv_iff.1 (cv_ent hla hca hi hj)
    have c2 := cv_iff.1 (cv_ent hlb hcb hi hj)
    rw [cv_iff]
    omega
theorem mv_turnm {n : Nat} (h1 : 1 ≤ n) (h4 : n ≤ 4) {a : List Int} (hla : a.length = n * n) (hca : ∀ x ∈ a, cv x = true) : mv (n : Int) (turnm n a) = true :=
  mv_cells h1 h4 fun i j hi hj => cv_ent hla hca hj hi
theorem mv_unitm {n : Nat} (h1 : 1 ≤ n) (h4 : n ≤ 4) : mv (n : Int) (unitm n) = true :=
  mv_cells h1 h4 fun i j hi hj => by
    by_cases e : i = j <;> simp [e, cv]
/-- A matrix of so many rows that is valid. -/
structure Ok (n : Nat) (l : List Int) : Prop where
  h1 : 1 ≤ n
  h4 : n ≤ 4
  len : l.length = n * n
  all : ∀ x ∈ l, cv x = true
theorem ok_of {n : Nat} {l : List Int} (h : mv (n : Int) l = true) : Ok n l := by
  obtain ⟨m, hm, h1, h4, hl, hc⟩ := mv_nat h
  obtain rfl : n = m := by omega
  exact ⟨h1, h4, hl, hc⟩
theorem Ok.mv {n : Nat} {l : List Int} (h : Ok n l) : mv (n : Int) l = true := by
  rw [mv_iff]
  refine ⟨⟨by have := h.h1; omega, by have := h.h4; omega, ?_⟩, by simpa using h.all⟩
  rw [h.len, Int.natCast_mul]
theorem Ok.two {n : Nat} {a b : List Int} (ha : Ok n a) (hb : Ok n b) : two (n : Int) a (n : Int) b = true := two_iff.2 ⟨ha.mv, hb.mv, rfl⟩
theorem Ok.mul {n : Nat} {a b : List Int} (ha : Ok n a) (hb : Ok n b) : Ok n (mulm n a b) := ok_of (mv_mulm ha.h1 ha.h4 ha.len hb.len ha.all hb.all)
theorem Ok.min {n : Nat} {a b : List Int} (ha : Ok n a) (hb : Ok n b) : Ok n (minm n a b) := ok_of (mv_minm ha.h1 ha.h4 ha.len hb.len ha.all hb.all)
theorem Ok.turn {n : Nat} {a : List Int} (ha : Ok n a) : Ok n (turnm n a) := ok_of (mv_turnm ha.h1 ha.h4 ha.len ha.all)
theorem Ok.unit {n : Nat} (h1 : 1 ≤ n) (h4 : n ≤ 4) : Ok n (unitm n) := ok_of (mv_unitm h1 h4)
theorem Ok.short {n : Nat} {a : List Int} (ha : Ok n a) : a.length ≤ 16 := by rw [ha.len]; exact sq16 ha.h4
theorem mulR_ok {n : Nat} {a b : List Int} (ha : Ok n a) (hb : Ok n b) : mulR (n : Int) a (n : Int) b = ((n : Int), mulm n a b, true) := by rw [mulR, if_pos (ha.two hb), Int.toNat_natCast]
theorem minR_ok {n : Nat} {a b : List Int} (ha : Ok n a) (hb : Ok n b) : minR (n : Int) a (n : Int) b = ((n : Int), minm n a b, true) := by rw [minR, if_pos (ha.two hb), Int.toNat_natCast]
theorem turnR_ok {n : Nat} {a : List Int} (ha : Ok n a) : turnR (n : Int) a = ((n : Int), turnm n a, true) := by rw [turnR, if_pos ha.mv, Int.toNat_natCast]
theorem unitR_ok {n : Nat} (h1 : 1 ≤ n) (h4 : n ≤ 4) : unitR (n : Int) = ((n : Int), unitm n, true) := by rw [unitR, if_pos (by omega), Int.toNat_natCast]
theorem mv_ok {n : Int} {l : List Int} (h : _root_.Go.Proofs.Ytejnpldoakgadaa.Pure.mv n l = true) : ∃ m : Nat, n = (m : Int) ∧ Ok m l := by
  obtain ⟨m, hm, h1, h4, hl, hc⟩ := mv_nat h
  exact ⟨m, hm, h1, h4, hl, hc⟩
theorem le_dot {f : Nat → Int} {x : Int} : ∀ {m : Nat}, x ≤ dotTo f m ↔ x ≤ 1000000 ∧ ∀ l, l < m → x ≤ f l := by
  intro m
  induction m with
  | zero => simp [dotTo_zero]
  | succ m ih =>
    rw [dotTo_next]
    constructor
    · intro h
      have h1 := ih.1 (by omega)
      refine ⟨h1.1, fun l hl => ?_⟩
      by_cases e : l = m
      · subst e; omega
      · exact h1.2 l (by omega)
    · intro h
      have h1 := ih.2 ⟨h.1, fun l hl => h.2 l (by omega)⟩
      have h2 := h.2 m (by omega)
      omega
theorem eq_le {a b : Int} (h : ∀ x, x ≤ a ↔ x ≤ b) : a = b := by
  have h1 := (h a).1 (by omega)
  have h2 := (h b).2 (by omega)
  omega
theorem addc_comm (a b : Int) : addc a b = addc b a := by unfold addc; omega
theorem addc_assoc {a c : Int} (b : Int) (ha : 0 ≤ a) (hc : 0 ≤ c) : addc (addc a b) c = addc a (addc b c) := by unfold addc; omega
theorem addc_dot {f : Nat → Int} {c : Int} (hc : 0 ≤ c) : ∀ {m : Nat}, addc (dotTo f m) c = dotTo (fun l => addc (f l) c) m := by
  intro m
  induction m with
  | zero => rw [dotTo_zero, dotTo_zero]; unfold addc; omega
  | succ m ih => rw [dotTo_next, dotTo_next, ← ih]; unfold addc; omega
theorem dot_addc {f : Nat → Int} {c : Int} (hc : 0 ≤ c) {m : Nat} : addc c (dotTo f m) = dotTo (fun l => addc c (f l)) m := by
  rw [addc_comm, addc_dot hc]
  congr 1
  funext l
  exact addc_comm _ _
theorem dot_swap {f : Nat → Nat → Int} {m k : Nat} : dotTo (fun l => dotTo (fun j => f l j) k) m = dotTo (fun j => dotTo (fun l => f l j) m) k := by
  apply eq_le
  intro x
  simp only [le_dot]
  constructor
  · rintro ⟨h0, h⟩
    exact ⟨h0, fun j hj => ⟨h0, fun l hl => (h l hl).2 j hj⟩⟩
  · rintro ⟨h0, h⟩
    exact ⟨h0, fun j hj => ⟨h0, fun l hl => (h l hl).2 j hj⟩⟩
theorem dot_congr {f g : Nat → Int} {m : Nat} (h : ∀ l, l < m → f l = g l) : dotTo f m = dotTo g m := by
  apply eq_le
  intro x
  simp only [le_dot]
  constructor
  · rintro ⟨h0, h1⟩; exact ⟨h0, fun l hl => by rw [← h l hl]; exact h1 l hl⟩
  · rintro ⟨h0, h1⟩; exact ⟨h0, fun l hl => by rw [h l hl]; exact h1 l hl⟩
theorem ent_mul {n : Nat} (a b : List Int) {i j : Nat} (hi : i < n) (hj : j < n) : ent n (mulm n a b) i j = dotTo (fun l => addc (ent n a i l) (ent n b l j)) n := ent_cells _ hi hj
theorem ent_min {n : Nat} (a b : List Int) {i j : Nat} (hi : i < n) (hj : j < n) : ent n (minm n a b) i j = min (ent n a i j) (ent n b i j) := ent_cells _ hi hj
theorem ent_turn {n : Nat} (a : List Int) {i j : Nat} (hi : i < n) (hj : j < n) : ent n (turnm n a) i j = ent n a j i := ent_cells _ hi hj
theorem ent_unit {n : Nat} {i j : Nat} (hi : i < n) (hj : j < n) : ent n (unitm n) i j = if i = j then 0 else 1000000 := ent_cells _ hi hj
theorem Ok.ext {n : Nat} {a b : List Int} (ha : Ok n a) (hb : Ok n b) (h : ∀ i j, i < n → j < n → ent n a i j = ent n b i j) : a = b := by
  rw [← cells_ent ha.len, ← cells_ent hb.len]
  exact cells_congr h
theorem Ok.bd {n : Nat} {a : List Int} (ha : Ok n a) {i j : Nat} (hi : i < n) (hj : j < n) : 0 ≤ ent n a i j ∧ ent n a i j ≤ 1000000 := cv_iff.1 (cv_ent ha.len ha.all hi hj)
theorem mul_assoc {n : Nat} {a b c : List Int} (ha : Ok n a) (hb : Ok n b) (hc : Ok n c) : mulm n (mulm n a b) c = mulm n a (mulm n b c) := by
  refine ((ha.mul hb).mul hc).ext (ha.mul (hb.mul hc)) fun i j hi hj => ?_
  rw [ent_mul _ _ hi hj, ent_mul _ _ hi hj]
  have h1 : dotTo (fun l => addc (ent n (mulm n a b) i l) (ent n c l j)) n = dotTo (fun l => dotTo (fun k => addc (ent n a i k) (addc (ent n b k l) (ent n c l j))) n) n := by
    refine dot_congr fun l hl => ?_
    rw [ent_mul _ _ hi hl, addc_dot (hc.bd hl hj).1]
    refine dot_congr fun k hk => ?_
    exact addc_assoc _ (ha.bd hi hk).1 (hc.bd hl hj).1
  have h2 : dotTo (fun k => addc (ent n a i k) (ent n (mulm n b c) k j)) n = dotTo (fun k => dotTo (fun l => addc (ent n a i k) (addc (ent n b k l) (ent n c l j))) n) n := by
    refine dot_congr fun k hk => ?_
    rw [ent_mul _ _ hk hj, dot_addc (ha.bd hi hk).1]
  rw [h1, h2, dot_swap]
theorem mul_unit {n : Nat} {a : List Int} (ha : Ok n a) : mulm n a (unitm n) = a := by
  refine (ha.mul (Ok.unit ha.h1 ha.h4)).ext ha fun i j hi hj => ?_
  rw [ent_mul _ _ hi hj]
  apply eq_le
  intro x
  rw [le_dot]
  have hb := ha.bd hi hj
  constructor
  · rintro ⟨-, h⟩
    have := h j hj
    rw [ent_unit hj hj, if_pos rfl] at this
    unfold addc at this
    omega
  · intro h
    refine ⟨by omega, fun l hl => ?_⟩
    rw [ent_unit hl hj]
    have hc := ha.bd hi hl
    by_cases e : l = j
    · subst e; rw [if_pos rfl]; unfold addc; omega
    · rw [if_neg e]; unfold addc; omega
theorem unit_mul {n : Nat} {a : List Int} (ha : Ok n a) : mulm n (unitm n) a = a := by
  refine ((Ok.unit ha.h1 ha.h4).mul ha).ext ha fun i j hi hj => ?_
  rw [ent_mul _ _ hi hj]
  apply eq_le
  intro x
  rw [le_dot]
  have hb := ha.bd hi hj
  constructor
  · rintro ⟨-, h⟩
    have := h i hi
    rw [ent_unit hi hi, if_pos rfl] at this
    unfold addc at this
    omega
  · intro h
    refine ⟨by omega, fun l hl => ?_⟩
    rw [ent_unit hi hl]
    have hc := ha.bd hl hj
    by_cases e : i = l
    · subst e; rw [if_pos rfl]; unfold addc; omega
    · rw [if_neg e]; unfold addc; omega
theorem turn_mul {n : Nat} {a b : List Int} (ha : Ok n a) (hb : Ok n b) : mulm n (turnm n b) (turnm n a) = turnm n (mulm n a b) := by
  refine (hb.turn.mul ha.turn).ext (ha.mul hb).turn fun i j hi hj => ?_
  rw [ent_mul _ _ hi hj, ent_turn _ hi hj, ent_mul _ _ hj hi]
  refine dot_congr fun l hl => ?_
  rw [ent_turn _ hi hl, ent_turn _ hl hj, addc_comm]
theorem turn_turn {n : Nat} {a : List Int} (ha : Ok n a) : turnm n (turnm n a) = a := by
  refine ha.turn.turn.ext ha fun i j hi hj => ?_
  rw [ent_turn _ hi hj, ent_turn _ hj hi]
theorem addc_min (a b c : Int) : addc (min a b) c = min (addc a c) (addc b c) := by unfold addc; omega
theorem dot_min {f g : Nat → Int} {m : Nat} : dotTo (fun l => min (f l) (g l)) m = min (dotTo f m) (dotTo g m) := by
  apply eq_le
  intro x
  rw [le_dot]
  have h1 := @le_dot f x m
  have h2 := @le_dot g x m
  constructor
  · rintro ⟨h0, h⟩
    have a1 := h1.2 ⟨h0, fun l hl => by have := h l hl; omega⟩
    have a2 := h2.2 ⟨h0, fun l hl => by have := h l hl; omega⟩
    omega
  · intro h
    have a1 := h1.1 (by omega)
    have a2 := h2.1 (by omega)
    exact ⟨a1.1, fun l hl => by have := a1.2 l hl; have := a2.2 l hl; omega⟩
theorem min_mul {n : Nat} {a b c : List Int} (ha : Ok n a) (hb : Ok n b) (hc : Ok n c) : mulm n (minm n a b) c = minm n (mulm n a c) (mulm n b c) := by
  refine ((ha.min hb).mul hc).ext ((ha.mul hc).min (hb.mul hc)) fun i j hi hj => ?_
  rw [ent_mul _ _ hi hj, ent_min _ _ hi hj, ent_mul _ _ hi hj, ent_mul _ _ hi hj, ← dot_min]
  refine dot_congr fun l hl => ?_
  rw [ent_min _ _ hi hl, addc_min]
theorem mul_min {n : Nat} {a b c : List Int} (ha : Ok n a) (hb : Ok n b) (hc : Ok n c) : mulm n c (minm n a b) = minm n (mulm n c a) (mulm n c b) := by
  refine (hc.mul (ha.min hb)).ext ((hc.mul ha).min (hc.mul hb)) fun i j hi hj => ?_
  rw [ent_mul _ _ hi hj, ent_min _ _ hi hj, ent_mul _ _ hi hj, ent_mul _ _ hi hj, ← dot_min]
  refine dot_congr fun l hl => ?_
  rw [ent_min _ _ hl hj, addc_comm, addc_min, addc_comm, addc_comm _ (ent n c i l)]
theorem min_comm' {n : Nat} {a b : List Int} (ha : Ok n a) (hb : Ok n b) : minm n b a = minm n a b := by
  refine (hb.min ha).ext (ha.min hb) fun i j hi hj => ?_
  rw [ent_min _ _ hi hj, ent_min _ _ hi hj]
  omega
theorem min_assoc' {n : Nat} {a b c : List Int} (ha : Ok n a) (hb : Ok n b) (hc : Ok n c) : minm n (minm n a b) c = minm n a (minm n b c) := by
  refine ((ha.min hb).min hc).ext (ha.min (hb.min hc)) fun i j hi hj => ?_
  rw [ent_min _ _ hi hj, ent_min _ _ hi hj, ent_min _ _ hi hj, ent_min _ _ hi hj]
  omega
theorem min_self' {n : Nat} {a : List Int} (ha : Ok n a) : minm n a a = a := by
  refine (ha.min ha).ext ha fun i j hi hj => ?_
  rw [ent_min _ _ hi hj]
  omega
theorem laws_toIntS_ev (l : List Int) (hl : l.length ≤ 35184372088832) : Ev (fun k => laws_toIntS.f k l) l := by
  have h := down l.length (P := fun i => ∀ out : List Int, out.length = l.length → out.take i = l.take i → Ev (fun k => laws_toIntS.l0 k l out (i : Int)) l) ?_ ?_ 0 (by omega) (List.replicate l.length 0) (by simp) (by simp)
  · simpa only [laws_toIntS.f, if_pos (show (0 : Int) ≤ (l.length : Int) by omega), Int.toNat_natCast, if_pos hl, cast0] using h
  · intro out ho ht
    refine Ev.step (fun k => rfl) ?_
    simp only [laws_toIntS.l0, if_neg (show ¬ (l.length : Int) < (l.length : Int) by omega)]
    refine ev_to (Ev.now _) ?_
    rw [List.take_length, ← ho, List.take_length] at ht
    exact ht
  · intro i hi ih out ho ht
    refine Ev.step (fun k => rfl) ?_
    simp only [laws_toIntS.l0, if_pos (show (i : Int) < (l.length : Int) by omega), if_pos (show (0 : Int) ≤ (i : Int) by omega), if_pos (show (i : Int) < (out.length : Int) by omega), rd_nat hi, w64n (show i < 9223372036854775807 by omega), Int.toNat_natCast]
    refine ih _ (by simpa using ho) ?_
    rw [List.take_succ_eq_append_getElem hi, List.take_succ_eq_append_getElem (by simpa [ho] using hi)]
    rw [List.getElem_set_self, List.take_set, ht, List.set_eq_of_length_le (by simp; omega)]
theorem laws_eqIntS_ev (a b : List Int) (hl : a.length < 9223372036854775807) : Ev (fun k => laws_eqIntS.f k a b) (decide (a = b)) := by
  by_cases hab : a.length = b.length
  · have h := down a.length (P := fun i => Ev (fun k => laws_eqIntS.l0 k a b (i : Int)) (decide (a.drop i = b.drop i))) ?_ ?_ 0 (by omega)
    · simpa only [laws_eqIntS.f, if_pos (show (a.length : Int) = (b.length : Int) by omega), List.drop_zero, cast0] using h
    · refine Ev.step (fun k => rfl) ?_
      simp only [laws_eqIntS.l0, if_neg (show ¬ (a.length : Int) < (a.length : Int) by omega)]
      exact ev_to (Ev.now _) (by rw [dropn, hab, dropn]; rfl)
    · intro i hi ih
      have hi' : i < b.length := by omega
      refine Ev.step (fun k => rfl) ?_
      simp only [laws_eqIntS.l0, if_pos (show (i : Int) < (a.length : Int) by omega), if_pos (show (0 : Int) ≤ (i : Int) by omega), if_pos (show (i : Int) < (b.length : Int) by omega), rd_nat hi, rd_nat hi', w64n (show i < 9223372036854775807 by omega), dropc hi, dropc hi']
      by_cases e : a[i] = b[i]
      · simp only [if_pos e]
        exact ev_to ih (by simp only [List.cons.injEq, e, true_and])
      · simp only [if_neg e]
        exact ev_to (Ev.now false) (by simp only [List.cons.injEq, e, false_and, decide_false])
  · simp only [laws_eqIntS.f, if_neg (show ¬ (a.length : Int) = (b.length : Int) by omega)]
    exact ev_to (Ev.now _) (by rw [eq_comm, decide_eq_false_iff_not]; exact fun e => hab (by rw [e]))
theorem rdI_nat {l : List S51} {i : Nat} (h : i < l.length) : rd_T51 l (i : Int) = l[i] := by simp [rd_T51, List.getD_eq_getElem?_getD, h]
theorem rdL_nat {l : List S90} {i : Nat} (h : i < l.length) : rd_T90 l (i : Int) = l[i] := by simp [rd_T90, List.getD_eq_getElem?_getD, h]
/-- A step of the laws as one of the program. -/
def ofL (x : S90) : S51 := ⟨x.f0, x.f1, x.f2, x.f3⟩
theorem laws_szIntS_eq (l : List Int) (hl : l.length ≤ 9223372036854775807) (m : Int) (h0 : 0 ≤ m) (h1 : m ≤ 1048576) : laws_szIntS.f l m = some (if m - l.length < 0 then -1 else m - l.length) := by
  have e : wrap64 (m - (l.length : Int)) = m - l.length := w64 (by omega) (by omega)
  simp only [laws_szIntS.f, e]
  split <;> rfl
theorem laws_szStep_eq (a : Int) (b : ByteArray) (c d : Int) (hb : b.size ≤ 9223372036854775807) (m : Int) (h0 : 0 ≤ m) (h1 : m ≤ 1048576) : laws_szStep.f a b c d m = some (if m - b.size < 0 then -1 else m - b.size) := by
  have e : wrap64 (m - (b.size : Int)) = m - b.size := w64 (by omega) (by omega)
  simp only [laws_szStep.f, e]
  split <;> rfl
theorem laws_szStepS_ev (l : List S90) (hl : l.length ≤ 9223372036854775807) (hs : ∀ x ∈ l, x.f1.size ≤ 9223372036854775807) (m : Int) (h0 : 0 ≤ m) (h1 : m ≤ 1048576) : ∃ r, Ev (fun k => laws_szStepS.f k l m) r ∧ r ≤ m ∧ (0 ≤ r → (l.length : Int) ≤ m) := by
  have h := down l.length (P := fun i => ∀ q : Int, 0 ≤ q → q ≤ 1048576 → ∃ r, Ev (fun k => laws_szStepS.l0 k l q (i : Int)) r ∧ r ≤ q) ?_ ?_ 0 (by omega)
  · have e : wrap64 (m - (l.length : Int)) = m - l.length := w64 (by omega) (by omega)
    simp only [laws_szStepS.f, e]
    by_cases hh : m - (l.length : Int) < 0
    · simp only [if_pos hh]
      exact ⟨-1, Ev.now _, by omega, by omega⟩
    · simp only [if_neg hh]
      obtain ⟨r, hr, hq⟩ := h (m - l.length) (by omega) (by omega)
      exact ⟨r, hr, by omega, by omega⟩
  · intro q _ _
    refine ⟨q, Ev.step (fun k => rfl) ?_, by omega⟩
    simp only [laws_szStepS.l0, if_neg (show ¬ (l.length : Int) < (l.length : Int) by omega)]
    exact Ev.now _
  · intro i hi ih q q0 q1
    have hsz := hs _ (List.getElem_mem hi)
    by_cases hh : q - (l[i].f1.size : Int) < 0
    · refine ⟨-1, Ev.step (fun k => rfl) ?_, by omega⟩
      simp only [laws_szStepS.l0, if_pos (show (i : Int) < (l.length : Int) by omega), if_pos (nnc i), rdL_nat hi, laws_szStep_eq _ _ _ _ hsz q q0 q1, Option.bind_some, if_pos hh, if_pos (show (-1 : Int) < 0 by omega)]
      exact Ev.now _
    · obtain ⟨r, hr, hrq⟩ := ih (q - l[i].f1.size) (by omega) (by omega)
      refine ⟨r, Ev.step (fun k => rfl) ?_, by omega⟩
      simp only [laws_szStepS.l0, if_pos (show (i : Int) < (l.length : Int) by omega), if_pos (nnc i), rdL_nat hi, laws_szStep_eq _ _ _ _ hsz q q0 q1, Option.bind_some, if_neg hh, w64n (show i < 9223372036854775807 by omega)]
      exact hr
theorem laws_szAutomaton_ev (n : Int) (l1 l2 : List Int) (l3 : List S90) (h1 : l1.length ≤ 9223372036854775807) (h2 : l2.length ≤ 9223372036854775807) (h3 : l3.length ≤ 9223372036854775807) (hs : ∀ x ∈ l3, x.f1.size ≤ 9223372036854775807) :
    ∃ r, Ev (fun k => laws_szAutomaton.f k n l1 l2 l3 1048576) r ∧ r ≤ 1048576 ∧ (0 ≤ r → l1.length ≤ 1048576 ∧ l2.length ≤ 1048576 ∧ l3.length ≤ 1048576) := by
  simp only [laws_szAutomaton.f, laws_szIntS_eq l1 h1 1048576 (by omega) (by omega), Option.bind_some]
  by_cases c1 : 1048576 - (l1.length : Int) < 0
  · simp only [if_pos c1, if_pos (show (-1 : Int) < 0 by omega)]
    exact ⟨-1, Ev.now _, by omega, by omega⟩
  · simp only [if_neg c1, laws_szIntS_eq l2 h2 (1048576 - (l1.length : Int)) (by omega) (by omega), Option.bind_some]
    by_cases c2 : 1048576 - (l1.length : Int) - (l2.length : Int) < 0
    · simp only [if_pos c2, if_pos (show (-1 : Int) < 0 by omega)]
      exact ⟨-1, Ev.now _, by omega, by omega⟩
    · simp only [if_neg c2]
      obtain ⟨r, hr, hq, hl⟩ := laws_szStepS_ev l3 h3 hs (1048576 - (l1.length : Int) - (l2.length : Int)) (by omega) (by omega)
      by_cases c3 : r < 0
      · refine ⟨-1, Ev.bind hr ?_, by omega, by omega⟩
        simp only [if_pos c3]
        exact Ev.now _
      · refine ⟨r, Ev.bind hr ?_, by omega, fun _ => by omega⟩
        simp only [if_neg c3]
        exact Ev.now _
theorem laws_toStepS_ev (l : List S90) (hl : l.length ≤ 7036874417766) : Ev (fun k => laws_toStepS.f k l) (l.map ofL) := by
  have h := down l.length (P := fun i => ∀ out : List S51, out.length = l.length → out.take i = (l.map ofL).take i → Ev (fun k => laws_toStepS.l0 k l out (i : Int)) (l.map ofL)) ?_ ?_ 0 (by omega) (List.replicate l.length z51) (by simp) (by simp)
  · simpa only [laws_toStepS.f, if_pos (show (0 : Int) ≤ (l.length : Int) by omega), Int.toNat_natCast, if_pos hl, cast0] using h
  · intro out ho ht
    refine Ev.step (fun k => rfl) ?_
    simp only [laws_toStepS.l0, if_neg (show ¬ (l.length : Int) < (l.length : Int) by omega)]
    refine ev_to (Ev.now _) ?_
    rw [show l.length = (l.map ofL).length by simp, List.take_length] at ht
    rw [← ht, List.length_map, ← ho, List.take_length]
  · intro i hi ih out ho ht
    refine Ev.step (fun k => rfl) ?_
    simp only [laws_toStepS.l0, if_pos (show (i : Int) < (l.length : Int) by omega), if_pos (show (0 : Int) ≤ (i : Int) by omega), rdL_nat hi, laws_toStep.f, Option.bind_some, if_pos (show (i : Int) < (out.length : Int) by omega), w64n (show i < 9223372036854775807 by omega), Int.toNat_natCast]
    refine ih _ (by simpa using ho) ?_
    rw [List.take_succ_eq_append_getElem (l := l.map ofL) (show i < (l.map ofL).length by simpa using hi), List.take_succ_eq_append_getElem (by simpa [ho] using hi)]
    rw [List.getElem_set_self, List.take_set, ht, List.set_eq_of_length_le (by simp; omega), List.getElem_map]
    rfl
theorem laws_toAutomaton_ev (n : Int) (l1 l2 : List Int) (l3 : List S90) (h1 : l1.length ≤ 35184372088832) (h2 : l2.length ≤ 35184372088832) (h3 : l3.length ≤ 7036874417766) : Ev (fun k => laws_toAutomaton.f k n l1 l2 l3) (n, l1, l2, l3.map ofL) := by
  simp only [laws_toAutomaton.f]
  exact Ev.bind (laws_toIntS_ev l1 h1) (Ev.bind (laws_toIntS_ev l2 h2) (Ev.bind (laws_toStepS_ev l3 h3) (Ev.now _)))
theorem laws_eqStepS_self (l : List S51) (hl : l.length < 9223372036854775807) : Ev (fun k => laws_eqStepS.f k l l) true := by
  have h := down l.length (P := fun i => Ev (fun k => laws_eqStepS.l0 k l l (i : Int)) true) ?_ ?_ 0 (by omega)
  · simpa only [laws_eqStepS.f, if_true, cast0] using h
  · refine Ev.step (fun k => rfl) ?_
    simp only [laws_eqStepS.l0, if_neg (show ¬ (l.length : Int) < (l.length : Int) by omega)]
    exact Ev.now _
  · intro i hi ih
    refine Ev.step (fun k => rfl) ?_
    simp only [laws_eqStepS.l0, if_pos (show (i : Int) < (l.length : Int) by omega), if_pos (nnc i), laws_eqStep.f, if_true, Option.bind_some, w64n (show i < 9223372036854775807 by omega)]
    exact ih
theorem laws_eqAutomaton_self (n : Int) (l1 l2 : List Int) (l3 : List S51) (h1 : l1.length < 9223372036854775807) (h2 : l2.length < 9223372036854775807) (h3 : l3.length < 9223372036854775807) : Ev (fun k => laws_eqAutomaton.f k n l1 l2 l3 n l1 l2 l3) true := by
  simp only [laws_eqAutomaton.f, if_true]
  refine Ev.bind (laws_eqIntS_ev l1 l1 h1) ?_
  simp only [decide_true, if_true]
  refine Ev.bind (laws_eqIntS_ev l2 l2 h2) ?_
  simp only [decide_true, if_true]
  refine Ev.bind (laws_eqStepS_self l3 h3) ?_
  simp only [if_true]
  exact Ev.now _
/-- p at each place from i on, below n. -/
def allFrom (p : Nat → Bool) (n i : Nat) : Bool := (List.range n).all fun j => decide (j < i) || p j
theorem allFrom_iff {p : Nat → Bool} {n i : Nat} : allFrom p n i = true ↔ ∀ j, i ≤ j → j < n → p j = true := by
  simp only [allFrom, List.all_eq_true, List.mem_range, Bool.or_eq_true, decide_eq_true_eq]
  constructor
  · intro h j h1 h2
    rcases h j h2 with e | e
    · omega
    · exact e
  · intro h j h2
    by_cases e : j < i
    · exact Or.inl e
    · exact Or.inr (h j (by omega) h2)
theorem allFrom_end (p : Nat → Bool) (n : Nat) : allFrom p n n = true := allFrom_iff.2 fun j h1 h2 => absurd h2 (by omega)
theorem allFrom_step {p : Nat → Bool} {n i : Nat} (h : i < n) : allFrom p n i = (p i && allFrom p n (i + 1)) := by
  rw [Bool.eq_iff_iff, Bool.and_eq_true, allFrom_iff, allFrom_iff]
  constructor
  · intro hh
    exact ⟨hh i (by omega) h, fun j h1 h2 => hh j (by omega) h2⟩
  · rintro ⟨h1, h2⟩ j h3 h4
    by_cases e : i = j
    · subst e; exact h1
    · exact h2 j (by omega) h4
/-- The number at this place of a list of states fits. -/
def ascAt (n : Int) (l : List Int) (j : Nat) : Bool := decide (0 ≤ rd l j) && (decide (rd l j < n) && (decide (j = 0) || decide (rd l ((j - 1 : Nat) : Int) < rd l j)))
/-- States in ascending order. -/
def asc (n : Int) (l : List Int) : Bool := allFrom (ascAt n l) l.length 0
theorem pred_w {i : Nat} (h : 0 < i) (h2 : i < 9223372036854775807) : wrap64 ((i : Int) - 1) = ((i - 1 : Nat) : Int) := by rw [w64 (by omega) (by omega)]; omega
theorem asc_iff {n : Int} {l : List Int} : asc n l = true ↔ ∀ j, j < l.length → 0 ≤ rd l j ∧ rd l j < n ∧ (0 < j → rd l ((j - 1 : Nat) : Int) < rd l j) := by
  simp only [asc, allFrom_iff, ascAt, Bool.and_eq_true, Bool.or_eq_true, decide_eq_true_eq]
  constructor
  · intro h j hj
    have := h j (by omega) hj
    exact ⟨this.1, this.2.1, fun h0 => by omega⟩
  · intro h j _ hj
    have := h j hj
    refine ⟨this.1, this.2.1, ?_⟩
    by_cases e : j = 0
    · exact Or.inl e
    · exact Or.inr (this.2.2 (by omega))
theorem spec_l1In_eq (a b c : Int) : spec_l1In.f a b c = some (decide (b ≤ a ∧ a ≤ c)) := by
  unfold spec_l1In.f
  split <;> simp <;> omega
def sA (b : ByteArray) : Bool := decide (b.toList = [97])
def sB (b : ByteArray) : Bool := decide (b.toList = [98])
/-- A step that fits so many states. -/
def sOk (n : Int) (s : S51) : Bool := decide (0 ≤ s.f0 ∧ s.f0 < n ∧ 0 ≤ s.f2 ∧ s.f2 < n ∧ 0 ≤ s.f3 ∧ s.f3 ≤ 3) && (sA s.f1 || sB s.f1)
/-- One step is in front of another one. -/
def sLt (s t : S51) : Bool := if s.f0 = t.f0 then (if s.f1.toList = t.f1.toList then decide (s.f2 < t.f2) else Op.bytesLess s.f1.toList t.f1.toList) else decide (s.f0 < t.f0)
def sAt (n : Int) (l : List S51) (j : Nat) : Bool := sOk n (rd_T51 l j) && (decide (j = 0) || sLt (rd_T51 l ((j - 1 : Nat) : Int)) (rd_T51 l j))
/-- Steps that fit so many states, in order. -/
def stepsOk (n : Int) (l : List S51) : Bool := allFrom (sAt n l) l.length 0
/-- An automaton is valid. -/
def av (n : Int) (l1 l2 : List Int) (l3 : List S51) : Bool := decide (1 ≤ n ∧ n ≤ 4) && (asc n l1 && (asc n l2 && (decide (l3.length ≤ 24) && stepsOk n l3)))
theorem spec_l3Step_eq {n : Int} (h1 : 1 ≤ n) (h4 : n ≤ 4) (s : S51) : spec_l3Step.f n s.f0 s.f1 s.f2 s.f3 = some (sOk n s) := by
  have e : wrap64 (n - 1) = n - 1 := w64 (by omega) (by omega)
  simp only [spec_l3Step.f, spec_l1In_eq, Option.bind_some, e, sOk, sA, sB]
  by_cases c0 : 0 ≤ s.f0 ∧ s.f0 ≤ n - 1
  · rw [if_pos (by simpa using c0)]
    by_cases c1 : 0 ≤ s.f2 ∧ s.f2 ≤ n - 1
    · rw [if_pos (by simpa using c1)]
      by_cases c2 : 0 ≤ s.f3 ∧ s.f3 ≤ 3
      · rw [if_pos (by simpa using c2), show decide (0 ≤ s.f0 ∧ s.f0 < n ∧ 0 ≤ s.f2 ∧ s.f2 < n ∧ 0 ≤ s.f3 ∧ s.f3 ≤ 3) = true by simp; omega]
        by_cases c3 : s.f1.toList = [97]
        · simp [c3]
        · rw [if_neg c3]
          simp only [c3, decide_false, Bool.true_and, Bool.false_or]
          congr 1
          by_cases c4 : s.f1.toList = [98] <;> simp [c4]
      · rw [if_neg (by simpa using c2), show decide (0 ≤ s.f0 ∧ s.f0 < n ∧ 0 ≤ s.f2 ∧ s.f2 < n ∧ 0 ≤ s.f3 ∧ s.f3 ≤ 3) = false by simp; omega]
        rfl
    · rw [if_neg (by simpa using c1), show decide (0 ≤ s.f0 ∧ s.f0 < n ∧ 0 ≤ s.f2 ∧ s.f2 < n ∧ 0 ≤ s.f3 ∧ s.f3 ≤ 3) = false by simp; omega]
      rfl
  · rw [if_neg (by simpa using c0), show decide (0 ≤ s.f0 ∧ s.f0 < n ∧ 0 ≤ s.f2 ∧ s.f2 < n ∧ 0 ≤ s.f3 ∧ s.f3 ≤ 3) = false by simp; omega]
    rfl
theorem spec_l3Before_eq (s t : S51) : spec_l3Before.f s.f0 s.f1 s.f2 s.f3 t.f0 t.f1 t.f2 t.f3 = some (sLt s t) := by
  simp only [spec_l3Before.f, sLt]
  split
  · split <;> rfl
  · rfl
theorem sOk_iff {n : Int} {s : S51} : sOk n s = true ↔ (0 ≤ s.f0 ∧ s.f0 < n ∧ 0 ≤ s.f2 ∧ s.f2 < n ∧ 0 ≤ s.f3 ∧ s.f3 ≤ 3) ∧ (s.f1.toList = [97] ∨ s.f1.toList = [98]) := by
  simp [sOk, sA, sB]
theorem stepsOk_mem {n : Int} {l : List S51} (h : stepsOk n l = true) {s : S51} (hs : s ∈ l) : sOk n s = true := by
  obtain ⟨i, hi, rfl⟩ := List.mem_iff_getElem.1 hs
  have := allFrom_iff.1 h i (by omega) hi
  simp only [sAt, Bool.and_eq_true, rdI_nat hi] at this
  exact this.1
theorem av_nat {n : Int} {l1 l2 : List Int} {l3 : List S51} (h : av n l1 l2 l3 = true) : ∃ m : Nat, n = (m : Int) ∧ 1 ≤ m ∧ m ≤ 4 ∧ asc n l1 = true ∧ asc n l2 = true ∧ l3.length ≤ 24 ∧ stepsOk n l3 = true := by
  simp only [av, Bool.and_eq_true, decide_eq_true_eq] at h
  obtain ⟨⟨h1, h4⟩, ha, hb, hl, hs⟩ := h
  obtain ⟨m, rfl⟩ := Int.eq_ofNat_of_zero_le (show 0 ≤ n by omega)
  exact ⟨m, rfl, by omega, by omega, ha, hb, hl, hs⟩
/-- A step's cost put into a matrix. -/
def putS (n : Nat) (c : ByteArray) (m : List Int) (s : S51) : List Int := if s.f1.toList = c.toList then m.set (s.f0 * (n : Int) + s.f2).toNat s.f3 else m
/-- The matrix of the steps by a letter. -/
def stepmat (n : Nat) (c : ByteArray) (l : List S51) : List Int := l.foldl (putS n c) (List.replicate (n * n) 1000000)
theorem putS_len (n : Nat) (c : ByteArray) (m : List Int) (s : S51) : (putS n c m s).length = m.length := by
  unfold putS
  split <;> simp
theorem foldS_len (n : Nat) (c : ByteArray) (l : List S51) : ∀ m : List Int, (l.foldl (putS n c) m).length = m.length := by
  induction l with
  | nil => intro m; rfl
  | cons s l ih => intro m; rw [List.foldl_cons, ih, putS_len]
theorem stepmat_len (n : Nat) (c : ByteArray) (l : List S51) : (stepmat n c l).length = n * n := by rw [stepmat, foldS_len]; simp
theorem foldS_cv {n : Nat} (c : ByteArray) (l : List S51) (hl : ∀ s ∈ l, sOk (n : Int) s = true) : ∀ m : List Int, (∀ x ∈ m, cv x = true) → ∀ x ∈ l.foldl (putS n c) m, cv x = true := by
  induction l with
  | nil => intro m h; exact h
  | cons s l ih =>
    intro m h
    rw [List.foldl_cons]
    refine ih (fun s hs => hl s (List.mem_cons_of_mem _ hs)) _ ?_
    intro x hx
    unfold putS at hx
    split at hx
    · rcases List.mem_or_eq_of_mem_set hx with e | e
      · exact h x e
      · have := (sOk_iff.1 (hl s List.mem_cons_self)).1
        subst e
        exact cv_iff.2 (by omega)
    · exact h x hx
theorem stepmat_ok {n : Nat} (h1 : 1 ≤ n) (h4 : n ≤ 4) (c : ByteArray) {l : List S51} (hl : ∀ s ∈ l, sOk (n : Int) s = true) : Ok n (stepmat n c l) :=
  ⟨h1, h4, stepmat_len n c l, foldS_cv c l hl _ fun x hx => by rw [(List.mem_replicate.1 hx).2]; rfl⟩
def stepR (n : Int) (l1 l2 : List Int) (l3 : List S51) (c : ByteArray) : Int × List Int × Bool := if av n l1 l2 l3 && (sA c || sB c) then (n, stepmat n.toNat c l3, true) else (0, [], false)
theorem step_at {n : Nat} (h4 : n ≤ 4) {s : S51} (h : sOk (n : Int) s = true) : ∃ q : Nat, q < n * n ∧ wrap64 ((wrap64 (s.f0 * (n : Int))) + s.f2) = (q : Int) ∧ (s.f0 * (n : Int) + s.f2).toNat = q := by
  have hb := (sOk_iff.1 h).1
  obtain ⟨i, hi⟩ := Int.eq_ofNat_of_zero_le hb.1
  obtain ⟨j, hj⟩ := Int.eq_ofNat_of_zero_le hb.2.2.1
  have hi4 : i < n := by omega
  have hj4 : j < n := by omega
  refine ⟨i * n + j, idx_lt hi4 hj4, ?_, ?_⟩
  · rw [hi, hj]; exact idx_wrap h4 hi4 hj4
  · rw [hi, hj, ← Int.natCast_mul, ← Int.natCast_add, Int.toNat_natCast]
/-- The letter of a step as a number. -/
def lc (b : ByteArray) : Int := if b.toList = [97] then 0 else 1
/-- Where a step stands: by From, by Letter, by To. -/
def key (s : S51) : Int := s.f0 * 8 + lc s.f1 * 4 + s.f2
theorem sLt_key {n : Int} (h4 : n ≤ 4) {s t : S51} (hs : sOk n s = true) (ht : sOk n t = true) : sLt s t = decide (key s < key t) := by
  have a := sOk_iff.1 hs
  have b := sOk_iff.1 ht
  have e : ([97] : List UInt8) ≠ [98] := by decide
  have e' : ([98] : List UInt8) ≠ [97] := by decide
  unfold sLt key lc
  rw [Bool.eq_iff_iff, decide_eq_true_eq]
  by_cases h0 : s.f0 = t.f0
  · rw [if_pos h0]
    rcases a.2 with a2 | a2 <;> rcases b.2 with b2 | b2
    · simp only [a2, b2, if_true, decide_eq_true_eq]; omega
    · simp only [a2, b2, if_neg e, if_neg e', if_true, show Op.bytesLess [97] [98] = true from rfl]; constructor <;> intro hh <;> first | omega | trivial
    · simp only [a2, b2, if_neg e, if_neg e', if_true, show Op.bytesLess [98] [97] = false from rfl]; constructor <;> intro hh <;> first | (exfalso; omega) | cases hh
    · simp only [a2, b2, if_neg e', if_true, decide_eq_true_eq]; omega
  · rw [if_neg h0, decide_eq_true_eq]
    split <;> split <;> omega
theorem keys_lt {n : Int} (h4 : n ≤ 4) {l : List S51} (h : stepsOk n l = true) : ∀ q p, p < q → ∀ (hq : q < l.length), ∀ (hp : p < l.length), key l[p] < key l[q] := by
  intro q
  induction q with
  | zero => intro p hp; omega
  | succ q ih =>
    intro p hpq hq hp
    have hc := allFrom_iff.1 h (q + 1) (by omega) hq
    simp only [sAt, Bool.and_eq_true, Bool.or_eq_true, decide_eq_true_eq] at hc
    have h1 : sLt l[q] l[q + 1] = true := by
      rcases hc.2 with e | e
      · omega
      · rw [show ((q + 1 - 1 : Nat) : Int) = (q : Int) by omega, rdI_nat (show q < l.length by omega), rdI_nat hq] at e
        exact e
    rw [sLt_key h4 (stepsOk_mem h (List.getElem_mem _)) (stepsOk_mem h (List.getElem_mem _)), decide_eq_true_eq] at h1
    by_cases e : p = q
    · subst e; exact h1
    · have := ih p (by omega) (by omega) hp
      omega
/-- A step bears the letter. -/
def hasC (c : ByteArray) (s : S51) : Bool := decide (s.f1.toList = c.toList)
/-- Where a step's cost stands. -/
def sIdx (n : Nat) (s : S51) : Nat := (s.f0 * (n : Int) + s.f2).toNat
def isN (x : Int) : Bool := decide (x < 1000000)
theorem putS_yes {n : Nat} {c : ByteArray} {m : List Int} {s : S51} (h : hasC c s = true) : putS n c m s = m.set (sIdx n s) s.f3 := by
  simp only [hasC, decide_eq_true_eq] at h
  rw [putS, if_pos h]; rfl
theorem putS_no {n : Nat} {c : ByteArray} {m : List Int} {s : S51} (h : hasC c s = false) : putS n c m s = m := by
  simp only [hasC, decide_eq_false_iff_not] at h
  rw [putS, if_neg h]
/-- What the steps lay, if no two of them lie at one place. -/
theorem foldS_at {n : Nat} {c : ByteArray} : ∀ (l : List S51) (m : List Int), (∀ s ∈ l, hasC c s = true → s.f3 < 1000000 ∧ sIdx n s < m.length) → l.Pairwise (fun s t => hasC c s = true → hasC c t = true → sIdx n s ≠ sIdx n t) →
    (∀ s ∈ l, hasC c s = true → (l.foldl (putS n c) m)[sIdx n s]? = some s.f3) ∧ (∀ j, (∀ s ∈ l, hasC c s = true → sIdx n s ≠ j) → (l.foldl (putS n c) m)[j]? = m[j]?) ∧
    ((∀ s ∈ l, hasC c s = true → m[sIdx n s]? = some 1000000) → (l.foldl (putS n c) m).countP isN = m.countP isN + l.countP (hasC c))
  | [], m, _, _ => ⟨fun s hs => by simp at hs, fun j _ => rfl, fun _ => by simp⟩
  | s :: l, m, hb, hp => by
    obtain ⟨hp1, hp2⟩ := List.pairwise_cons.1 hp
    cases hc : hasC c s with
    | false =>
      obtain ⟨a, b, d⟩ := foldS_at l m (fun t ht => hb t (List.mem_cons_of_mem _ ht)) hp2
      rw [List.foldl_cons, putS_no hc]
      refine ⟨fun t ht hct => ?_, fun j hj => b j fun t ht => hj t (List.mem_cons_of_mem _ ht), fun hh => ?_⟩
      · rcases List.mem_cons.1 ht with rfl | h
        · rw [hc] at hct; cases hct
        · exact a t h hct
      · rw [d fun t ht => hh t (List.mem_cons_of_mem _ ht), List.countP_cons_of_neg (by simp [hc])]
    | true =>
      obtain ⟨h3, hlt⟩ := hb s List.mem_cons_self hc
      obtain ⟨a, b, d⟩ := foldS_at l (m.set (sIdx n s) s.f3) (fun t ht hct => by rw [List.length_set]; exact hb t (List.mem_cons_of_mem _ ht) hct) hp2
      rw [List.foldl_cons, putS_yes hc]
      refine ⟨fun t ht hct => ?_, fun j hj => ?_, fun hh => ?_⟩
      · rcases List.mem_cons.1 ht with rfl | h
        · rw [b _ fun u hu hcu => fun e => hp1 u hu hc hcu e.symm, List.getElem?_set_self hlt]
        · exact a t h hct
      · rw [b j fun t ht => hj t (List.mem_cons_of_mem _ ht), List.getElem?_set_ne (hj s List.mem_cons_self hc)]
      · have e := hh s List.mem_cons_self hc
        rw [List.getElem?_eq_getElem hlt] at e
        have e := Option.some.inj e
        rw [d fun t ht hct => by rw [List.getElem?_set_ne (hp1 t ht hc hct)]; exact hh t (List.mem_cons_of_mem _ ht) hct, List.countP_set hlt, List.countP_cons_of_pos hc, e, if_neg (by simp [isN]), if_pos (by simpa [isN] using h3)]
        omega
theorem sIdx_lt {n : Nat} {s : S51} (h : sOk (n : Int) s = true) : sIdx n s < n * n := by
  have hb := (sOk_iff.1 h).1
  obtain ⟨i, hi⟩ := Int.eq_ofNat_of_zero_le hb.1
  obtain ⟨j, hj⟩ := Int.eq_ofNat_of_zero_le hb.2.2.1
  have e : sIdx n s = i * n + j := by rw [sIdx, hi, hj, ← Int.natCast_mul, ← Int.natCast_add, Int.toNat_natCast]
  rw [e]
  exact idx_lt (by omega) (by omega)
theorem sIdx_inj {n : Nat} {s t : S51} (hs : sOk (n : Int) s = true) (ht : sOk (n : Int) t = true) (h : sIdx n s = sIdx n t) : s.f0 = t.f0 ∧ s.f2 = t.f2 := by
  have hb := (sOk_iff.1 hs).1
  have hc := (sOk_iff.1 ht).1
  obtain ⟨i, hi⟩ := Int.eq_ofNat_of_zero_le hb.1
  obtain ⟨j, hj⟩ := Int.eq_ofNat_of_zero_le hb.2.2.1
  obtain ⟨i', hi'⟩ := Int.eq_ofNat_of_zero_le hc.1
  obtain ⟨j', hj'⟩ := Int.eq_ofNat_of_zero_le hc.2.2.1
  have e : sIdx n s = i * n + j := by rw [sIdx, hi, hj, ← Int.natCast_mul, ← Int.natCast_add, Int.toNat_natCast]
  have e' : sIdx n t = i' * n + j' := by rw [sIdx, hi', hj', ← Int.natCast_mul, ← Int.natCast_add, Int.toNat_natCast]
  rw [e, e'] at h
  have d := div_idx (n := n) (i := i) (k := j) (by omega)
  have d' := div_idx (n := n) (i := i') (k := j') (by omega)
  rw [h] at d
  have x := d.1.symm.trans d'.1
  have y := d.2.symm.trans d'.2
  omega
theorem steps_apart {n : Nat} (h4 : n ≤ 4) {l : List S51} (h : stepsOk (n : Int) l = true) (c : ByteArray) : l.Pairwise (fun s t => hasC c s = true → hasC c t = true → sIdx n s ≠ sIdx n t) := by
  rw [List.pairwise_iff_getElem]
  intro p q hp hq hpq h1 h2 e
  have hk := keys_lt (by omega) h q p hpq hq hp
  obtain ⟨e1, e2⟩ := sIdx_inj (stepsOk_mem h (List.getElem_mem hp)) (stepsOk_mem h (List.getElem_mem hq)) e
  simp only [hasC, decide_eq_true_eq] at h1 h2
  have e3 : lc l[p].f1 = lc l[q].f1 := by unfold lc; rw [h1, h2]
  unfold key at hk
  rw [e1, e2, e3] at hk
  omega
/-- The matrix of a letter's steps: each cost in its place, and so many costs below what can't be had. -/
theorem stepmat_at {n : Nat} (h4 : n ≤ 4) {l : List S51} (h : stepsOk (n : Int) l = true) (c : ByteArray) : (∀ s ∈ l, hasC c s = true → (stepmat n c l)[sIdx n s]? = some s.f3) ∧ (∀ j, j < n * n → (∀ s ∈ l, hasC c s = true → sIdx n s ≠ j) → (stepmat n c l)[j]? = some 1000000) ∧ (stepmat n c l).countP isN = l.countP (hasC c) := by
  have hb : ∀ s ∈ l, hasC c s = true → s.f3 < 1000000 ∧ sIdx n s < (List.replicate (n * n) (1000000 : Int)).length := fun s hs _ => by
    have a := (sOk_iff.1 (stepsOk_mem h hs)).1
    have b := sIdx_lt (stepsOk_mem h hs)
    simp only [List.length_replicate]
    omega
  obtain ⟨a, b, d⟩ := foldS_at l (List.replicate (n * n) 1000000) hb (steps_apart h4 h c)
  refine ⟨a, fun j hj hh => ?_, ?_⟩
  · have := b j hh
    rw [List.getElem?_replicate_of_lt hj] at this
    exact this
  · have := d fun s hs _ => List.getElem?_replicate_of_lt (sIdx_lt (stepsOk_mem h hs))
    rw [show (List.replicate (n * n) (1000000 : Int)).countP isN = 0 by rw [List.countP_replicate]; simp [isN], Nat.zero_add] at this
    exact this
/-- A matrix times a vector. -/
def vmul (n : Nat) (a : List Int) (v : Nat → Int) (i : Nat) : Int := dotTo (fun l => addc (ent n a i l) (v l)) n
theorem vmul_mul {n : Nat} {a b : List Int} (ha : Ok n a) (hb : Ok n b) {v : Nat → Int} (hv : ∀ l, l < n → 0 ≤ v l) {i : Nat} (hi : i < n) : vmul n (mulm n a b) v i = vmul n a (vmul n b v) i := by
  unfold vmul
  have h1 : dotTo (fun l => addc (ent n (mulm n a b) i l) (v l)) n = dotTo (fun l => dotTo (fun k => addc (ent n a i k) (addc (ent n b k l) (v l))) n) n := by
    refine dot_congr fun l hl => ?_
    rw [ent_mul _ _ hi hl, addc_dot (hv l hl)]
    refine dot_congr fun k hk => ?_
    exact addc_assoc _ (ha.bd hi hk).1 (hv l hl)
  have h2 : dotTo (fun k => addc (ent n a i k) (dotTo (fun l => addc (ent n b k l) (v l)) n)) n = dotTo (fun k => dotTo (fun l => addc (ent n a i k) (addc (ent n b k l) (v l))) n) n := by
    refine dot_congr fun k hk => ?_
    rw [dot_addc (ha.bd hi hk).1]
  rw [h1, h2, dot_swap]
theorem vmul_unit {n : Nat} {v : Nat → Int} (hv : ∀ l, l < n → 0 ≤ v l ∧ v l ≤ 1000000) {i : Nat} (hi : i < n) : vmul n (unitm n) v i = v i := by
  unfold vmul
  apply eq_le
  intro x
  rw [le_dot]
  have hb := hv i hi
  constructor
  · rintro ⟨-, h⟩
    have := h i hi
    rw [ent_unit hi hi, if_pos rfl] at this
    unfold addc at this
    omega
  · intro h
    refine ⟨by omega, fun l hl => ?_⟩
    rw [ent_unit hi hl]
    have hc := hv l hl
    by_cases e : i = l
    · subst e; rw [if_pos rfl]; unfold addc; omega
    · rw [if_neg e]; unfold addc; omega
theorem vmul_bd {n : Nat} {a : List Int} (ha : Ok n a) {v : Nat → Int} (hv : ∀ l, l < n → 0 ≤ v l) {i : Nat} (hi : i < n) : 0 ≤ vmul n a v i ∧ vmul n a v i ≤ 1000000 :=
  dotTo_bd fun l hl => (addc_bd (ha.bd hi hl).1 (hv l hl)).1
theorem vmul_congr {n : Nat} {a : List Int} {u v : Nat → Int} (h : ∀ l, l < n → u l = v l) (i : Nat) : vmul n a u i = vmul n a v i := dot_congr fun l hl => by rw [h l hl]
theorem tdiv_nat (t n : Nat) (h : t < 1000) : wrap64 (Int.tdiv (t : Int) (n : Int)) = ((t / n : Nat) : Int) := by
  have e : Int.tdiv (t : Int) (n : Int) = ((t / n : Nat) : Int) := rfl
  have h2 := Nat.div_le_self t n
  rw [e]
  generalize t / n = q at h2 ⊢
  exact w64 (by omega) (by omega)
theorem tmod_nat (t n : Nat) : Int.tmod (t : Int) (n : Int) = ((t % n : Nat) : Int) := rfl
theorem sq_wrap {n : Nat} (h : n ≤ 4) : wrap64 ((n : Int) * (n : Int)) = ((n * n : Nat) : Int) := by
  have := sq16 h
  have e : ((n * n : Nat) : Int) = (n : Int) * (n : Int) := Int.natCast_mul _ _
  rw [w64 (by omega) (by omega), e]
theorem div_lt {n t : Nat} (h : t < n * n) : 0 < n ∧ t / n < n ∧ t % n < n := by
  have hn : 0 < n := by
    cases n with
    | zero => simp at h
    | succ n => omega
  exact ⟨hn, Nat.div_lt_of_lt_mul h, Nat.mod_lt _ hn⟩
theorem divmod (t n : Nat) : t / n * n + t % n = t := by rw [Nat.mul_comm]; exact Nat.div_add_mod t n
theorem spec_l2Mul_l1 {n : Nat} (h4 : n ≤ 4) {a b : List Int} (hla : a.length = n * n) (hlb : b.length = n * n) (hca : ∀ x ∈ a, cv x = true) (hcb : ∀ x ∈ b, cv x = true) (m : Int) {t : Nat} (ht : t < n * n)
    (ho : Ev (fun k => spec_l2Mul.l0 k ((n * n : Nat) : Int) ((t + 1 : Nat) : Int) (n : Int) a m b (n : Int) (cellsTo n (fun i j => dotTo (fun l => addc (ent n a i l) (ent n b l j)) n) (t + 1))) ((n : Int), mulm n a b)) :
    ∀ l, l ≤ n → Ev (fun k => spec_l2Mul.l1 k ((t / n : Nat) : Int) ((t % n : Nat) : Int) (dotTo (fun l => addc (ent n a (t / n) l) (ent n b l (t % n))) l) ((n * n : Nat) : Int) (t : Int) (n : Int) (l : Int) (n : Int) a m b (n : Int) (cellsTo n (fun i j => dotTo (fun l => addc (ent n a i l) (ent n b l j)) n) t)) ((n : Int), mulm n a b) := by
  obtain ⟨hm, hd, hr⟩ := div_lt ht
  have hs := sq16 h4
  have hac : (a.length : Int) = ((n * n : Nat) : Int) := by rw [hla]
  have hbc : (b.length : Int) = ((n * n : Nat) : Int) := by rw [hlb]
  refine down n ?_ ?_
  · have hn := cellsTo_next n (fun i j => dotTo (fun l => addc (ent n a i l) (ent n b l j)) n) t
    refine Ev.step (fun k => rfl) ?_
    simp only [spec_l2Mul.l1, if_neg (show ¬ (n : Int) < (n : Int) by omega), cellsTo_len, if_pos (show t < 17592186044416 by omega), w64n (show t < 9223372036854775807 by omega), hn]
    exact ho
  · intro l hl ih
    rw [dotTo_next] at ih
    have b1 := idx_lt hd hl
    have b2 := idx_lt hl hr
    have c1 := cv_iff.1 (cv_ent hla hca hd hl)
    have c2 := cv_iff.1 (cv_ent hlb hcb hl hr)
    have e : mn (wrap64 (ent n a (t / n) l + ent n b l (t % n))) 1000000 = addc (ent n a (t / n) l) (ent n b l (t % n)) := by rw [mn_eq, w64 (by omega) (by omega)]; rfl
    refine Ev.step (fun k => rfl) ?_
    simp only [spec_l2Mul.l1, if_pos (show (l : Int) < (n : Int) by omega), idx_wrap h4 hd hl, idx_wrap h4 hl hr, if_pos (nnc (t / n * n + l)), if_pos (show ((t / n * n + l : Nat) : Int) < (a.length : Int) from ltc (by rw [hla]; exact b1)), if_pos (nnc (l * n + t % n)), if_pos (show ((l * n + t % n : Nat) : Int) < (b.length : Int) from ltc (by rw [hlb]; exact b2)), rd_ent, spec_l1Add.f, e, Option.bind_some, w64n (show l < 9223372036854775807 by omega)]
    rw [mn_eq]
    exact ih
theorem spec_l2Mul_ev {n : Nat} (h4 : n ≤ 4) {a b : List Int} (hla : a.length = n * n) (hlb : b.length = n * n) (hca : ∀ x ∈ a, cv x = true) (hcb : ∀ x ∈ b, cv x = true) (m : Int) : Ev (fun k => spec_l2Mul.f k (n : Int) a m b) ((n : Int), mulm n a b) := by
  have hs := sq16 h4
  have h := down (n * n) (P := fun t => Ev (fun k => spec_l2Mul.l0 k ((n * n : Nat) : Int) (t : Int) (n : Int) a m b (n : Int) (cellsTo n (fun i j => dotTo (fun l => addc (ent n a i l) (ent n b l j)) n) t)) ((n : Int), mulm n a b)) ?_ ?_ 0 (by omega)
  · simpa only [spec_l2Mul.f, sq_wrap h4, cast0, cellsTo, List.range_zero, List.map_nil] using h
  · refine Ev.step (fun k => rfl) ?_
    simp only [spec_l2Mul.l0, if_neg (show ¬ ((n * n : Nat) : Int) < ((n * n : Nat) : Int) by omega)]
    exact Ev.now _
  · intro t ht ih
    obtain ⟨hm, hd, hr⟩ := div_lt ht
    have hi := spec_l2Mul_l1 h4 hla hlb hca hcb m ht ih 0 (by omega)
    refine Ev.step (fun k => rfl) ?_
    simp only [spec_l2Mul.l0, if_pos (show (t : Int) < ((n * n : Nat) : Int) by omega), if_neg (show ¬ (n : Int) = 0 by omega), tdiv_nat t n (by omega), tmod_nat]
    exact hi
theorem spec_l2Unit_ev {n : Nat} (h1 : 1 ≤ n) (h4 : n ≤ 4) : Ev (fun k => spec_l2Unit.f k (n : Int)) ((n : Int), unitm n) := by
  have hs := sq16 h4
  have h := down (n * n) (P := fun t => Ev (fun k => spec_l2Unit.l0 k (n : Int) ((n * n : Nat) : Int) (t : Int) (n : Int) (cellsTo n (fun i j => if i = j then 0 else 1000000) t)) ((n : Int), unitm n)) ?_ ?_ 0 (by omega)
  · simpa only [spec_l2Unit.f, sq_wrap h4, cast0, cellsTo, List.range_zero, List.map_nil] using h
  · refine Ev.step (fun k => rfl) ?_
    simp only [spec_l2Unit.l0, if_neg (show ¬ ((n * n : Nat) : Int) < ((n * n : Nat) : Int) by omega)]
    exact Ev.now _
  · intro t ht ih
    have hn := cellsTo_next n (fun i j => if i = j then (0 : Int) else 1000000) t
    refine Ev.step (fun k => rfl) ?_
    simp only [spec_l2Unit.l0, if_pos (show (t : Int) < ((n * n : Nat) : Int) by omega), if_neg (show ¬ (n : Int) = 0 by omega), tdiv_nat t n (by omega), tmod_nat, cellsTo_len, if_pos (show t < 17592186044416 by omega), w64n (show t < 9223372036854775807 by omega)]
    by_cases e : t / n = t % n
    · rw [if_pos e] at hn
      simp only [if_pos (show ((t / n : Nat) : Int) = ((t % n : Nat) : Int) by omega), hn]
      exact ih
    · rw [if_neg e] at hn
      simp only [if_neg (show ¬ ((t / n : Nat) : Int) = ((t % n : Nat) : Int) by omega), hn]
      exact ih
theorem spec_l3Matrix_l1 {n : Nat} (h4 : n ≤ 4) (a1 a2 : List Int) (l : List S51) (hl : l.length ≤ 24) (hs : ∀ s ∈ l, sOk (n : Int) s = true) (c : ByteArray) (m : List Int) (hm : m.length = n * n) : Ev (fun k => spec_l3Matrix.l1 k c l (l.length : Int) 0 (n : Int) a1 a2 l (n : Int) m) ((n : Int), l.foldl (putS n c) m) := by
  have h := down l.length (P := fun i => ∀ m : List Int, m.length = n * n → Ev (fun k => spec_l3Matrix.l1 k c l (l.length : Int) (i : Int) (n : Int) a1 a2 l (n : Int) m) ((n : Int), (l.drop i).foldl (putS n c) m)) ?_ ?_ 0 (by omega) m hm
  · simpa only [cast0, List.drop_zero] using h
  · intro m hm
    refine Ev.step (fun k => rfl) ?_
    simp only [spec_l3Matrix.l1, if_neg (show ¬ (l.length : Int) < (l.length : Int) by omega), dropn, List.foldl_nil]
    exact Ev.now _
  · intro i hi ih m hm
    obtain ⟨q, hq, e1, e2⟩ := step_at h4 (hs _ (List.getElem_mem hi))
    refine Ev.step (fun k => rfl) ?_
    simp only [spec_l3Matrix.l1, if_pos (show (i : Int) < (l.length : Int) by omega), if_pos (nnc i), rdI_nat hi, w64n (show i < 9223372036854775807 by omega), dropc hi, List.foldl_cons, e1, if_pos (nnc q), if_pos (show (q : Int) < (m.length : Int) by omega), Int.toNat_natCast]
    have e3 : putS n c m l[i] = if l[i].f1.toList = c.toList then m.set q l[i].f3 else m := by rw [putS, e2]
    by_cases he : l[i].f1.toList = c.toList
    · simp only [if_pos he]
      rw [if_pos he] at e3
      rw [e3]
      exact ih _ (by simpa using hm)
    · simp only [if_neg he]
      rw [if_neg he] at e3
      rw [e3]
      exact ih _ hm
theorem spec_l3Matrix_ev {n : Nat} (h4 : n ≤ 4) (a1 a2 : List Int) (l : List S51) (hl : l.length ≤ 24) (hs : ∀ s ∈ l, sOk (n : Int) s = true) (c : ByteArray) : Ev (fun k => spec_l3Matrix.f k (n : Int) a1 a2 l c) ((n : Int), stepmat n c l) := by
  have h16 := sq16 h4
  have h := down (n * n) (P := fun t => Ev (fun k => spec_l3Matrix.l0 k c ((n * n : Nat) : Int) (t : Int) (n : Int) a1 a2 l (n : Int) (List.replicate t 1000000)) ((n : Int), stepmat n c l)) ?_ ?_ 0 (by omega)
  · simpa only [spec_l3Matrix.f, sq_wrap h4, cast0, List.replicate_zero] using h
  · refine Ev.step (fun k => rfl) ?_
    simp only [spec_l3Matrix.l0, if_neg (show ¬ ((n * n : Nat) : Int) < ((n * n : Nat) : Int) by omega)]
    exact spec_l3Matrix_l1 h4 a1 a2 l hl hs c _ (by simp)
  · intro t ht ih
    refine Ev.step (fun k => rfl) ?_
    simp only [spec_l3Matrix.l0, if_pos (show (t : Int) < ((n * n : Nat) : Int) by omega), List.length_replicate, if_pos (show t < 17592186044416 by omega), w64n (show t < 9223372036854775807 by omega), ← List.replicate_succ']
    exact ih
theorem spec_l3Marks_ev (n : Int) (h1 : 1 ≤ n) (h4 : n ≤ 4) (l : List Int) (hl : l.length < 9223372036854775807) : Ev (fun k => spec_l3Marks.f k n l) (asc n l) := by
  have h := down l.length (P := fun i => Ev (fun k => spec_l3Marks.l0 k n l l (l.length : Int) (i : Int)) (allFrom (ascAt n l) l.length i)) ?_ ?_ 0 (by omega)
  · simpa only [spec_l3Marks.f, asc, cast0] using h
  · refine Ev.step (fun k => rfl) ?_
    simp only [spec_l3Marks.l0, if_neg (show ¬ (l.length : Int) < (l.length : Int) by omega), allFrom_end]
    exact Ev.now _
  · intro i hi ih
    refine Ev.step (fun k => rfl) ?_
    simp only [spec_l3Marks.l0, if_pos (show (i : Int) < (l.length : Int) by omega), if_pos (nnc i), spec_l1In_eq, Option.bind_some, w64n (show i < 9223372036854775807 by omega), w64 (show -9223372036854775808 ≤ n - 1 by omega) (show n - 1 ≤ 9223372036854775807 by omega)]
    rw [allFrom_step hi]
    by_cases hc : 0 ≤ rd l i ∧ rd l i ≤ n - 1
    · simp only [show decide (0 ≤ rd l i ∧ rd l i ≤ n - 1) = true by simpa using hc, if_true]
      by_cases h0 : i = 0
      · subst h0
        simp only [cast0, if_neg (show ¬ (0 : Int) > 0 by omega)]
        exact ev_to ih (by simp [ascAt, show (0 : Int) ≤ rd l 0 from hc.1, show rd l 0 < n by have := hc.2; simp at this; omega])
      · simp only [if_pos (show (i : Int) > 0 by omega), pred_w (show 0 < i by omega) (show i < 9223372036854775807 by omega), if_pos (nnc (i - 1)), if_pos (show ((i - 1 : Nat) : Int) < (l.length : Int) by omega)]
        by_cases hb : rd l ((i - 1 : Nat) : Int) ≥ rd l i
        · simp only [if_pos hb]
          exact ev_to (Ev.now _) (by simp [ascAt, h0, show ¬ rd l ((i - 1 : Nat) : Int) < rd l i by omega])
        · simp only [if_neg hb]
          exact ev_to ih (by simp [ascAt, hc.1, show rd l i < n by omega, show rd l ((i - 1 : Nat) : Int) < rd l i by omega])
    · simp only [show decide (0 ≤ rd l i ∧ rd l i ≤ n - 1) = false by simpa using hc, Bool.false_eq_true, if_false]
      refine ev_to (Ev.now _) ?_
      by_cases ha : 0 ≤ rd l i
      · simp [ascAt, show ¬ rd l i < n by omega]
      · simp [ascAt, ha]
theorem spec_AutomatonValid_steps {n : Int} (h1 : 1 ≤ n) (h4 : n ≤ 4) (l1 l2 : List Int) (l3 : List S51) (h3 : l3.length < 9223372036854775807) : Ev (fun k => spec_AutomatonValid.l0 k l3 (l3.length : Int) 0 n l1 l2 l3) (stepsOk n l3) := by
  have h := down l3.length (P := fun i => Ev (fun k => spec_AutomatonValid.l0 k l3 (l3.length : Int) (i : Int) n l1 l2 l3) (allFrom (sAt n l3) l3.length i)) ?_ ?_ 0 (by omega)
  · simpa only [stepsOk, cast0] using h
  · refine Ev.step (fun k => rfl) ?_
    simp only [spec_AutomatonValid.l0, if_neg (show ¬ (l3.length : Int) < (l3.length : Int) by omega), allFrom_end]
    exact Ev.now _
  · intro i hi ih
    refine Ev.step (fun k => rfl) ?_
    simp only [spec_AutomatonValid.l0, if_pos (show (i : Int) < (l3.length : Int) by omega), if_pos (nnc i), spec_l3Step_eq h1 h4, spec_l3Before_eq, Option.bind_some, w64n (show i < 9223372036854775807 by omega)]
    rw [allFrom_step hi]
    cases hs : sOk n (rd_T51 l3 (i : Int)) with
    | false =>
      simp only [Bool.false_eq_true, if_false]
      exact ev_to (Ev.now _) (by simp [sAt, hs])
    | true =>
      simp only [if_true]
      by_cases h0 : i = 0
      · subst h0
        simp only [cast0, if_neg (show ¬ (0 : Int) > 0 by omega)]
        exact ev_to ih (by simp only [cast0] at hs; simp [sAt, hs])
      · simp only [if_pos (show (i : Int) > 0 by omega), pred_w (show 0 < i by omega) (show i < 9223372036854775807 by omega), if_pos (nnc (i - 1)), if_pos (show ((i - 1 : Nat) : Int) < (l3.length : Int) by omega)]
        cases hb : sLt (rd_T51 l3 ((i - 1 : Nat) : Int)) (rd_T51 l3 (i : Int)) with
        | false =>
          simp only [Bool.false_eq_true, if_false]
          exact ev_to (Ev.now _) (by simp [sAt, h0, hb])
        | true =>
          simp only [if_true]
          exact ev_to ih (by simp [sAt, hs, hb])
theorem spec_AutomatonValid_ev (n : Int) (l1 l2 : List Int) (l3 : List S51) (h1 : l1.length < 9223372036854775807) (h2 : l2.length < 9223372036854775807) (h3 : l3.length < 9223372036854775807) : Ev (fun k => spec_AutomatonValid.f k n l1 l2 l3) (av n l1 l2 l3) := by
  have hno : Ev (fun k => spec_AutomatonValid.j0 k true n l1 l2 l3) false := by
    refine Ev.step (fun k => rfl) ?_
    simp only [spec_AutomatonValid.j0, if_true]
    exact Ev.now _
  simp only [spec_AutomatonValid.f, spec_l1In_eq, Option.bind_some]
  by_cases c0 : 1 ≤ n ∧ n ≤ 4
  · simp only [show decide (1 ≤ n ∧ n ≤ 4) = true by simpa using c0, if_true]
    refine Ev.bind (spec_l3Marks_ev n c0.1 c0.2 l1 h1) ?_
    cases e1 : asc n l1 with
    | false =>
      simp only [Bool.false_eq_true, if_false]
      exact ev_to hno (by simp [av, e1])
    | true =>
      simp only [if_true]
      refine Ev.bind (spec_l3Marks_ev n c0.1 c0.2 l2 h2) ?_
      cases e2 : asc n l2 with
      | false =>
        simp only [Bool.false_eq_true, if_false]
        exact ev_to hno (by simp [av, e2])
      | true =>
        simp only [if_true]
        by_cases c3 : (l3.length : Int) > 24
        · simp only [c3, decide_true]
          exact ev_to hno (by simp [av, show ¬ l3.length ≤ 24 by omega])
        · simp only [c3, decide_false]
          refine Ev.step (fun k => rfl) ?_
          simp only [spec_AutomatonValid.j0, Bool.false_eq_true, if_false]
          exact ev_to (spec_AutomatonValid_steps c0.1 c0.2 l1 l2 l3 h3) (by simp [av, e1, e2, c0.1, c0.2, show l3.length ≤ 24 by omega])
  · simp only [show decide (1 ≤ n ∧ n ≤ 4) = false by simpa using c0, Bool.false_eq_true, if_false]
    exact ev_to hno (by simp only [av]; rw [show decide (1 ≤ n ∧ n ≤ 4) = false by simpa using c0]; rfl)
theorem bt_nat {s : ByteArray} {i : Nat} (h : i < s.size) : bt s (i : Int) = (s[i].toNat : Int) := by simp [bt, h]
def wordv (s : ByteArray) : Bool := s.data.toList.all (fun c => c == 97 || c == 98) && decide (s.size ≤ 1000)
def wordfrom (s : ByteArray) (i : Nat) : Bool := (s.data.toList.drop i).all (fun c => c == 97 || c == 98) && decide (s.size ≤ 1000)
theorem wordfrom_end (s : ByteArray) : wordfrom s s.size = decide ((s.size : Int) ≤ 1000) := by
  have : s.data.toList.drop s.size = [] := List.drop_eq_nil_of_le (by simp)
  simp only [wordfrom, this, List.all_nil, Bool.true_and]
  by_cases h : s.size ≤ 1000
  · rw [decide_eq_true h, decide_eq_true (by omega)]
  · rw [decide_eq_false h, decide_eq_false (by omega)]
theorem wordfrom_step {s : ByteArray} {i : Nat} (h : i < s.size) : wordfrom s i = ((s[i] == 97 || s[i] == 98) && wordfrom s (i + 1)) := by
  have : s.data.toList.drop i = s[i] :: s.data.toList.drop (i + 1) := List.drop_eq_getElem_cons (by simpa using h)
  simp only [wordfrom, this, List.all_cons, Bool.and_assoc]
theorem byte_is (c : UInt8) (n : Nat) (hn : n < 256) : ((c.toNat : Int) = (n : Int)) ↔ c = UInt8.ofNat n := by
  constructor
  · intro h
    apply UInt8.toNat_inj.1
    have : (UInt8.ofNat n).toNat = n % 256 := UInt8.toNat_ofNat'
    omega
  · intro h
    have : (UInt8.ofNat n).toNat = n % 256 := UInt8.toNat_ofNat'
    rw [h]
    omega
theorem byte97 (c : UInt8) : ((c.toNat : Int) = 97) ↔ c = 97 := byte_is c 97 (by decide)
theorem byte98 (c : UInt8) : ((c.toNat : Int) = 98) ↔ c = 98 := byte_is c 98 (by decide)
def wb (w : ByteArray) (i : Nat) : UInt8 := if h : i < w.size then w[i] else 0
theorem wb_at {w : ByteArray} {i : Nat} (h : i < w.size) : wb w i = w[i] := dif_pos h
/-- The matrix of a letter. -/
def letM (n : Nat) (l : List S51) (b : UInt8) : List Int := if b = 97 then stepmat n ⟨#[97]⟩ l else stepmat n ⟨#[98]⟩ l
def prodTo (n : Nat) (l : List S51) (w : ByteArray) : Nat → List Int
  | 0 => unitm n
  | i + 1 => mulm n (prodTo n l w i) (letM n l (wb w i))
theorem letM_ok {n : Nat} (h1 : 1 ≤ n) (h4 : n ≤ 4) {l : List S51} (hl : ∀ s ∈ l, sOk (n : Int) s = true) (b : UInt8) : Ok n (letM n l b) := by
  unfold letM
  split
  · exact stepmat_ok h1 h4 _ hl
  · exact stepmat_ok h1 h4 _ hl
theorem prodTo_ok {n : Nat} (h1 : 1 ≤ n) (h4 : n ≤ 4) {l : List S51} (hl : ∀ s ∈ l, sOk (n : Int) s = true) (w : ByteArray) : ∀ i, Ok n (prodTo n l w i)
  | 0 => Ok.unit h1 h4
  | i + 1 => (prodTo_ok h1 h4 hl w i).mul (letM_ok h1 h4 hl _)
theorem spec_l4Matrix_ev {n : Nat} (h1 : 1 ≤ n) (h4 : n ≤ 4) (a1 a2 : List Int) {l : List S51} (hl : l.length ≤ 24) (hs : ∀ s ∈ l, sOk (n : Int) s = true) (w : ByteArray) (hw : w.size ≤ 140737488351232) : Ev (fun k => spec_l4Matrix.f k (n : Int) a1 a2 l w) ((n : Int), prodTo n l w w.size) := by
  simp only [spec_l4Matrix.f]
  refine Ev.bind (spec_l2Unit_ev h1 h4) (Ev.bind (spec_l3Matrix_ev h4 a1 a2 l hl hs _) (Ev.bind (spec_l3Matrix_ev h4 a1 a2 l hl hs _) ?_))
  have h := down w.size (P := fun i => Ev (fun k => spec_l4Matrix.l0 k w (w.size : Int) (i : Int) (n : Int) (prodTo n l w i) (n : Int) (stepmat n ⟨#[97]⟩ l) (n : Int) (stepmat n ⟨#[98]⟩ l)) ((n : Int), prodTo n l w w.size)) ?_ ?_ 0 (by omega)
  · simpa only [cast0, prodTo] using h
  · refine Ev.step (fun k => rfl) ?_
    simp only [spec_l4Matrix.l0, if_neg (show ¬ (w.size : Int) < (w.size : Int) by omega)]
    exact Ev.now _
  · intro i hi ih
    have hp := prodTo_ok h1 h4 hs w i
    have ha := stepmat_ok h1 h4 ⟨#[97]⟩ hs
    have hb := stepmat_ok h1 h4 ⟨#[98]⟩ hs
    refine Ev.step (fun k => rfl) ?_
    simp only [spec_l4Matrix.l0, if_pos (show (i : Int) < (w.size : Int) by omega), if_pos (nnc i), bt_nat hi, byte97, w64n (show i < 9223372036854775807 by omega)]
    simp only [prodTo, letM, wb_at hi] at ih
    by_cases c : w[i] = 97
    · simp only [if_pos c] at ih ⊢
      exact Ev.bind (spec_l2Mul_ev h4 hp.len ha.len hp.all ha.all _) ih
    · simp only [if_neg c] at ih ⊢
      exact Ev.bind (spec_l2Mul_ev h4 hp.len hb.len hp.all hb.all _) ih
theorem asc_at {n : Nat} {l : List Int} (h : asc (n : Int) l = true) {j : Nat} (hj : j < l.length) : ∃ q : Nat, q < n ∧ l[j] = (q : Int) ∧ l[j].toNat = q := by
  have h2 := asc_iff.1 h j hj
  rw [rd_nat hj] at h2
  exact ⟨l[j].toNat, by omega, by omega, rfl⟩
def leastF (n : Nat) (p : List Int) (q : Nat) (l2 : List Int) (b : Int) : Int := l2.foldl (fun b f => mn b (ent n p q f.toNat)) b
def leastV (n : Nat) (p l1 l2 : List Int) (b : Int) : Int := l1.foldl (fun b q => leastF n p q.toNat l2 b) b
theorem spec_l4Least_ev {n : Nat} (h4 : n ≤ 4) {l1 l2 : List Int} (l3 : List S51) (ha : asc (n : Int) l1 = true) (hb : asc (n : Int) l2 = true) (h1 : l1.length < 9223372036854775807) (h2 : l2.length < 9223372036854775807) {p : List Int} (hp : p.length = n * n) (m : Int) : Ev (fun k => spec_l4Least.f k (n : Int) l1 l2 l3 m p) (leastV n p l1 l2 1000000) := by
  have hin : ∀ (i : Nat) (hi : i < l1.length), (∀ b : Int, Ev (fun k => spec_l4Least.l0 k b l1 (l1.length : Int) ((i + 1 : Nat) : Int) (n : Int) l1 l2 l3 m p) (leastV n p (l1.drop (i + 1)) l2 b)) → ∀ b : Int, Ev (fun k => spec_l4Least.l1 k b l1[i] l1 (l1.length : Int) (i : Int) l2 (l2.length : Int) 0 (n : Int) l1 l2 l3 m p) (leastV n p (l1.drop (i + 1)) l2 (leastF n p l1[i].toNat l2 b)) := by
    intro i hi ho b
    obtain ⟨q, hq, eq, eqn⟩ := asc_at ha hi
    have h := down l2.length (P := fun j => ∀ b : Int, Ev (fun k => spec_l4Least.l1 k b l1[i] l1 (l1.length : Int) (i : Int) l2 (l2.length : Int) (j : Int) (n : Int) l1 l2 l3 m p) (leastV n p (l1.drop (i + 1)) l2 (leastF n p l1[i].toNat (l2.drop j) b))) ?_ ?_ 0 (by omega) b
    · simpa only [cast0, List.drop_zero] using h
    · intro b
      refine Ev.step (fun k => rfl) ?_
      simp only [spec_l4Least.l1, if_neg (show ¬ (l2.length : Int) < (l2.length : Int) by omega), dropn, leastF, List.foldl_nil, w64n (show i < 9223372036854775807 by omega)]
      exact ho b
    · intro j hj ih b
      obtain ⟨f, hf, ef, efn⟩ := asc_at hb hj
      have hx := idx_lt hq hf
      refine Ev.step (fun k => rfl) ?_
      simp only [spec_l4Least.l1, if_pos (show (j : Int) < (l2.length : Int) by omega), if_pos (nnc j), rd_nat hj, ef, eq, idx_wrap h4 hq hf, if_pos (nnc (q * n + f)), if_pos (show ((q * n + f : Nat) : Int) < (p.length : Int) by omega), w64n (show j < 9223372036854775807 by omega), rd_ent, dropc hj, leastF, List.foldl_cons, Int.toNat_natCast]
      have := ih (mn b (ent n p q f))
      simpa only [leastF, eq, Int.toNat_natCast] using this
  have h := down l1.length (P := fun i => ∀ b : Int, Ev (fun k => spec_l4Least.l0 k b l1 (l1.length : Int) (i : Int) (n : Int) l1 l2 l3 m p) (leastV n p (l1.drop i) l2 b)) ?_ ?_ 0 (by omega) 1000000
  · simpa only [spec_l4Least.f, cast0, List.drop_zero] using h
  · intro b
    refine Ev.step (fun k => rfl) ?_
    simp only [spec_l4Least.l0, if_neg (show ¬ (l1.length : Int) < (l1.length : Int) by omega), dropn, leastV, List.foldl_nil]
    exact Ev.now _
  · intro i hi ih b
    refine Ev.step (fun k => rfl) ?_
    simp only [spec_l4Least.l0, if_pos (show (i : Int) < (l1.length : Int) by omega), if_pos (nnc i), rd_nat hi]
    rw [dropc hi]
    exact hin i hi ih b
def stepV1 (c : List UInt8) (v x : List Int) (s : S51) : List Int := if s.f1.toList = c then x.set s.f0.toNat (mn (rd x s.f0) (wrap64 (s.f3 + rd v s.f2))) else x
def stepV (l : List S51) (c : List UInt8) (v x : List Int) : List Int := l.foldl (stepV1 c v) x
def lastV (n : Nat) (l2 : List Int) : List Int := l2.foldl (fun v q => v.set q.toNat 0) (List.replicate n 1000000)
/-- The least costs to a final, by the last so many letters. -/
def endV (n : Nat) (l2 : List Int) (l : List S51) (w : ByteArray) : Nat → List Int
  | 0 => lastV n l2
  | j + 1 => stepV l (w.extract (w.size - 1 - j) (w.size - 1 - j + 1)).toList (endV n l2 l w j) (List.replicate n 1000000)
theorem stepV1_len (c : List UInt8) (v x : List Int) (s : S51) : (stepV1 c v x s).length = x.length := by
  unfold stepV1
  split <;> simp
theorem stepV_len (l : List S51) (c : List UInt8) (v : List Int) : ∀ x : List Int, (stepV l c v x).length = x.length := by
  induction l with
  | nil => intro x; rfl
  | cons s l ih => intro x; exact (ih _).trans (stepV1_len c v x s)
theorem setZ_len (l2 : List Int) : ∀ v : List Int, (l2.foldl (fun v q => v.set q.toNat 0) v).length = v.length := by
  induction l2 with
  | nil => intro v; rfl
  | cons q l ih => intro v; exact (ih _).trans (by simp)
theorem endV_len (n : Nat) (l2 : List Int) (l : List S51) (w : ByteArray) : ∀ j, (endV n l2 l w j).length = n
  | 0 => (setZ_len _ _).trans (by simp)
  | j + 1 => (stepV_len _ _ _ _).trans (by simp)
theorem rep_eq {n : Nat} (h1 : 1 ≤ n) (h4 : n ≤ 4) : slices_Repeat_int_int.f [1000000] (n : Int) = some (List.replicate n 1000000) := by
  unfold slices_Repeat_int_int.f
  rw [if_pos ⟨rfl, by omega, by omega⟩, Int.toNat_natCast]
  rfl
theorem impl_toEnd_l2 {n : Nat} (h1 : 1 ≤ n) (h4 : n ≤ 4) {l : List S51} (hl : l.length ≤ 24) (hs : ∀ s ∈ l, sOk (n : Int) s = true) {w : ByteArray} (hw : w.size ≤ 1000) {i : Nat} (hi : i < w.size) {v : List Int} (hv : v.length = n) {acc : List (List Int)} (hacc : acc.length < 5864062014805) (a1 a2 : List Int) {r : List (List Int)}
    (hn : Ev (fun k => impl_toEnd.l1 k w (stepV l (w.extract i (i + 1)).toList v (List.replicate n 1000000)) (acc ++ [stepV l (w.extract i (i + 1)).toList v (List.replicate n 1000000)]) (wrap64 ((i : Int) - 1)) (n : Int) a1 a2 l) r) :
    Ev (fun k => impl_toEnd.l2 k w v acc (i : Int) (List.replicate n 1000000) l (l.length : Int) 0 (n : Int) a1 a2 l) r := by
  have h := down l.length (P := fun j => ∀ x : List Int, x.length = n → Ev (fun k => impl_toEnd.l1 k w (stepV (l.drop j) (w.extract i (i + 1)).toList v x) (acc ++ [stepV (l.drop j) (w.extract i (i + 1)).toList v x]) (wrap64 ((i : Int) - 1)) (n : Int) a1 a2 l) r → Ev (fun k => impl_toEnd.l2 k w v acc (i : Int) x l (l.length : Int) (j : Int) (n : Int) a1 a2 l) r) ?_ ?_ 0 (by omega) (List.replicate n 1000000) (by simp) (by simpa only [List.drop_zero] using hn)
  · simpa only [cast0] using h
  · intro x hx ho
    refine Ev.step (fun k => rfl) ?_
    simp only [impl_toEnd.l2, if_neg (show ¬ (l.length : Int) < (l.length : Int) by omega), if_pos hacc]
    simpa only [dropn, stepV, List.foldl_nil] using ho
  · intro j hj ih x hx ho
    obtain ⟨⟨b1, b2, b3, b4, b5, b6⟩, -⟩ := sOk_iff.1 (hs _ (List.getElem_mem hj))
    rw [dropc hj] at ho
    refine Ev.step (fun k => rfl) ?_
    simp only [impl_toEnd.l2, if_pos (show (j : Int) < (l.length : Int) by omega), if_pos (nnc j), if_pos (nnc i), rdI_nat hj, w64n (show i < 9223372036854775807 by omega), w64n (show j < 9223372036854775807 by omega), if_pos (show (i : Int) ≤ ((i + 1 : Nat) : Int) by omega), if_pos (show ((i + 1 : Nat) : Int) ≤ (w.size : Int) by omega), Int.toNat_natCast, if_pos b1, if_pos b3, hx, hv, if_pos b2, if_pos b4]
    have e : stepV (l[j] :: l.drop (j + 1)) (w.extract i (i + 1)).toList v x = stepV (l.drop (j + 1)) (w.extract i (i + 1)).toList v (stepV1 (w.extract i (i + 1)).toList v x l[j]) := rfl
    rw [e] at ho
    have hx2 := (stepV1_len (w.extract i (i + 1)).toList v x l[j]).trans hx
    have := ih _ hx2 ho
    unfold stepV1 at this
    by_cases c : l[j].f1.toList = (w.extract i (i + 1)).toList
    · simp only [if_pos c] at this ⊢; exact this
    · simp only [if_neg c] at this ⊢; exact this
theorem impl_toEnd_l1 {n : Nat} (h1 : 1 ≤ n) (h4 : n ≤ 4) (a1 a2 : List Int) {l : List S51} (hl : l.length ≤ 24) (hs : ∀ s ∈ l, sOk (n : Int) s = true) {w : ByteArray} (hw : w.size ≤ 1000) :
    Ev (fun k => impl_toEnd.l1 k w (endV n a2 l w 0) [endV n a2 l w 0] (wrap64 ((w.size : Int) - 1)) (n : Int) a1 a2 l) ((List.range (w.size + 1)).map (endV n a2 l w)) := by
  have h := down w.size (P := fun j => Ev (fun k => impl_toEnd.l1 k w (endV n a2 l w j) ((List.range (j + 1)).map (endV n a2 l w)) ((w.size : Int) - 1 - (j : Int)) (n : Int) a1 a2 l) ((List.range (w.size + 1)).map (endV n a2 l w))) ?_ ?_ 0 (by omega)
  · rw [w64 (by omega) (by omega)]
    simpa using h
  · refine Ev.step (fun k => rfl) ?_
    simp only [impl_toEnd.l1, if_neg (show ¬ (w.size : Int) - 1 - (w.size : Int) ≥ 0 by omega)]
    exact Ev.now _
  · intro j hj ih
    obtain ⟨i, hi⟩ : ∃ i : Nat, i = w.size - 1 - j := ⟨_, rfl⟩
    have e1 : (w.size : Int) - 1 - (j : Int) = (i : Int) := by omega
    refine Ev.step (fun k => rfl) ?_
    rw [e1]
    simp only [impl_toEnd.l1, if_pos (show (i : Int) ≥ 0 by omega), rep_eq h1 h4, Option.bind_some]
    refine impl_toEnd_l2 h1 h4 hl hs hw (show i < w.size by omega) (endV_len _ _ _ _ _) (by simp; omega) a1 a2 ?_
    have e2 : stepV l (w.extract i (i + 1)).toList (endV n a2 l w j) (List.replicate n 1000000) = endV n a2 l w (j + 1) := by rw [endV, ← hi]
    rw [e2, w64 (by omega) (by omega), show (i : Int) - 1 = (w.size : Int) - 1 - ((j + 1 : Nat) : Int) by omega]
    have e3 : (List.range (j + 1)).map (endV n a2 l w) ++ [endV n a2 l w (j + 1)] = (List.range (j + 1 + 1)).map (endV n a2 l w) := by rw [List.range_succ (n := j + 1)]; simp
    rw [e3]
    exact ih
theorem impl_toEnd_ev {n : Nat} (h1 : 1 ≤ n) (h4 : n ≤ 4) (a1 : List Int) {a2 : List Int} (ha : asc (n : Int) a2 = true) (h2 : a2.length < 9223372036854775807) {l : List S51} (hl : l.length ≤ 24) (hs : ∀ s ∈ l, sOk (n : Int) s = true) {w : ByteArray} (hw : w.size ≤ 1000) :
    Ev (fun k => impl_toEnd.f k (n : Int) a1 a2 l w) ((List.range (w.size + 1)).map (endV n a2 l w)) := by
  simp only [impl_toEnd.f, rep_eq h1 h4, Option.bind_some]
  have h := down a2.length (P := fun j => ∀ v : List Int, v.length = n → (a2.drop j).foldl (fun v q => v.set q.toNat 0) v = endV n a2 l w 0 → Ev (fun k => impl_toEnd.l0 k w v a2 (a2.length : Int) (j : Int) (n : Int) a1 a2 l) ((List.range (w.size + 1)).map (endV n a2 l w))) ?_ ?_ 0 (by omega) (List.replicate n 1000000) (by simp) (by simp only [List.drop_zero]; rfl)
  · simpa only [cast0] using h
  · intro v hv e
    rw [dropn, List.foldl_nil] at e
    subst e
    refine Ev.step (fun k => rfl) ?_
    simp only [impl_toEnd.l0, if_neg (show ¬ (a2.length : Int) < (a2.length : Int) by omega)]
    exact impl_toEnd_l1 h1 h4 a1 a2 hl hs hw
  · intro j hj ih v hv e
    obtain ⟨q, hq, eq, eqn⟩ := asc_at ha hj
    rw [dropc hj, List.foldl_cons, eqn] at e
    refine Ev.step (fun k => rfl) ?_
    simp only [impl_toEnd.l0, if_pos (show (j : Int) < (a2.length : Int) by omega), if_pos (nnc j), rd_nat hj, eq, if_pos (nnc q), hv, if_pos (ltc hq), Int.toNat_natCast, w64n (show j < 9223372036854775807 by omega)]
    exact ih _ (by simpa using hv) e
theorem rd_set {x : List Int} {a q : Nat} (ha : a < x.length) (y : Int) : rd (x.set a y) (q : Int) = if a = q then y else rd x (q : Int) := by
  simp only [rd, Int.toNat_natCast, List.getD_eq_getElem?_getD, List.getElem?_set]
  by_cases e : a = q
  · subst e; simp [ha]
  · simp [e]
/-- What a step of a letter adds. -/
theorem stepV_le {n : Nat} {c : List UInt8} {v : List Int} (hv : ∀ t : Nat, t < n → 0 ≤ rd v (t : Int) ∧ rd v (t : Int) ≤ 1000000) {q : Nat} (hq : q < n) (y : Int) : ∀ (l : List S51) (x : List Int), (∀ s ∈ l, sOk (n : Int) s = true) → x.length = n →
    (y ≤ rd (stepV l c v x) (q : Int) ↔ y ≤ rd x (q : Int) ∧ ∀ s ∈ l, s.f1.toList = c → s.f0 = (q : Int) → y ≤ s.f3 + rd v s.f2) := by
  intro l
  induction l with
  | nil => intro x _ _; simp [stepV]
  | cons s l ih =>
    intro x hs hx
    obtain ⟨⟨b1, b2, b3, b4, b5, b6⟩, -⟩ := sOk_iff.1 (hs s (List.mem_cons_self ..))
    have e : stepV (s :: l) c v x = stepV l c v (stepV1 c v x s) := rfl
    rw [e, ih (stepV1 c v x s) (fun s hh => hs s (List.mem_cons_of_mem _ hh)) ((stepV1_len c v x s).trans hx)]
    obtain ⟨a, ha⟩ : ∃ a : Nat, s.f0 = (a : Int) := ⟨s.f0.toNat, by omega⟩
    obtain ⟨t, ht⟩ : ∃ t : Nat, s.f2 = (t : Int) := ⟨s.f2.toNat, by omega⟩
    have hvt := hv t (by omega)
    rw [← ht] at hvt
    have e1 : (y ≤ rd (stepV1 c v x s) (q : Int)) ↔ (y ≤ rd x (q : Int) ∧ (s.f1.toList = c → s.f0 = (q : Int) → y ≤ s.f3 + rd v s.f2)) := by
      unfold stepV1
      by_cases hc : s.f1.toList = c
      · rw [if_pos hc, ha, Int.toNat_natCast, rd_set (by omega), mn_eq, w64 (by omega) (by omega)]
        by_cases h : a = q
        · subst h
          rw [if_pos rfl]
          constructor
          · intro h; exact ⟨by omega, fun _ _ => by omega⟩
          · rintro ⟨h1, h2⟩
            have := h2 hc rfl
            omega
        · rw [if_neg h]
          constructor
          · intro h1; exact ⟨h1, fun _ h2 => absurd (by omega) h⟩
          · exact fun h1 => h1.1
      · rw [if_neg hc]
        constructor
        · intro h1; exact ⟨h1, fun h2 => absurd h2 hc⟩
        · exact fun h1 => h1.1
    rw [e1]
    constructor
    · rintro ⟨⟨h1, h2⟩, h3⟩
      refine ⟨h1, fun s' hs' => ?_⟩
      rcases List.mem_cons.1 hs' with rfl | hh
      · exact h2
      · exact h3 s' hh
    · rintro ⟨h1, h2⟩
      exact ⟨⟨h1, h2 s (List.mem_cons_self ..)⟩, fun s' hh => h2 s' (List.mem_cons_of_mem _ hh)⟩
theorem rd_rep {n q : Nat} (hq : q < n) : rd (List.replicate n (1000000 : Int)) (q : Int) = 1000000 := by
  simp [rd, List.getD_eq_getElem?_getD, List.getElem?_replicate, hq]
theorem stepV_bd {n : Nat} {c : List UInt8} {v : List Int} (hv : ∀ t : Nat, t < n → 0 ≤ rd v (t : Int) ∧ rd v (t : Int) ≤ 1000000) {l : List S51} (hs : ∀ s ∈ l, sOk (n : Int) s = true) {q : Nat} (hq : q < n) : 0 ≤ rd (stepV l c v (List.replicate n 1000000)) (q : Int) ∧ rd (stepV l c v (List.replicate n 1000000)) (q : Int) ≤ 1000000 := by
  have h := fun y => stepV_le (c := c) hv hq y l (List.replicate n 1000000) hs (by simp)
  rw [rd_rep hq] at h
  refine ⟨(h 0).2 ⟨by omega, fun s hh _ _ => ?_⟩, ((h _).1 (by omega)).1⟩
  obtain ⟨⟨b1, b2, b3, b4, b5, b6⟩, -⟩ := sOk_iff.1 (hs s hh)
  obtain ⟨t, ht⟩ : ∃ t : Nat, s.f2 = (t : Int) := ⟨s.f2.toNat, by omega⟩
  have := hv t (by omega)
  rw [ht]
  omega
theorem stepV_eq {n : Nat} (h4 : n ≤ 4) {c : ByteArray} {v : List Int} (hv : ∀ t : Nat, t < n → 0 ≤ rd v (t : Int) ∧ rd v (t : Int) ≤ 1000000) {l : List S51} (hl : stepsOk (n : Int) l = true) {q : Nat} (hq : q < n) : rd (stepV l c.toList v (List.replicate n 1000000)) (q : Int) = vmul n (stepmat n c l) (fun t => rd v (t : Int)) q := by
  apply eq_le
  intro y
  obtain ⟨m1, m2, -⟩ := stepmat_at h4 hl c
  rw [stepV_le hv hq y l (List.replicate n 1000000) (fun s hh => stepsOk_mem hl hh) (by simp), rd_rep hq, vmul, le_dot]
  refine and_congr_right fun hy => ?_
  have hat : ∀ (s : S51), s ∈ l → ∀ a t : Nat, s.f0 = (a : Int) → s.f2 = (t : Int) → sIdx n s = a * n + t := fun s _ a t e1 e2 => by rw [sIdx, e1, e2, ← Int.natCast_mul, ← Int.natCast_add, Int.toNat_natCast]
  constructor
  · intro h t ht
    by_cases hx : ∃ s ∈ l, hasC c s = true ∧ sIdx n s = q * n + t
    · obtain ⟨s, hh, hc, e⟩ := hx
      obtain ⟨⟨b1, b2, b3, b4, b5, b6⟩, -⟩ := sOk_iff.1 (stepsOk_mem hl hh)
      obtain ⟨a, ha⟩ : ∃ a : Nat, s.f0 = (a : Int) := ⟨s.f0.toNat, by omega⟩
      obtain ⟨t', ht'⟩ : ∃ t : Nat, s.f2 = (t : Int) := ⟨s.f2.toNat, by omega⟩
      have e2 := hat s hh a t' ha ht'
      have d := div_idx (n := n) (i := a) (k := t') (by omega)
      have d' := div_idx (n := n) (i := q) (k := t) ht
      rw [← e2, e] at d
      have ea : a = q := d.1.symm.trans d'.1
      have et : t' = t := d.2.symm.trans d'.2
      subst ea; subst et
      have hm := m1 s hh hc
      rw [e] at hm
      have he : ent n (stepmat n c l) a t' = s.f3 := by rw [ent, List.getD_eq_getElem?_getD, hm]; rfl
      have := h s hh (of_decide_eq_true hc) ha
      rw [ht'] at this
      simp only [he]
      unfold addc
      omega
    · have hm := m2 (q * n + t) (idx_lt hq ht) fun s hh hc e => hx ⟨s, hh, hc, e⟩
      have he : ent n (stepmat n c l) q t = 1000000 := by rw [ent, List.getD_eq_getElem?_getD, hm]; rfl
      have := hv t ht
      simp only [he]
      unfold addc
      omega
  · intro h s hh hc hf
    obtain ⟨⟨b1, b2, b3, b4, b5, b6⟩, -⟩ := sOk_iff.1 (stepsOk_mem hl hh)
    obtain ⟨t, ht⟩ : ∃ t : Nat, s.f2 = (t : Int) := ⟨s.f2.toNat, by omega⟩
    have hm := m1 s hh (decide_eq_true hc)
    rw [hat s hh q t hf ht] at hm
    have he : ent n (stepmat n c l) q t = s.f3 := by rw [ent, List.getD_eq_getElem?_getD, hm]; rfl
    have := h t (by omega)
    simp only [he] at this
    unfold addc at this
    rw [ht]
    omega
theorem ext_one {w : ByteArray} {i : Nat} (hi : i < w.size) : w.extract i (i + 1) = ⟨#[w[i]]⟩ := by
  apply ByteArray.ext
  rw [ByteArray.data_extract]
  have hi' : i < w.data.size := hi
  apply Array.ext
  · simp; omega
  · intro j h1 h2
    simp at h2
    subst h2
    simp
    rfl
theorem wordv_at {w : ByteArray} (h : wordv w = true) {i : Nat} (hi : i < w.size) : w[i] = 97 ∨ w[i] = 98 := by
  have h1 := (Bool.and_eq_true_iff.1 h).1
  have := List.all_eq_true.1 h1 w[i] (Array.getElem_mem_toList hi)
  simpa using this
theorem letM_eq {n : Nat} {w : ByteArray} (h : wordv w = true) {i : Nat} (hi : i < w.size) (l : List S51) : letM n l (wb w i) = stepmat n (w.extract i (i + 1)) l := by
  rw [ext_one hi, letM, wb_at hi]
  rcases wordv_at h hi with e | e <;> simp [e]
theorem setZ_at {n : Nat} {q : Nat} (hq : q < n) : ∀ (l : List Int) (v : List Int), (∀ x ∈ l, 0 ≤ x ∧ x < (n : Int)) → v.length = n → rd (l.foldl (fun v q => v.set q.toNat 0) v) (q : Int) = if (q : Int) ∈ l then 0 else rd v (q : Int) := by
  intro l
  induction l with
  | nil => intro v _ _; simp
  | cons a l ih =>
    intro v h hv
    have ha := h a (List.mem_cons_self ..)
    rw [List.foldl_cons, ih _ (fun x hx => h x (List.mem_cons_of_mem _ hx)) (by simpa using hv), rd_set (by omega)]
    by_cases e : (q : Int) ∈ l
    · rw [if_pos e, if_pos (List.mem_cons_of_mem _ e)]
    · rw [if_neg e]
      by_cases e2 : a.toNat = q
      · rw [if_pos e2, if_pos (by rw [show (q : Int) = a by omega]; exact List.mem_cons_self ..)]
      · rw [if_neg e2, if_neg (fun hm => (List.mem_cons.1 hm).elim (fun h1 => by omega) e)]
theorem asc_mem {n : Nat} {l : List Int} (h : asc (n : Int) l = true) : ∀ x ∈ l, 0 ≤ x ∧ x < (n : Int) := by
  intro x hx
  obtain ⟨j, hj, rfl⟩ := List.getElem_of_mem hx
  obtain ⟨q, hq, e, -⟩ := asc_at h hj
  omega
theorem lastV_at {n : Nat} {l2 : List Int} (h : asc (n : Int) l2 = true) {q : Nat} (hq : q < n) : rd (lastV n l2) (q : Int) = if (q : Int) ∈ l2 then 0 else 1000000 := by
  rw [lastV, setZ_at hq l2 _ (asc_mem h) (by simp), rd_rep hq]
theorem endV_bd {n : Nat} {l2 : List Int} (h : asc (n : Int) l2 = true) {l : List S51} (hs : ∀ s ∈ l, sOk (n : Int) s = true) (w : ByteArray) : ∀ (j t : Nat), t < n → 0 ≤ rd (endV n l2 l w j) (t : Int) ∧ rd (endV n l2 l w j) (t : Int) ≤ 1000000
  | 0, t, ht => by rw [endV, lastV_at h ht]; split <;> omega
  | j + 1, t, ht => stepV_bd (endV_bd h hs w j) hs ht
theorem endV_next {n : Nat} (h4 : n ≤ 4) {l2 : List Int} (h : asc (n : Int) l2 = true) {l : List S51} (hl : stepsOk (n : Int) l = true) {w : ByteArray} (hw : wordv w = true) {j : Nat} (hj : j < w.size) {q : Nat} (hq : q < n) : rd (endV n l2 l w (j + 1)) (q : Int) = vmul n (letM n l (wb w (w.size - 1 - j))) (fun t => rd (endV n l2 l w j) (t : Int)) q := by
  rw [letM_eq hw (by omega), endV, stepV_eq h4 (endV_bd h (fun s hh => stepsOk_mem hl hh) w j) hl hq]
theorem prod_end {n : Nat} (h1 : 1 ≤ n) (h4 : n ≤ 4) {l2 : List Int} (h : asc (n : Int) l2 = true) {l : List S51} (hl : stepsOk (n : Int) l = true) {w : ByteArray} (hw : wordv w = true) {q : Nat} (hq : q < n) : ∀ j, j ≤ w.size → vmul n (prodTo n l w w.size) (fun t => rd (endV n l2 l w 0) (t : Int)) q = vmul n (prodTo n l w (w.size - j)) (fun t => rd (endV n l2 l w j) (t : Int)) q
  | 0, _ => rfl
  | j + 1, hj => by
    have hs : ∀ s ∈ l, sOk (n : Int) s = true := fun s hh => stepsOk_mem hl hh
    rw [prod_end h1 h4 h hl hw hq j (by omega), show w.size - j = (w.size - (j + 1)) + 1 by omega, prodTo, vmul_mul (prodTo_ok h1 h4 hs w _) (letM_ok h1 h4 hs _) (fun t ht => (endV_bd h hs w j t ht).1) hq]
    refine vmul_congr (fun t ht => ?_) q
    rw [endV_next h4 h hl hw (by omega) ht, show w.size - (j + 1) = w.size - 1 - j by omega]
theorem end_eq {n : Nat} (h1 : 1 ≤ n) (h4 : n ≤ 4) {l2 : List Int} (h : asc (n : Int) l2 = true) {l : List S51} (hl : stepsOk (n : Int) l = true) {w : ByteArray} (hw : wordv w = true) {q : Nat} (hq : q < n) : rd (endV n l2 l w w.size) (q : Int) = vmul n (prodTo n l w w.size) (fun t => rd (endV n l2 l w 0) (t : Int)) q := by
  rw [prod_end h1 h4 h hl hw hq w.size (Nat.le_refl _), Nat.sub_self, prodTo, vmul_unit (endV_bd h (fun s hh => stepsOk_mem hl hh) w w.size) hq]
theorem impl_WordValid_ev (s : ByteArray) (hs : s.size ≤ 140737488351232) : Ev (fun k => impl_WordValid.f k s) (wordv s) := by
  have h := down s.size (P := fun i => Ev (fun k => impl_WordValid.l0 k s (s.size : Int) (i : Int)) (wordfrom s i)) ?_ ?_ 0 (by omega)
  · simpa only [impl_WordValid.f, wordfrom, wordv, List.drop_zero, cast0] using h
  · refine Ev.step (fun k => rfl) ?_
    simp only [impl_WordValid.l0, if_neg (show ¬ (s.size : Int) < (s.size : Int) by omega), wordfrom_end]
    exact Ev.now _
  · intro i hi ih
    refine Ev.step (fun k => rfl) ?_
    simp only [impl_WordValid.l0, if_pos (show (i : Int) < (s.size : Int) by omega), if_pos (show (0 : Int) ≤ (i : Int) by omega), bt_nat hi, w64n (show i < 9223372036854775807 by omega), wordfrom_step hi, byte97, byte98]
    by_cases h1 : s[i] = 97
    · simpa [h1] using ih
    · by_cases h2 : s[i] = 98
      · simpa [h2] using ih
      · simp only [if_neg h1, if_neg h2]
        exact ev_to (Ev.now false) (by rw [beq_eq_false_iff_ne.2 h1, beq_eq_false_iff_ne.2 h2]; rfl)
theorem impl_statesOk_ev (n : Int) (l : List Int) (hl : l.length < 9223372036854775807) : Ev (fun k => impl_statesOk.f k l n) (asc n l) := by
  have h := down l.length (P := fun i => Ev (fun k => impl_statesOk.l0 k l n l (l.length : Int) (i : Int)) (allFrom (ascAt n l) l.length i)) ?_ ?_ 0 (by omega)
  · simpa only [impl_statesOk.f, asc, cast0] using h
  · refine Ev.step (fun k => rfl) ?_
    simp only [impl_statesOk.l0, if_neg (show ¬ (l.length : Int) < (l.length : Int) by omega), allFrom_end]
    exact Ev.now _
  · intro i hi ih
    refine Ev.step (fun k => rfl) ?_
    simp only [impl_statesOk.l0, if_pos (show (i : Int) < (l.length : Int) by omega), if_pos (nnc i), w64n (show i < 9223372036854775807 by omega)]
    rw [allFrom_step hi]
    by_cases ha : rd l i < 0
    · simp only [if_pos ha]
      exact ev_to (Ev.now _) (by simp [ascAt, show ¬ 0 ≤ rd l i by omega])
    · simp only [if_neg ha]
      by_cases hb : rd l i ≥ n
      · simp only [if_pos hb]
        exact ev_to (Ev.now _) (by simp [ascAt, show ¬ rd l i < n by omega])
      · simp only [if_neg hb]
        by_cases h0 : i = 0
        · subst h0
          simp only [cast0, if_neg (show ¬ (0 : Int) > 0 by omega)]
          exact ev_to ih (by simp [ascAt, show (0 : Int) ≤ rd l 0 by simp at ha; omega, show rd l 0 < n by simp at hb; omega])
        · simp only [if_pos (show (i : Int) > 0 by omega), pred_w (show 0 < i by omega) (show i < 9223372036854775807 by omega), if_pos (nnc (i - 1)), if_pos (show ((i - 1 : Nat) : Int) < (l.length : Int) by omega)]
          by_cases hc : rd l ((i - 1 : Nat) : Int) ≥ rd l i
          · simp only [if_pos hc]
            exact ev_to (Ev.now _) (by simp [ascAt, h0, show ¬ rd l ((i - 1 : Nat) : Int) < rd l i by omega])
          · simp only [if_neg hc]
            exact ev_to ih (by simp [ascAt, show 0 ≤ rd l i by omega, show rd l i < n by omega, show rd l ((i - 1 : Nat) : Int) < rd l i by omega])
theorem cmp_bytes : ∀ a b : List UInt8, Lib.compareBytes a b = if a = b then 0 else if Op.bytesLess a b then -1 else 1
  | [], [] => by simp [Lib.compareBytes]
  | [], _ :: _ => by simp [Lib.compareBytes, Op.bytesLess]
  | _ :: _, [] => by simp [Lib.compareBytes, Op.bytesLess]
  | x :: a, y :: b => by
    have ih := cmp_bytes a b
    simp only [Lib.compareBytes, Op.bytesLess]
    by_cases h1 : x < y
    · have hne : x ≠ y := fun e => by subst e; exact absurd h1 (UInt8.lt_irrefl x)
      simp [h1, hne]
    · by_cases h2 : y < x
      · have hne : x ≠ y := fun e => by subst e; exact absurd h2 (UInt8.lt_irrefl x)
        simp [h1, h2, hne]
      · have e : x = y := UInt8.le_antisymm (UInt8.not_lt.1 h2) (UInt8.not_lt.1 h1)
        subst e
        simp [h1, ih]
def cmpI (a b : Int) : Int := if a < b then -1 else if b < a then 1 else 0
theorem cmp_Compare_eq (a b : Int) : cmp_Compare_int.f a b = some (cmpI a b) := by
  simp only [cmp_Compare_int.f, cmp_isNaN_int.f, Option.bind_some, bne_self_eq_false, Bool.false_eq_true, if_false, cmpI]
  split
  · rfl
  · split <;> rfl
def ordS (s t : S51) : Int := if cmpI s.f0 t.f0 ≠ 0 then cmpI s.f0 t.f0 else if Lib.compareBytes s.f1.data.toList t.f1.data.toList ≠ 0 then Lib.compareBytes s.f1.data.toList t.f1.data.toList else cmpI s.f2 t.f2
theorem cmp_Or_ev (a b c : Int) : Ev (fun k => cmp_Or_int.f k [a, b, c]) (if a ≠ 0 then a else if b ≠ 0 then b else c) := by
  simp only [cmp_Or_int.f]
  refine Ev.step (fun k => rfl) ?_
  simp only [cmp_Or_int.l0, List.length_cons, List.length_nil, show ((0 + 1 + 1 + 1 : Nat) : Int) = 3 from rfl, if_pos (show (0 : Int) < 3 by omega), if_pos (show (0 : Int) ≤ 0 by omega), show rd [a, b, c] 0 = a from rfl, show wrap64 (0 + 1) = 1 by rw [w64 (by omega) (by omega)]; rfl]
  by_cases ha : a = 0
  · simp only [if_pos ha, ne_eq, ha, not_true_eq_false, if_false]
    refine Ev.step (fun k => rfl) ?_
    simp only [cmp_Or_int.l0, List.length_cons, List.length_nil, show ((0 + 1 + 1 + 1 : Nat) : Int) = 3 from rfl, if_pos (show (1 : Int) < 3 by omega), if_pos (show (0 : Int) ≤ 1 by omega), show rd [0, b, c] 1 = b from rfl, show wrap64 (1 + 1) = 2 by rw [w64 (by omega) (by omega)]; rfl]
    by_cases hb : b = 0
    · simp only [if_pos hb, ne_eq, hb, not_true_eq_false, if_false]
      refine Ev.step (fun k => rfl) ?_
      simp only [cmp_Or_int.l0, List.length_cons, List.length_nil, show ((0 + 1 + 1 + 1 : Nat) : Int) = 3 from rfl, if_pos (show (2 : Int) < 3 by omega), if_pos (show (0 : Int) ≤ 2 by omega), show rd [0, 0, c] 2 = c from rfl, show wrap64 (2 + 1) = 3 by rw [w64 (by omega) (by omega)]; rfl]
      by_cases hc : c = 0
      · simp only [if_pos hc]
        refine Ev.step (fun k => rfl) ?_
        simp only [cmp_Or_int.l0, List.length_cons, List.length_nil, show ((0 + 1 + 1 + 1 : Nat) : Int) = 3 from rfl, if_neg (show ¬ (3 : Int) < 3 by omega)]
        exact ev_to (Ev.now _) hc.symm
      · simp only [if_neg hc]
        exact Ev.now _
    · simp only [if_neg hb, ne_eq, hb, not_false_eq_true, if_true]
      exact Ev.now _
  · simp only [if_neg ha, ne_eq, ha, not_false_eq_true, if_true]
    exact Ev.now _
theorem impl_stepOrder_ev (s t : S51) : Ev (fun k => impl_stepOrder.f k s.f0 s.f1 s.f2 s.f3 t.f0 t.f1 t.f2 t.f3) (ordS s t) := by
  simp only [impl_stepOrder.f, cmp_Compare_eq, strings_Compare.f, Option.bind_some]
  exact Ev.bind (cmp_Or_ev _ _ _) (Ev.now _)
theorem ordS_lt (s t : S51) : (ordS s t < 0) = (sLt s t = true) := by
  simp only [ordS, sLt, cmp_bytes, cmpI, Lib.toList_data]
  by_cases h0 : s.f0 = t.f0
  · rw [h0]
    simp only [Int.lt_irrefl, if_false, ne_eq, not_true_eq_false, if_true]
    by_cases h1 : s.f1.data.toList = t.f1.data.toList
    · simp only [if_pos h1, not_true_eq_false, if_false, decide_eq_true_eq]
      apply propext
      constructor
      · intro h
        split at h
        · assumption
        · split at h <;> omega
      · intro h
        rw [if_pos h]
        omega
    · simp only [if_neg h1]
      cases hb : Op.bytesLess s.f1.data.toList t.f1.data.toList <;> simp
  · simp only [if_neg h0]
    by_cases h1 : s.f0 < t.f0
    · simp [h1]
    · simp [h1, show t.f0 < s.f0 by omega]
theorem impl_AutomatonValid_steps {n : Int} (l1 l2 : List Int) (l3 : List S51) (h3 : l3.length < 9223372036854775807) : Ev (fun k => impl_AutomatonValid.l0 k l3 (l3.length : Int) 0 n l1 l2 l3) (stepsOk n l3) := by
  have h := down l3.length (P := fun i => Ev (fun k => impl_AutomatonValid.l0 k l3 (l3.length : Int) (i : Int) n l1 l2 l3) (allFrom (sAt n l3) l3.length i)) ?_ ?_ 0 (by omega)
  · simpa only [stepsOk, cast0] using h
  · refine Ev.step (fun k => rfl) ?_
    simp only [impl_AutomatonValid.l0, if_neg (show ¬ (l3.length : Int) < (l3.length : Int) by omega), allFrom_end]
    exact Ev.now _
  · intro i hi ih
    have hno : sOk n (rd_T51 l3 (i : Int)) = false → (sAt n l3 i && allFrom (sAt n l3) l3.length (i + 1)) = false := fun e => by simp [sAt, e]
    have hlast : sOk n (rd_T51 l3 (i : Int)) = true → Ev (fun k => if (i : Int) > 0 then (if 0 ≤ wrap64 ((i : Int) - 1) then (if wrap64 ((i : Int) - 1) < (l3.length : Int) then ((impl_stepOrder.f k (rd_T51 l3 (wrap64 ((i : Int) - 1))).f0 (rd_T51 l3 (wrap64 ((i : Int) - 1))).f1 (rd_T51 l3 (wrap64 ((i : Int) - 1))).f2 (rd_T51 l3 (wrap64 ((i : Int) - 1))).f3 (rd_T51 l3 (i : Int)).f0 (rd_T51 l3 (i : Int)).f1 (rd_T51 l3 (i : Int)).f2 (rd_T51 l3 (i : Int)).f3).bind fun t => if t ≥ 0 then some false else impl_AutomatonValid.l0 k l3 (l3.length : Int) ((i + 1 : Nat) : Int) n l1 l2 l3) else none) else none) else impl_AutomatonValid.l0 k l3 (l3.length : Int) ((i + 1 : Nat) : Int) n l1 l2 l3) (sAt n l3 i && allFrom (sAt n l3) l3.length (i + 1)) := by
      intro hs
      by_cases h0 : i = 0
      · subst h0
        simp only [cast0, if_neg (show ¬ (0 : Int) > 0 by omega)]
        exact ev_to ih (by simp only [cast0] at hs; simp [sAt, hs])
      · simp only [if_pos (show (i : Int) > 0 by omega), pred_w (show 0 < i by omega) (show i < 9223372036854775807 by omega), if_pos (nnc (i - 1)), if_pos (show ((i - 1 : Nat) : Int) < (l3.length : Int) by omega)]
        refine Ev.bind (impl_stepOrder_ev _ _) ?_
        have ho := ordS_lt (rd_T51 l3 ((i - 1 : Nat) : Int)) (rd_T51 l3 (i : Int))
        cases hb : sLt (rd_T51 l3 ((i - 1 : Nat) : Int)) (rd_T51 l3 (i : Int)) with
        | false =>
          rw [hb] at ho
          simp only [if_pos (show ordS (rd_T51 l3 ((i - 1 : Nat) : Int)) (rd_T51 l3 (i : Int)) ≥ 0 by simp at ho; omega)]
          exact ev_to (Ev.now _) (by simp [sAt, h0, hb])
        | true =>
          rw [hb] at ho
          simp only [eq_self_iff_true, eq_iff_iff, iff_true] at ho
          simp only [if_neg (show ¬ ordS (rd_T51 l3 ((i - 1 : Nat) : Int)) (rd_T51 l3 (i : Int)) ≥ 0 by omega)]
          exact ev_to ih (by simp [sAt, hs, hb])
    refine Ev.step (fun k => rfl) ?_
    simp only [impl_AutomatonValid.l0, if_pos (show (i : Int) < (l3.length : Int) by omega), if_pos (nnc i), w64n (show i < 9223372036854775807 by omega)]
    rw [allFrom_step hi]
    by_cases c0 : (rd_T51 l3 (i : Int)).f0 < 0
    · simp only [if_pos c0]
      exact ev_to (Ev.now _) (hno (by simp [sOk]; omega)).symm
    simp only [if_neg c0]
    by_cases c1 : (rd_T51 l3 (i : Int)).f0 ≥ n
    · simp only [if_pos c1]
      exact ev_to (Ev.now _) (hno (by simp [sOk]; omega)).symm
    simp only [if_neg c1]
    by_cases c2 : (rd_T51 l3 (i : Int)).f2 < 0
    · simp only [if_pos c2]
      exact ev_to (Ev.now _) (hno (by simp [sOk]; omega)).symm
    simp only [if_neg c2]
    by_cases c3 : (rd_T51 l3 (i : Int)).f2 ≥ n
    · simp only [if_pos c3]
      exact ev_to (Ev.now _) (hno (by simp [sOk]; omega)).symm
    simp only [if_neg c3]
    have hcost : ∀ hl : (sA (rd_T51 l3 (i : Int)).f1 || sB (rd_T51 l3 (i : Int)).f1) = true, ∀ {g : Nat → Option Bool}, (sOk n (rd_T51 l3 (i : Int)) = true → Ev g (sAt n l3 i && allFrom (sAt n l3) l3.length (i + 1))) → Ev (fun k => if (rd_T51 l3 (i : Int)).f3 < 0 then some false else if (rd_T51 l3 (i : Int)).f3 > 3 then some false else g k) (sAt n l3 i && allFrom (sAt n l3) l3.length (i + 1)) := by
      intro hl g hg
      by_cases c4 : (rd_T51 l3 (i : Int)).f3 < 0
      · simp only [if_pos c4]
        exact ev_to (Ev.now _) (hno (by simp [sOk]; omega)).symm
      simp only [if_neg c4]
      by_cases c5 : (rd_T51 l3 (i : Int)).f3 > 3
      · simp only [if_pos c5]
        exact ev_to (Ev.now _) (hno (by simp [sOk]; omega)).symm
      simp only [if_neg c5]
      refine hg ?_
      simp only [sOk, hl, Bool.and_true, decide_eq_true_eq]
      omega
    by_cases ca : (rd_T51 l3 (i : Int)).f1.toList = [97]
    · simp only [if_pos ca]
      exact hcost (by simp [sA, ca]) hlast
    · simp only [if_neg ca]
      by_cases cb : (rd_T51 l3 (i : Int)).f1.toList = [98]
      · simp only [if_pos cb]
        exact hcost (by simp [sB, cb]) hlast
      · simp only [if_neg cb]
        exact ev_to (Ev.now _) (hno (by simp [sOk, sA, sB, ca, cb])).symm
theorem impl_AutomatonValid_ev (n : Int) (l1 l2 : List Int) (l3 : List S51) (h1 : l1.length < 9223372036854775807) (h2 : l2.length < 9223372036854775807) (h3 : l3.length < 9223372036854775807) : Ev (fun k => impl_AutomatonValid.f k n l1 l2 l3) (av n l1 l2 l3) := by
  have hno : Ev (fun k => impl_AutomatonValid.j0 k true n l1 l2 l3) false := by
    refine Ev.step (fun k => rfl) ?_
    simp only [impl_AutomatonValid.j0, if_true]
    exact Ev.now _
  simp only [impl_AutomatonValid.f]
  by_cases c0 : n < 1
  · simp only [if_pos c0]
    exact ev_to hno (by simp only [av]; rw [show decide (1 ≤ n ∧ n ≤ 4) = false by simp; omega]; rfl)
  simp only [if_neg c0]
  by_cases c1 : n > 4
  · simp only [if_pos c1]
    exact ev_to hno (by simp only [av]; rw [show decide (1 ≤ n ∧ n ≤ 4) = false by simp; omega]; rfl)
  simp only [if_neg c1]
  by_cases c3 : (l3.length : Int) > 24
  · simp only [if_pos c3]
    exact ev_to hno (by simp [av, show ¬ l3.length ≤ 24 by omega])
  simp only [if_neg c3]
  refine Ev.bind (impl_statesOk_ev n l1 h1) ?_
  cases e1 : asc n l1 with
  | false =>
    simp only [Bool.false_eq_true, if_false]
    exact ev_to hno (by simp [av, e1])
  | true =>
    simp only [if_true]
    refine Ev.bind (impl_statesOk_ev n l2 h2) ?_
    cases e2 : asc n l2 with
    | false => exact ev_to hno (by simp [av, e2])
    | true =>
      simp only [Bool.not_true]
      refine Ev.step (fun k => rfl) ?_
      simp only [impl_AutomatonValid.j0, Bool.false_eq_true, if_false]
      exact ev_to (impl_AutomatonValid_steps l1 l2 l3 h3) (by simp [av, e1, e2, show 1 ≤ n by omega, show n ≤ 4 by omega, show l3.length ≤ 24 by omega])
theorem leastF_le {n : Nat} {p : List Int} {q : Nat} (y : Int) : ∀ (l : List Int) (b : Int), y ≤ leastF n p q l b ↔ y ≤ b ∧ ∀ f ∈ l, y ≤ ent n p q f.toNat := by
  intro l
  induction l with
  | nil => intro b; simp [leastF]
  | cons f l ih =>
    intro b
    have e : leastF n p q (f :: l) b = leastF n p q l (mn b (ent n p q f.toNat)) := rfl
    rw [e, ih, mn_eq]
    simp only [List.mem_cons, forall_eq_or_imp]
    constructor
    · rintro ⟨h1, h2⟩; exact ⟨by omega, by omega, h2⟩
    · rintro ⟨h1, h2, h3⟩; exact ⟨by omega, h3⟩
theorem leastV_le {n : Nat} {p l2 : List Int} (y : Int) : ∀ (l : List Int) (b : Int), y ≤ leastV n p l l2 b ↔ y ≤ b ∧ ∀ q ∈ l, ∀ f ∈ l2, y ≤ ent n p q.toNat f.toNat := by
  intro l
  induction l with
  | nil => intro b; simp [leastV]
  | cons q l ih =>
    intro b
    have e : leastV n p (q :: l) l2 b = leastV n p l l2 (leastF n p q.toNat l2 b) := rfl
    rw [e, ih, leastF_le]
    simp only [List.mem_cons, forall_eq_or_imp]
    constructor
    · rintro ⟨⟨h1, h2⟩, h3⟩; exact ⟨h1, h2, h3⟩
    · rintro ⟨h1, h2, h3⟩; exact ⟨⟨h1, h2⟩, h3⟩
def leastE (v : List Int) (l : List Int) (b : Int) : Int := l.foldl (fun b q => mn b (rd v q)) b
theorem leastE_le {v : List Int} (y : Int) : ∀ (l : List Int) (b : Int), y ≤ leastE v l b ↔ y ≤ b ∧ ∀ q ∈ l, y ≤ rd v q := by
  intro l
  induction l with
  | nil => intro b; simp [leastE]
  | cons q l ih =>
    intro b
    have e : leastE v (q :: l) b = leastE v l (mn b (rd v q)) := rfl
    rw [e, ih, mn_eq]
    simp only [List.mem_cons, forall_eq_or_imp]
    constructor
    · rintro ⟨h1, h2⟩; exact ⟨by omega, by omega, h2⟩
    · rintro ⟨h1, h2, h3⟩; exact ⟨by omega, h3⟩
/-- What the two ways find is the same. -/
theorem least_eq {n : Nat} (h1 : 1 ≤ n) (h4 : n ≤ 4) {l1 l2 : List Int} (ha : asc (n : Int) l1 = true) (hb : asc (n : Int) l2 = true) {l : List S51} (hl : stepsOk (n : Int) l = true) {w : ByteArray} (hw : wordv w = true) : leastE (endV n l2 l w w.size) l1 1000000 = leastV n (prodTo n l w w.size) l1 l2 1000000 := by
  have hp := prodTo_ok h1 h4 (fun s hh => stepsOk_mem hl hh) w w.size
  apply eq_le
  intro y
  rw [leastE_le, leastV_le]
  refine and_congr_right fun hy => ⟨fun h q hq f hf => ?_, fun h q hq => ?_⟩
  · have hqb := asc_mem ha q hq
    have hfb := asc_mem hb f hf
    obtain ⟨a, rfl⟩ : ∃ a : Nat, q = (a : Int) := ⟨q.toNat, by omega⟩
    obtain ⟨t, rfl⟩ : ∃ a : Nat, f = (a : Int) := ⟨f.toNat, by omega⟩
    have h := h _ hq
    rw [end_eq h1 h4 hb hl hw (by omega), vmul, le_dot] at h
    have h := h.2 t (by omega)
    simp only [endV, lastV_at hb (show t < n by omega), if_pos hf] at h
    simp only [Int.toNat_natCast]
    unfold addc at h
    omega
  · have hqb := asc_mem ha q hq
    obtain ⟨a, rfl⟩ : ∃ a : Nat, q = (a : Int) := ⟨q.toNat, by omega⟩
    rw [end_eq h1 h4 hb hl hw (by omega), vmul, le_dot]
    refine ⟨hy, fun t ht => ?_⟩
    have hbd := hp.bd (show a < n by omega) ht
    simp only [endV, lastV_at hb ht]
    by_cases c : (t : Int) ∈ l2
    · have := h _ hq _ c
      simp only [Int.toNat_natCast] at this
      rw [if_pos c]
      unfold addc
      omega
    · rw [if_neg c]
      unfold addc
      omega
/-- The cost of a word. -/
def costR (n : Int) (l1 l2 : List Int) (l3 : List S51) (w : ByteArray) : Int := if (av n l1 l2 l3 && wordv w) = true then leastV n.toNat (prodTo n.toNat l3 w w.size) l1 l2 1000000 else -1
theorem wordv_le {w : ByteArray} (h : wordv w = true) : w.size ≤ 1000 := of_decide_eq_true (Bool.and_eq_true_iff.1 h).2
theorem impl_CostOf_l0 {n : Nat} {l1 : List Int} (ha : asc (n : Int) l1 = true) (h1 : l1.length < 9223372036854775807) {w : ByteArray} {vs : List (List Int)} (hw : w.size < vs.length) {v : List Int} (hv : rd_L4 vs (w.size : Int) = v) (hn : v.length = n) : Ev (fun k => impl_CostOf.l0 k w vs 1000000 l1 (l1.length : Int) 0) (leastE v l1 1000000) := by
  have h := down l1.length (P := fun i => ∀ b : Int, Ev (fun k => impl_CostOf.l0 k w vs b l1 (l1.length : Int) (i : Int)) (leastE v (l1.drop i) b)) ?_ ?_ 0 (by omega) 1000000
  · simpa only [cast0, List.drop_zero] using h
  · intro b
    refine Ev.step (fun k => rfl) ?_
    simp only [impl_CostOf.l0, if_neg (show ¬ (l1.length : Int) < (l1.length : Int) by omega), dropn, leastE, List.foldl_nil]
    exact Ev.now _
  · intro i hi ih b
    obtain ⟨q, hq, e, -⟩ := asc_at ha hi
    refine Ev.step (fun k => rfl) ?_
    simp only [impl_CostOf.l0, if_pos (show (i : Int) < (l1.length : Int) by omega), if_pos (nnc i), if_pos (nnc w.size), if_pos (ltc hw), rd_nat hi, hv, e, if_pos (nnc q), hn, if_pos (ltc hq), w64n (show i < 9223372036854775807 by omega), dropc hi]
    have := ih (mn b (rd v (q : Int)))
    exact this
theorem impl_CostOf_ev (n : Int) (l1 l2 : List Int) (l3 : List S51) (w : ByteArray) (h1 : l1.length < 9223372036854775807) (h2 : l2.length < 9223372036854775807) (h3 : l3.length < 9223372036854775807) (hw : w.size ≤ 140737488351232) : Ev (fun k => impl_CostOf.f k n l1 l2 l3 w) (costR n l1 l2 l3 w) := by
  have hno : costR n l1 l2 l3 w = -1 → Ev (fun k => impl_CostOf.j0 k w true n l1 l2 l3) (costR n l1 l2 l3 w) := by
    intro e
    rw [e]
    refine Ev.step (fun k => rfl) ?_
    simp only [impl_CostOf.j0, if_true]
    exact Ev.now _
  simp only [impl_CostOf.f]
  refine Ev.bind (impl_AutomatonValid_ev n l1 l2 l3 h1 h2 h3) ?_
  cases hv : av n l1 l2 l3 with
  | false =>
    simp only [Bool.false_eq_true, if_false]
    exact hno (by simp only [costR, hv, Bool.false_and, Bool.false_eq_true, if_false])
  | true =>
    simp only [if_true]
    refine Ev.bind (impl_WordValid_ev w hw) ?_
    cases hwv : wordv w with
    | false =>
      exact hno (by simp only [costR, hwv, Bool.and_false, Bool.false_eq_true, if_false])
    | true =>
      obtain ⟨m, rfl, m1, m4, g1, g2, g3, g4⟩ := av_nat hv
      have hs : ∀ s ∈ l3, sOk (m : Int) s = true := fun s hh => stepsOk_mem g4 hh
      have e : costR (m : Int) l1 l2 l3 w = leastE (endV m l2 l3 w w.size) l1 1000000 := by
        rw [least_eq m1 m4 g1 g2 g4 hwv]
        simp only [costR, hv, hwv, Bool.and_self, if_true, Int.toNat_natCast]
      rw [e]
      refine Ev.step (fun k => rfl) ?_
      simp only [impl_CostOf.j0, Bool.not_true, Bool.false_eq_true, if_false]
      refine Ev.bind (impl_toEnd_ev m1 m4 l1 g2 h2 g3 hs (wordv_le hwv)) ?_
      refine impl_CostOf_l0 g1 h1 (by simp) ?_ (endV_len _ _ _ _ _)
      simp [rd_L4, List.getD_eq_getElem?_getD]
theorem rdOf_nat {l : List ByteArray} {i : Nat} (h : i < l.length) : rdOf ByteArray.empty l (i : Int) = l[i] := by simp [rdOf, List.getD_eq_getElem?_getD, h]
/-- All words of at most so many letters. -/
def wsOf (n : Int) : List ByteArray := (spec_l4Words.f 900 n).getD []
theorem words_ev {n : Int} (h : 0 ≤ n ∧ n ≤ 7) : Ev (fun k => spec_l4Words.f k n) (wsOf n) ∧ Ev (fun k => impl_ShortWords.f k n) (wsOf n, true) ∧ (wsOf n).length ≤ 1000 ∧ ∀ w ∈ wsOf n, wordv w = true := by
  have e : spec_l4Words.f 900 n = some (wsOf n) ∧ impl_ShortWords.f 900 n = some (wsOf n, true) ∧ decide ((wsOf n).length ≤ 1000) = true ∧ (wsOf n).all wordv = true := by
    obtain h | h | h | h | h | h | h | h : n = 0 ∨ n = 1 ∨ n = 2 ∨ n = 3 ∨ n = 4 ∨ n = 5 ∨ n = 6 ∨ n = 7 := by omega
    all_goals
      subst h
      exact ⟨by kernel_rfl, by kernel_rfl, by kernel_rfl, by kernel_rfl⟩
  exact ⟨Ev.of (spec_l4Words.mono n) e.1, Ev.of (impl_ShortWords.mono n) e.2.1, of_decide_eq_true e.2.2.1, fun w hw => List.all_eq_true.1 e.2.2.2 w hw⟩
theorem words_none {n : Int} (h : ¬ (0 ≤ n ∧ n ≤ 7)) : Ev (fun k => impl_ShortWords.f k n) ([], false) := by
  have one : ∀ {α : Type} {g : Nat → Option α} {r : α}, (∀ k, g (k + 1) = some r) → Ev g r := fun h => Ev.step h (Ev.now _)
  simp only [impl_ShortWords.f]
  by_cases h0 : n < 0
  · simp only [if_pos h0]
    exact one fun k => rfl
  · simp only [if_neg h0, decide_eq_true (show n > 7 by omega)]
    exact one fun k => rfl
theorem words_in (n : Int) : Ev (fun _ => spec_l1In.f n 0 7) (decide (0 ≤ n ∧ n ≤ 7)) := by
  have : spec_l1In.f n 0 7 = some (decide (0 ≤ n ∧ n ≤ 7)) := by
    simp only [spec_l1In.f]
    by_cases h0 : n ≥ 0
    · simp only [if_pos h0]
      by_cases h7 : n ≤ 7
      · rw [decide_eq_true h7, decide_eq_true (show 0 ≤ n ∧ n ≤ 7 by omega)]
      · rw [decide_eq_false h7, decide_eq_false (show ¬ (0 ≤ n ∧ n ≤ 7) by omega)]
    · simp only [if_neg h0]
      rw [decide_eq_false (show ¬ (0 ≤ n ∧ n ≤ 7) by omega)]
  rw [this]
  exact Ev.now _
theorem spec_l4Cost_ev {n : Int} {l1 l2 : List Int} {l3 : List S51} {w : ByteArray} (h1 : l1.length < 9223372036854775807) (h2 : l2.length < 9223372036854775807) (hv : av n l1 l2 l3 = true) (hwv : wordv w = true) : Ev (fun k => spec_l4Cost.f k n l1 l2 l3 w) (costR n l1 l2 l3 w) := by
  obtain ⟨m, rfl, m1, m4, g1, g2, g3, g4⟩ := av_nat hv
  have hs : ∀ s ∈ l3, sOk (m : Int) s = true := fun s hh => stepsOk_mem g4 hh
  have hw : w.size ≤ 140737488351232 := by have := wordv_le hwv; omega
  have ha : (av (m : Int) l1 l2 l3 && wordv w) = true := by rw [hv, hwv]; rfl
  simp only [costR, if_pos ha, Int.toNat_natCast, spec_l4Cost.f]
  exact Ev.bind (spec_l4Matrix_ev m1 m4 l1 l2 g3 hs w hw) (Ev.bind (spec_l4Least_ev m4 l3 g1 g2 h1 h2 (prodTo_ok m1 m4 hs w w.size).len _) (Ev.now _))
theorem costR_no {n : Int} {l1 l2 : List Int} {l3 : List S51} {w : ByteArray} (hv : av n l1 l2 l3 = false) : costR n l1 l2 l3 w = -1 := by simp only [costR, hv, Bool.false_and, Bool.false_eq_true, if_false]
/-- How many words cost less than can't be had. -/
def countW (c : ByteArray → Int) : List ByteArray → Int → Int
  | [], x => x
  | w :: ws, x => if c w < 1000000 then countW c ws (x + 1) else countW c ws x
theorem spec_CountAccepted_l0 {n : Int} {l1 l2 : List Int} {l3 : List S51} (h1 : l1.length < 9223372036854775807) (h2 : l2.length < 9223372036854775807) (hv : av n l1 l2 l3 = true) {ws : List ByteArray} (hl : ws.length ≤ 1000) (hw : ∀ w ∈ ws, wordv w = true) :
    Ev (fun k => spec_CountAccepted.l0 k 0 ws (ws.length : Int) 0 n l1 l2 l3) (countW (costR n l1 l2 l3) ws 0) := by
  have h := down ws.length (P := fun i => ∀ (x : Int), 0 ≤ x → x ≤ (i : Int) → Ev (fun k => spec_CountAccepted.l0 k x ws (ws.length : Int) (i : Int) n l1 l2 l3) (countW (costR n l1 l2 l3) (ws.drop i) x)) ?_ ?_ 0 (by omega) 0 (by omega) (by omega)
  · simpa only [cast0, List.drop_zero] using h
  · intro x _ _
    refine Ev.step (fun k => rfl) ?_
    simp only [spec_CountAccepted.l0, if_neg (show ¬ (ws.length : Int) < (ws.length : Int) by omega), dropn, countW]
    exact Ev.now _
  · intro i hi ih x x0 x1
    refine Ev.step (fun k => rfl) ?_
    simp only [spec_CountAccepted.l0, if_pos (ltc hi), if_pos (nnc i), rdOf_nat hi, w64n (show i < 9223372036854775807 by omega), dropc hi, countW]
    refine Ev.bind (spec_l4Cost_ev h1 h2 hv (hw _ (List.getElem_mem hi))) ?_
    by_cases c : costR n l1 l2 l3 ws[i] < 1000000
    · simp only [if_pos c, w64 (show -9223372036854775808 ≤ x + 1 by omega) (by omega)]
      exact ih _ (by omega) (by omega)
    · simp only [if_neg c]
      exact ih _ (by omega) (by omega)
theorem impl_CountAccepted_l0 {n : Int} {l1 l2 : List Int} {l3 : List S51} (h1 : l1.length < 9223372036854775807) (h2 : l2.length < 9223372036854775807) (h3 : l3.length < 9223372036854775807) {ws : List ByteArray} (hl : ws.length ≤ 1000) (hw : ∀ w ∈ ws, wordv w = true) :
    Ev (fun k => impl_CountAccepted.l0 k 0 ws (ws.length : Int) 0 n l1 l2 l3) (countW (costR n l1 l2 l3) ws 0) := by
  have h := down ws.length (P := fun i => ∀ (x : Int), 0 ≤ x → x ≤ (i : Int) → Ev (fun k => impl_CountAccepted.l0 k x ws (ws.length : Int) (i : Int) n l1 l2 l3) (countW (costR n l1 l2 l3) (ws.drop i) x)) ?_ ?_ 0 (by omega) 0 (by omega) (by omega)
  · simpa only [cast0, List.drop_zero] using h
  · intro x _ _
    refine Ev.step (fun k => rfl) ?_
    simp only [impl_CountAccepted.l0, if_neg (show ¬ (ws.length : Int) < (ws.length : Int) by omega), dropn, countW]
    exact Ev.now _
  · intro i hi ih x x0 x1
    refine Ev.step (fun k => rfl) ?_
    simp only [impl_CountAccepted.l0, if_pos (ltc hi), if_pos (nnc i), rdOf_nat hi, w64n (show i < 9223372036854775807 by omega), dropc hi, countW]
    refine Ev.bind (impl_CostOf_ev n l1 l2 l3 ws[i] h1 h2 h3 (by have := wordv_le (hw _ (List.getElem_mem hi)); omega)) ?_
    by_cases c : costR n l1 l2 l3 ws[i] < 1000000
    · simp only [if_pos c, w64 (show -9223372036854775808 ≤ x + 1 by omega) (by omega)]
      exact ih _ (by omega) (by omega)
    · simp only [if_neg c]
      exact ih _ (by omega) (by omega)
/-- What both answer. -/
def accepted (n : Int) (l1 l2 : List Int) (l3 : List S51) (a : Int) : Int := if av n l1 l2 l3 = true ∧ 0 ≤ a ∧ a ≤ 7 then countW (costR n l1 l2 l3) (wsOf a) 0 else -1
theorem spec_CountAccepted_ev (n : Int) (l1 l2 : List Int) (l3 : List S51) (a : Int) (h1 : l1.length < 9223372036854775807) (h2 : l2.length < 9223372036854775807) (h3 : l3.length < 9223372036854775807) : Ev (fun k => spec_CountAccepted.f k n l1 l2 l3 a) (accepted n l1 l2 l3 a) := by
  simp only [spec_CountAccepted.f]
  refine Ev.bind (spec_AutomatonValid_ev n l1 l2 l3 h1 h2 h3) ?_
  cases hv : av n l1 l2 l3 with
  | false =>
    simp only [Bool.false_eq_true, if_false, accepted, hv, false_and]
    refine Ev.step (fun k => rfl) ?_
    simp only [spec_CountAccepted.j0, if_true]
    exact Ev.now _
  | true =>
    simp only [if_true]
    refine Ev.bind (words_in a) ?_
    by_cases ha : 0 ≤ a ∧ a ≤ 7
    · simp only [accepted, hv, decide_eq_true ha, Bool.not_true, true_and, if_pos ha]
      refine Ev.step (fun k => rfl) ?_
      simp only [spec_CountAccepted.j0, Bool.false_eq_true, if_false]
      obtain ⟨e1, -, e3, e4⟩ := words_ev ha
      exact Ev.bind e1 (spec_CountAccepted_l0 h1 h2 hv e3 e4)
    · simp only [accepted, hv, decide_eq_false ha, Bool.not_false, true_and, if_neg ha]
      refine Ev.step (fun k => rfl) ?_
      simp only [spec_CountAccepted.j0, if_true]
      exact Ev.now _
theorem impl_CountAccepted_ev (n : Int) (l1 l2 : List Int) (l3 : List S51) (a : Int) (h1 : l1.length < 9223372036854775807) (h2 : l2.length < 9223372036854775807) (h3 : l3.length < 9223372036854775807) : Ev (fun k => impl_CountAccepted.f k n l1 l2 l3 a) (accepted n l1 l2 l3 a) := by
  simp only [impl_CountAccepted.f]
  by_cases ha : 0 ≤ a ∧ a ≤ 7
  · obtain ⟨-, e2, e3, e4⟩ := words_ev ha
    refine Ev.bind e2 ?_
    simp only [if_true]
    refine Ev.bind (impl_AutomatonValid_ev n l1 l2 l3 h1 h2 h3) ?_
    refine Ev.step (fun k => rfl) ?_
    cases hv : av n l1 l2 l3 with
    | false =>
      simp only [impl_CountAccepted.j0, accepted, hv, Bool.not_false, if_true, Bool.false_eq_true, false_and, if_false]
      exact Ev.now _
    | true =>
      simp only [impl_CountAccepted.j0, accepted, hv, Bool.not_true, Bool.false_eq_true, if_false, true_and, if_pos ha]
      exact impl_CountAccepted_l0 h1 h2 h3 e3 e4
  · refine Ev.bind (words_none ha) ?_
    simp only [Bool.false_eq_true, if_false]
    refine Ev.step (fun k => rfl) ?_
    simp only [impl_CountAccepted.j0, if_true, accepted, ha, and_false, if_false]
    exact Ev.now _
theorem FnExactCountAccepted : laws_FnExactCountAccepted.Pure := by
  intro n l1 l2 l3 a _ h1 _ h2 _ h3 hx _
  unfold maxLen at h1 h2 h3 hx
  refine Ev.rounds ?_
  simp only [laws_FnExactCountAccepted.f]
  obtain ⟨r, hr, hm, hl⟩ := laws_szAutomaton_ev n l1 l2 l3 (by omega) (by omega) (by omega) (fun x hh => by have := (hx x hh).2.1; omega)
  refine Ev.bind hr ?_
  by_cases c : r < 0
  · simp only [if_pos c]
    exact Ev.now _
  simp only [if_neg c]
  have hl := hl (by omega)
  have hlm : (l3.map ofL).length = l3.length := List.length_map ..
  have ht := laws_toAutomaton_ev n l1 l2 l3 (by omega) (by omega) (by omega)
  refine Ev.bind ht (Ev.bind (spec_CountAccepted_ev n l1 l2 (l3.map ofL) a (by omega) (by omega) (by omega)) (Ev.bind ht (Ev.bind (impl_CountAccepted_ev n l1 l2 (l3.map ofL) a (by omega) (by omega) (by omega)) ?_)))
  simp only [if_true]
  refine Ev.bind ht (Ev.bind (laws_eqAutomaton_self n l1 l2 (l3.map ofL) (by omega) (by omega) (by omega)) ?_)
  simp only [if_true]
  exact Ev.now _

end Go.Proofs.Ytejnpldoakgadaa.Pure
