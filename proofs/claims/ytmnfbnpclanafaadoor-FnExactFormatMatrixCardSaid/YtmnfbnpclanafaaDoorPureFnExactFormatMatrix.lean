/- The pure statement of FnExactFormatMatrix: the printed functions answer true at every input that can be read. -/
import Derived.Test.YtmnfbnpclanafaaDoorPGFx5
set_option linter.unusedVariables false
set_option linter.unusedSimpArgs false
namespace Go.Proofs.YtmnfbnpclanafaaDoor.Pure
open Go.RowKit Go.Proofs.YtmnfbnpclanafaaDoor.PGF Go.Proofs.YtmnfbnpclanafaaDoorW.PrintWords Go.Proofs.YtmnfbnpclanafaaDoorW.PrintLast Go.Proofs.YtmnfbnpclanafaaDoorW.PrintMore

theorem w64 {x : Int} (h0 : -9223372036854775808 ≤ x) (h1 : x ≤ 9223372036854775807) : wrap64 x = x := by unfold wrap64; omega
theorem cast0 : ((0 : Nat) : Int) = 0 := rfl
theorem w64n {i : Nat} (h : i < 9223372036854775807) : wrap64 ((i : Int) + 1) = ((i + 1 : Nat) : Int) := by rw [w64 (by omega) (by omega)]; omega
theorem rd_nat {l : List Int} {i : Nat} (h : i < l.length) : rd l (i : Int) = l[i] := by simp [rd, List.getD_eq_getElem?_getD, h]
theorem mn_eq (a b : Int) : mn a b = min a b := by unfold mn; split <;> omega
theorem mx_eq (a b : Int) : mx a b = max a b := by unfold mx; split <;> omega
theorem down (n : Nat) {P : Nat → Prop} (h0 : P n) (hs : ∀ i, i < n → P (i + 1) → P i) : ∀ i, i ≤ n → P i := by
  have h : ∀ d i, i + d = n → P i := by
    intro d
    induction d with
    | zero => intro i hi; obtain rfl : i = n := by omega
              exact h0
    | succ d ih => intro i hi; exact hs i (by omega) (ih (i + 1) (by omega))
  exact fun i hi => h (n - i) i (by omega)
theorem ev_to {α : Type} {g : Nat → Option α} {r r' : α} (h : Ev g r) (e : r = r') : Ev g r' := e ▸ h
theorem dropc {α : Type} {l : List α} {i : Nat} (h : i < l.length) : l.drop i = l[i] :: l.drop (i + 1) := List.drop_eq_getElem_cons h
theorem dropn {α : Type} (l : List α) : l.drop l.length = [] := List.drop_eq_nil_of_le (Nat.le_refl _)
theorem wf64 {x : Int} (h : (Lit.int .i64 x).wf = true) : -9223372036854775808 ≤ x ∧ x ≤ 9223372036854775807 := by
  simp [Lit.wf, IntKind.min, IntKind.max, IntKind.signed, IntKind.bits] at h
  omega
theorem wf8 {x : Int} (h : (Lit.int .u8 x).wf = true) : 0 ≤ x ∧ x ≤ 255 := by
  simp [Lit.wf, IntKind.min, IntKind.max, IntKind.signed, IntKind.bits] at h
  omega
theorem nnc (q : Nat) : (0 : Int) ≤ (q : Int) := Int.natCast_nonneg q
theorem ltc {a b : Nat} (h : a < b) : (a : Int) < (b : Int) := Int.ofNat_lt.2 h
theorem dec_step {u : Nat} (h : ¬ u < 10) : Lib.decDigits u = Lib.decDigits (u / 10) ++ [UInt8.ofNat (48 + u % 10)] := by rw [Lib.decDigits, dif_neg h]
theorem dec_one {u : Nat} (h : u < 10) : Lib.decDigits u = [UInt8.ofNat (48 + u)] := by rw [Lib.decDigits, dif_pos h]
theorem digit_nat {d : Nat} (h : d < 10) : (UInt8.ofNat (48 + d)).toNat = 48 + d := by
  have : (UInt8.ofNat (48 + d)).toNat = (48 + d) % 256 := UInt8.toNat_ofNat'
  omega
/-- What digits spell. -/
def dstep (a : Nat) (c : UInt8) : Nat := a * 10 + (c.toNat - 48)
def numv (l : List UInt8) : Nat := l.foldl dstep 0
theorem numv_snoc (l : List UInt8) (c : UInt8) : numv (l ++ [c]) = numv l * 10 + (c.toNat - 48) := by simp [numv, List.foldl_append, dstep]
theorem numv_dec (u : Nat) : numv (Lib.decDigits u) = u := by
  induction u using Nat.strongRecOn with
  | _ u ih =>
    by_cases h : u < 10
    · have e : numv [UInt8.ofNat (48 + u)] = 0 * 10 + ((UInt8.ofNat (48 + u)).toNat - 48) := rfl
      rw [dec_one h, e, digit_nat h]
      omega
    · rw [dec_step h, numv_snoc, ih (u / 10) (by omega), digit_nat (Nat.mod_lt _ (by omega))]
      omega
def isd (c : UInt8) : Prop := 48 ≤ c.toNat ∧ c.toNat ≤ 57
def digs (l : List UInt8) : Prop := ∀ c ∈ l, isd c
theorem dec_digs (u : Nat) : digs (Lib.decDigits u) := by
  induction u using Nat.strongRecOn with
  | _ u ih =>
    intro c hc
    by_cases h : u < 10
    · rw [dec_one h, List.mem_singleton] at hc
      subst hc
      unfold isd
      rw [digit_nat h]
      omega
    · rw [dec_step h, List.mem_append, List.mem_singleton] at hc
      rcases hc with hc | rfl
      · exact ih (u / 10) (by omega) c hc
      · unfold isd
        rw [digit_nat (Nat.mod_lt _ (by omega))]
        omega
theorem dec_ne (u : Nat) : Lib.decDigits u ≠ [] := by
  by_cases h : u < 10
  · rw [dec_one h]
    exact List.cons_ne_nil _ _
  · rw [dec_step h]
    simp
theorem dec_len : ∀ (k u : Nat), u < 10 ^ (k + 1) → (Lib.decDigits u).length ≤ k + 1
  | 0, u, h => by rw [dec_one (by simpa using h)]; exact Nat.le_refl _
  | k + 1, u, h => by
    by_cases c : u < 10
    · rw [dec_one c]
      exact Nat.succ_le_succ (Nat.zero_le _)
    · rw [dec_step c, List.length_append]
      have := dec_len k (u / 10) (by rw [Nat.pow_succ] at h; omega)
      simp only [List.length_singleton]
      omega
theorem fold_ge : ∀ (l : List UInt8) (a : Nat), a ≤ l.foldl dstep a
  | [], a => Nat.le_refl _
  | c :: r, a => by
    have := fold_ge r (dstep a c)
    have e : dstep a c = a * 10 + (c.toNat - 48) := rfl
    simp only [List.foldl_cons]
    omega
theorem parse_ok : ∀ (l : List UInt8) (a : Nat), digs l → l.foldl dstep a < 1000000000 → Lib.parseUint10 a l = .ok (l.foldl dstep a)
  | [], a, _, _ => rfl
  | c :: r, a, hd, h => by
    have hc : isd c := hd c List.mem_cons_self
    have hge := fold_ge r (dstep a c)
    have e : dstep a c = a * 10 + (c.toNat - 48) := rfl
    simp only [List.foldl_cons] at h ⊢
    unfold Lib.parseUint10
    rw [if_pos (show 48 ≤ c.toNat ∧ c.toNat ≤ 57 from hc), if_neg (by omega), if_neg (by omega)]
    exact parse_ok r _ (fun x hx => hd x (List.mem_cons_of_mem _ hx)) h
theorem atoi_dec {u : Nat} (h : u ≤ 999999) : Lib.atoiAll (Lib.decDigits u) = .ok (u : Int) := by
  obtain ⟨c, r, e⟩ : ∃ c r, Lib.decDigits u = c :: r := by
    cases e : Lib.decDigits u with
    | nil => exact absurd e (dec_ne u)
    | cons c r => exact ⟨c, r, rfl⟩
  have hd := dec_digs u
  have hv := numv_dec u
  rw [e] at hd hv ⊢
  have hc : isd c := hd c List.mem_cons_self
  unfold isd at hc
  have hp : Lib.parseUint10 0 (c :: r) = .ok u := by
    have := parse_ok (c :: r) 0 hd (by show numv (c :: r) < _; rw [hv]; omega)
    rw [this]
    exact congrArg _ hv
  rw [Lib.atoiAll_plain c r (by omega) (by omega)]
  unfold Lib.parseMag
  rw [if_neg (List.cons_ne_nil _ _), hp]
  show (if 9223372036854775808 ≤ u then Lib.NumEnd.range else Lib.NumEnd.ok (u : Int)) = _
  rw [if_neg (by omega)]
/-- What a text of a cost says. -/
def pcost (l : List UInt8) : Int × Bool := if l = [45] then (1000000, true) else if numv l ≤ 999999 ∧ l = Lib.decDigits (numv l) then ((numv l : Int), true) else (0, false)
/-- The text of a cost. -/
def fcost (a : Int) : List UInt8 := if 0 ≤ a ∧ a ≤ 1000000 then (if a = 1000000 then [45] else Lib.decDigits a.toNat) else []
theorem dec_minus (u : Nat) : Lib.decDigits u ≠ [45] := fun h => by
  have := dec_digs u 45 (by rw [h]; exact List.mem_cons_self)
  unfold isd at this
  have e : (45 : UInt8).toNat = 45 := rfl
  omega
theorem pcost_dec {u : Nat} (h : u ≤ 999999) : pcost (Lib.decDigits u) = ((u : Int), true) := by
  unfold pcost
  rw [if_neg (dec_minus u), numv_dec, if_pos ⟨h, rfl⟩]
theorem pcost_no {l : List UInt8} (h1 : l ≠ [45]) (h2 : ∀ u, u ≤ 999999 → l ≠ Lib.decDigits u) : pcost l = (0, false) := by
  unfold pcost
  rw [if_neg h1, if_neg fun h => h2 _ h.1 h.2]
theorem pcost_f {a : Int} (h0 : 0 ≤ a) (h1 : a ≤ 1000000) : pcost (fcost a) = (a, true) := by
  unfold fcost
  rw [if_pos ⟨h0, h1⟩]
  by_cases c : a = 1000000
  · rw [if_pos c, c]
    rfl
  · rw [if_neg c, pcost_dec (by omega)]
    congr 1
    omega
theorem pcost_yes {l : List UInt8} {a : Int} (h : pcost l = (a, true)) : 0 ≤ a ∧ a ≤ 1000000 ∧ fcost a = l := by
  unfold pcost at h
  split at h
  · rename_i e
    injection h with h _
    subst h
    exact ⟨by omega, by omega, e.symm⟩
  · split at h
    · rename_i hh
      injection h with h _
      subst h
      refine ⟨by omega, by omega, ?_⟩
      unfold fcost
      rw [if_pos ⟨by omega, by omega⟩, if_neg (by omega), Int.toNat_natCast]
      exact hh.2.symm
    · injection h with _ h
      cases h
theorem pcost_cases (l : List UInt8) : (∃ a, pcost l = (a, true)) ∨ pcost l = (0, false) := by
  unfold pcost
  split
  · exact .inl ⟨_, rfl⟩
  · split
    · exact .inl ⟨_, rfl⟩
    · exact .inr rfl
/-- A text cut at every such sign. -/
def cutL (c : UInt8) : List UInt8 → List (List UInt8)
  | [] => [[]]
  | x :: r => if x = c then [] :: cutL c r else
    match cutL c r with
    | [] => [[x]]
    | h :: t => (x :: h) :: t
theorem cutL_ne (c : UInt8) : ∀ l, cutL c l ≠ []
  | [] => List.cons_ne_nil _ _
  | x :: r => by
    unfold cutL
    split
    · exact List.cons_ne_nil _ _
    · split <;> exact List.cons_ne_nil _ _
theorem cutL_cons {c x : UInt8} {r h : List UInt8} {t : List (List UInt8)} (hx : ¬ x = c) (e : cutL c r = h :: t) : cutL c (x :: r) = (x :: h) :: t := by rw [cutL, if_neg hx, e]
theorem cutL_no {c : UInt8} : ∀ {p : List UInt8}, c ∉ p → ∀ l, cutL c (p ++ l) = (p ++ (cutL c l).head (cutL_ne c l)) :: (cutL c l).tail
  | [], _, l => by
    show cutL c l = (cutL c l).head _ :: _
    exact (List.cons_head_tail (cutL_ne c l)).symm
  | x :: p, h, l => by
    have hx : ¬ x = c := fun e => h (by rw [e]; exact List.mem_cons_self)
    exact cutL_cons hx (cutL_no (fun hh => h (List.mem_cons_of_mem _ hh)) l)
theorem cutL_alone {c : UInt8} {p : List UInt8} (h : c ∉ p) : cutL c p = [p] := by
  have := cutL_no h []
  rw [List.append_nil] at this
  rw [this]
  simp [cutL]
theorem cutL_sep {c : UInt8} {p : List UInt8} (h : c ∉ p) (l : List UInt8) : cutL c (p ++ c :: l) = p :: cutL c l := by
  rw [cutL_no h]
  have e : cutL c (c :: l) = [] :: cutL c l := by
    rw [cutL, if_pos rfl]
  simp only [e, List.head_cons, List.tail_cons, List.append_nil]
/-- Parts with a sign between. -/
def joinL (c : UInt8) : List (List UInt8) → List UInt8
  | [] => []
  | [p] => p
  | p :: q :: r => p ++ c :: joinL c (q :: r)
theorem cutL_join {c : UInt8} : ∀ {ps : List (List UInt8)}, ps ≠ [] → (∀ p ∈ ps, c ∉ p) → cutL c (joinL c ps) = ps
  | [], h, _ => absurd rfl h
  | [p], _, h => cutL_alone (h p List.mem_cons_self)
  | p :: q :: r, _, h => by
    show cutL c (p ++ c :: joinL c (q :: r)) = _
    rw [cutL_sep (h p List.mem_cons_self), cutL_join (List.cons_ne_nil _ _) (fun x hx => h x (List.mem_cons_of_mem _ hx))]
theorem cutL_none (c : UInt8) : ∀ (l : List UInt8), ∀ p ∈ cutL c l, c ∉ p
  | [], p, hp => by
    have : p = [] := by simpa [cutL] using hp
    rw [this]
    exact List.not_mem_nil
  | x :: r, p, hp => by
    unfold cutL at hp
    split at hp
    · rcases List.mem_cons.1 hp with rfl | hp
      · exact List.not_mem_nil
      · exact cutL_none c r p hp
    · rename_i hx
      split at hp
      · rename_i e
        exact absurd e (cutL_ne c r)
      · rename_i h t e
        rcases List.mem_cons.1 hp with rfl | hp
        · intro hc
          rcases List.mem_cons.1 hc with e2 | hc
          · exact hx e2.symm
          · exact cutL_none c r h (by rw [e]; exact List.mem_cons_self) hc
        · exact cutL_none c r p (by rw [e]; exact List.mem_cons_of_mem _ hp)
theorem join_cutL (c : UInt8) : ∀ (l : List UInt8), joinL c (cutL c l) = l
  | [] => rfl
  | x :: r => by
    have ih := join_cutL c r
    unfold cutL
    split
    · rename_i hx
      cases e : cutL c r with
      | nil => exact absurd e (cutL_ne c r)
      | cons h t =>
        show [] ++ c :: joinL c (h :: t) = _
        rw [← e, ih, hx]
        rfl
    · cases e : cutL c r with
      | nil => exact absurd e (cutL_ne c r)
      | cons h t =>
        rw [e] at ih
        cases t with
        | nil => show x :: h = _; rw [show h = r from ih]
        | cons q t =>
          show (x :: h) ++ c :: joinL c (q :: t) = _
          rw [← ih]
          rfl
theorem joinL_lib (c : UInt8) : ∀ (ps : List (List UInt8)), Lib.join ps [c] = joinL c ps
  | [] => rfl
  | [p] => Lib.join_one p [c]
  | p :: q :: r => by
    have ih := joinL_lib c (q :: r)
    rw [Lib.join_cons, joinL, ← ih, Lib.join_cons]
    simp [Lib.joinTail]
/-- A cost: between 0 and 1000000. -/
def cv (a : Int) : Bool := decide (0 ≤ a ∧ a ≤ 1000000)
theorem cv_iff {a : Int} : cv a = true ↔ 0 ≤ a ∧ a ≤ 1000000 := by simp [cv]
theorem spec_l1In_eq (a b c : Int) : spec_l1In.f a b c = some (decide (b ≤ a ∧ a ≤ c)) := by
  unfold spec_l1In.f
  split <;> simp <;> omega
theorem spec_CostValid_eq (a : Int) : spec_CostValid.f a = some (cv a) := by
  unfold spec_CostValid.f
  rw [spec_l1In_eq]
  rfl
theorem impl_CostValid_eq (a : Int) : impl_CostValid.f a = some (cv a) := by
  unfold impl_CostValid.f cv
  split <;> simp <;> omega
theorem ba_ext {a b : ByteArray} (h : a.data.toList = b.data.toList) : a = b := by
  cases a with
  | mk a => cases b with
    | mk b => exact congrArg ByteArray.mk (Array.toList_inj.1 h)
def ofL (l : List UInt8) : ByteArray := ⟨l.toArray⟩
theorem ofL_toL (l : List UInt8) : (ofL l).data.toList = l := rfl
theorem ofL_self (s : ByteArray) : ofL s.data.toList = s := ba_ext rfl
theorem ofL_app (a b : List UInt8) : ofL a ++ ofL b = ofL (a ++ b) := ba_ext (by simp [ofL])
theorem ofL_size (l : List UInt8) : (ofL l).size = l.length := by simp [ofL, ByteArray.size]
theorem one_byte {n : Nat} (h : n < 10) : strOfNums [(wrap64 (48 + (n : Int))) % 256] = ofL [UInt8.ofNat (48 + n)] := by
  have e : (wrap64 (48 + (n : Int))) % 256 = ((48 + n : Nat) : Int) := by
    unfold wrap64
    omega
  rw [e]
  show ofL [UInt8.ofNat (((48 + n : Nat) : Int)).toNat] = _
  rw [Int.toNat_natCast]
theorem l13Dec_l0 : ∀ (n : Nat) (out : List UInt8), out.length + n ≤ 1000000000000000000 → Ev (fun k => spec_l13Dec.l0 k (n : Int) (ofL out)) (ofL (Lib.decDigits n ++ out)) := by
  intro n
  induction n using Nat.strongRecOn with
  | _ n ih =>
    intro out ho
    refine Ev.step (fun k => rfl) ?_
    by_cases c : n < 10
    · simp only [spec_l13Dec.l0, if_neg (show ¬ (n : Int) > 9 by omega), Option.bind_some, one_byte c, ofL_size, ofL_app, List.length_singleton, if_pos (show 1 + out.length ≤ 9223372036854775807 by omega), dec_one c]
      exact Ev.now _
    · have e : Int.tmod (n : Int) 10 = ((n % 10 : Nat) : Int) := by rw [Int.tmod_eq_emod_of_nonneg (by omega)]; rfl
      have e2 : Int.tdiv (n : Int) 10 = ((n / 10 : Nat) : Int) := by rw [Int.tdiv_eq_ediv_of_nonneg (by omega)]; rfl
      simp only [spec_l13Dec.l0, if_pos (show (n : Int) > 9 by omega), Option.bind_some, e, e2, one_byte (Nat.mod_lt n (show 0 < 10 by omega)), ofL_size, ofL_app, List.length_singleton, if_pos (show 1 + out.length ≤ 9223372036854775807 by omega), w64 (show -9223372036854775808 ≤ ((n / 10 : Nat) : Int) by omega) (by omega), dec_step c, List.append_assoc]
      exact ih (n / 10) (by omega) _ (by simp only [List.length_append, List.length_singleton]; omega)
/-- The text of a cost, as a string. -/
def fc (a : Int) : ByteArray := ofL (fcost a)
theorem fcost_len (a : Int) : (fcost a).length ≤ 6 := by
  unfold fcost
  split
  · split
    · simp
    · exact dec_len 5 _ (by omega)
  · simp
theorem spec_FormatCost_ev (a : Int) : Ev (fun k => spec_FormatCost.f k a) (fc a) := by
  simp only [spec_FormatCost.f, spec_CostValid_eq, Option.bind_some]
  by_cases h : 0 ≤ a ∧ a ≤ 1000000
  · simp only [show cv a = true from cv_iff.2 h, if_true]
    by_cases c : a = 1000000
    · simp only [if_pos c]
      refine ev_to (Ev.now _) ?_
      rw [c]
      rfl
    · simp only [if_neg c]
      obtain ⟨n, rfl⟩ : ∃ n : Nat, a = (n : Int) := ⟨a.toNat, by omega⟩
      have hd : Ev (fun k => spec_l13Dec.f k (n : Int)) (ofL (Lib.decDigits n ++ [])) := by
        refine Ev.step (fun k => rfl) ?_
        simp only [spec_l13Dec.f, if_neg (show ¬ (n : Int) < -9223372036854775807 by omega), if_neg (show ¬ (n : Int) < 0 by omega)]
        exact l13Dec_l0 n [] (by simp only [List.length_nil]; omega)
      refine ev_to (Ev.bind hd (Ev.now _)) ?_
      unfold fc fcost
      rw [if_pos h, if_neg c, List.append_nil, Int.toNat_natCast]
  · simp only [if_neg (show ¬ cv a = true from fun q => h (cv_iff.1 q))]
    refine ev_to (Ev.now _) ?_
    unfold fc fcost
    rw [if_neg h]
    rfl
theorem impl_FormatCost_eq (a : Int) : impl_FormatCost.f a = some (fc a) := by
  simp only [impl_FormatCost.f, impl_CostValid_eq, Option.bind_some]
  by_cases h : 0 ≤ a ∧ a ≤ 1000000
  · rw [if_pos (show cv a = true from cv_iff.2 h)]
    by_cases c : a = 1000000
    · rw [if_pos c, c]
      rfl
    · rw [if_neg c]
      unfold strconv_Itoa_48.f
      rw [if_pos ⟨by omega, by omega⟩]
      show some (some _ |>.get rfl) = _
      unfold fc fcost Lib.itoa
      rw [if_pos h, if_neg c, if_neg (by omega)]
      rfl
  · rw [if_neg (show ¬ cv a = true from fun q => h (cv_iff.1 q))]
    unfold fc fcost
    rw [if_neg h]
    rfl
/-- The text of costs. -/
def fcosts (l : List Int) : List UInt8 := if l.all cv = true then joinL 32 (l.map fcost) else []
def fcs (l : List Int) : ByteArray := ofL (fcosts l)
theorem joinL_snoc (c : UInt8) (q : List UInt8) : ∀ (ps : List (List UInt8)), ps ≠ [] → joinL c (ps ++ [q]) = joinL c ps ++ c :: q
  | [], h => absurd rfl h
  | [p], _ => rfl
  | p :: r :: t, _ => by
    have ih := joinL_snoc c q (r :: t) (List.cons_ne_nil _ _)
    show p ++ c :: joinL c ((r :: t) ++ [q]) = (p ++ c :: joinL c (r :: t)) ++ c :: q
    rw [ih]
    simp
theorem joinL_len {c : UInt8} {n : Nat} : ∀ (ps : List (List UInt8)), (∀ p ∈ ps, p.length ≤ n) → (joinL c ps).length ≤ (n + 1) * ps.length
  | [], _ => Nat.zero_le _
  | [p], h => by
    have := h p List.mem_cons_self
    show p.length ≤ (n + 1) * 1
    omega
  | p :: q :: r, h => by
    have h1 := h p List.mem_cons_self
    have ih := joinL_len (c := c) (q :: r) (fun x hx => h x (List.mem_cons_of_mem _ hx))
    show (p ++ c :: joinL c (q :: r)).length ≤ (n + 1) * ((q :: r).length + 1)
    rw [List.length_append, List.length_cons, Nat.mul_add]
    omega
theorem fcosts_len (l : List Int) : (joinL 32 (l.map fcost)).length ≤ 7 * l.length := by
  have := joinL_len (c := 32) (n := 6) (l.map fcost) (fun p hp => by
    obtain ⟨a, _, rfl⟩ := List.mem_map.1 hp
    exact fcost_len a)
  rwa [List.length_map] at this
theorem take_all {l : List Int} {i : Nat} (hi : i < l.length) (h : (l.take i).all cv = true) (hc : cv l[i] = true) : (l.take (i + 1)).all cv = true := by
  rw [List.take_succ_eq_append_getElem hi, List.all_append, h]
  simp [hc]
theorem fcs_no {l : List Int} {i : Nat} (hi : i < l.length) (hc : cv l[i] = false) : fcs l = ofL [] := by
  unfold fcs fcosts
  rw [if_neg fun h => by
    have := List.all_eq_true.1 h l[i] (List.getElem_mem hi)
    rw [hc] at this
    cases this]
theorem spec_FormatCosts_ev (l : List Int) (hl : l.length ≤ 1000000000000) : Ev (fun k => spec_FormatCosts.f k l) (fcs l) := by
  have h := down l.length (P := fun i => (l.take i).all cv = true → Ev (fun k => spec_FormatCosts.l0 k (ofL (joinL 32 ((l.take i).map fcost))) l (l.length : Int) (i : Int)) (fcs l)) ?_ ?_ 0 (by omega) (by simp)
  · simp only [List.take_zero, List.map_nil, joinL, cast0] at h
    exact h
  · intro ha
    refine Ev.step (fun k => rfl) ?_
    simp only [spec_FormatCosts.l0, if_neg (show ¬ (l.length : Int) < (l.length : Int) by omega)]
    refine ev_to (Ev.now _) ?_
    rw [List.take_length] at ha ⊢
    unfold fcs fcosts
    rw [if_pos ha]
  · intro i hi ih ha
    refine Ev.step (fun k => rfl) ?_
    simp only [spec_FormatCosts.l0, if_pos (ltc hi), if_pos (nnc i), rd_nat hi, spec_CostValid_eq, Option.bind_some, w64n (show i < 9223372036854775807 by omega)]
    cases hc : cv l[i] with
    | false =>
      simp only [Bool.false_eq_true, if_false]
      exact ev_to (Ev.now _) (fcs_no hi hc).symm
    | true =>
      simp only [if_true]
      have ih := ih (take_all hi ha hc)
      have hlen := fcosts_len (l.take i)
      have hfl := fcost_len l[i]
      have htl : (l.take i).length ≤ i := List.length_take_le _ _
      rw [List.take_succ_eq_append_getElem hi, List.map_append, List.map_cons, List.map_nil] at ih
      by_cases h0 : i = 0
      · subst h0
        simp only [show ¬ ((0 : Nat) : Int) > 0 by omega, if_false]
        refine Ev.bind (spec_FormatCost_ev _) ?_
        simp only [fc, ofL_size, ofL_app, List.take_zero, List.map_nil, joinL, List.length_nil, List.nil_append, if_pos (show 0 + (fcost l[0]).length ≤ 9223372036854775807 by omega)] at ih ⊢
        exact ih
      · simp only [if_pos (show (i : Int) > 0 by omega), ofL_size, if_pos (show (joinL 32 ((l.take i).map fcost)).length + 1 ≤ 9223372036854775807 by omega)]
        refine Ev.bind (spec_FormatCost_ev _) ?_
        have e : (⟨#[32]⟩ : ByteArray) = ofL [32] := rfl
        have hne : (l.take i).map fcost ≠ [] := fun h => by
          have := congrArg List.length h
          rw [List.length_map, List.length_take] at this
          simp only [List.length_nil] at this
          omega
        simp only [fc, e, ofL_size, ofL_app, List.length_append, List.length_singleton, if_pos (show (joinL 32 ((l.take i).map fcost)).length + 1 + (fcost l[i]).length ≤ 9223372036854775807 by omega)]
        rw [joinL_snoc 32 _ _ hne] at ih
        simpa only [List.append_assoc, List.singleton_append] using ih
theorem impl_FormatCosts_ev (l : List Int) (hl : l.length ≤ 1000000000) : Ev (fun k => impl_FormatCosts.f k l) (fcs l) := by
  have h := down l.length (P := fun i => (l.take i).all cv = true → Ev (fun k => impl_FormatCosts.l0 k ((l.take i).map fc) l (l.length : Int) (i : Int)) (fcs l)) ?_ ?_ 0 (by omega) (by simp)
  · simpa only [impl_FormatCosts.f, List.take_zero, List.map_nil, cast0] using h
  · intro ha
    refine Ev.step (fun k => rfl) ?_
    rw [List.take_length] at ha ⊢
    have e : ((l.map fc).map (·.data.toList)) = l.map fcost := by
      rw [List.map_map]
      rfl
    have e2 : (⟨#[32]⟩ : ByteArray).data.toList = [32] := rfl
    have hlen := fcosts_len l
    simp only [impl_FormatCosts.l0, if_neg (show ¬ (l.length : Int) < (l.length : Int) by omega), strings_Join.f, e, e2, joinL_lib, List.length_map]
    rw [if_pos ⟨by omega, by omega⟩]
    refine ev_to (Ev.now _) ?_
    unfold fcs fcosts
    rw [if_pos ha]
    rfl
  · intro i hi ih ha
    refine Ev.step (fun k => rfl) ?_
    simp only [impl_FormatCosts.l0, if_pos (ltc hi), if_pos (nnc i), rd_nat hi, impl_CostValid_eq, impl_FormatCost_eq, Option.bind_some, w64n (show i < 9223372036854775807 by omega)]
    cases hc : cv l[i] with
    | false =>
      simp only [Bool.false_eq_true, if_false]
      exact ev_to (Ev.now _) (fcs_no hi hc).symm
    | true =>
      have ih := ih (take_all hi ha hc)
      rw [List.take_succ_eq_append_getElem hi, List.map_append, List.map_cons, List.map_nil] at ih
      simp only [if_true, List.length_map, List.length_take, if_pos (show min i l.length < 8796093022208 by omega)]
      exact ih
/-- The sum of two costs, at most 1000000. -/
def addc (s a : Int) : Int := min (s + a) 1000000
theorem addc_bd {s a : Int} (h0 : 0 ≤ s) (h1 : 0 ≤ a) : 0 ≤ addc s a ∧ addc s a ≤ 1000000 := by unfold addc; omega
/-- A matrix: 1 to 4 rows, as many costs in each. -/
def mv (n : Int) (l : List Int) : Bool := decide (1 ≤ n ∧ n ≤ 4 ∧ (l.length : Int) = n * n) && l.all cv
theorem mv_iff {n : Int} {l : List Int} : mv n l = true ↔ (1 ≤ n ∧ n ≤ 4 ∧ (l.length : Int) = n * n) ∧ l.all cv = true := by simp [mv]
theorem sq_le {n : Int} (h1 : 1 ≤ n) (h2 : n ≤ 4) : 1 ≤ n * n ∧ n * n ≤ 16 := by
  obtain h | h | h | h : n = 1 ∨ n = 2 ∨ n = 3 ∨ n = 4 := by omega
  all_goals subst h; omega
/-- The cost in row i, column j. -/
def ent (n : Nat) (l : List Int) (i j : Nat) : Int := l.getD (i * n + j) 0
theorem rd_ent (n : Nat) (l : List Int) (i j : Nat) : rd l ((i * n + j : Nat) : Int) = ent n l i j := by
  show l.getD ((i * n + j : Nat) : Int).toNat 0 = _
  rw [Int.toNat_natCast]
  rfl
theorem idx_lt {n i j : Nat} (hi : i < n) (hj : j < n) : i * n + j < n * n := by
  have := Nat.mul_le_mul_right n (show i + 1 ≤ n from hi)
  rw [Nat.add_mul] at this
  omega
theorem sq16 {n : Nat} (h : n ≤ 4) : n * n ≤ 16 := Nat.mul_le_mul h h
theorem idx_wrap {n i j : Nat} (hn : n ≤ 4) (hi : i < n) (hj : j < n) : wrap64 ((wrap64 ((i : Int) * (n : Int))) + (j : Int)) = ((i * n + j : Nat) : Int) := by
  have h1 := idx_lt hi hj
  have h2 := sq16 hn
  have e : ((i * n + j : Nat) : Int) = (i : Int) * (n : Int) + (j : Int) := by rw [Int.natCast_add, Int.natCast_mul]
  have e2 : ((i * n : Nat) : Int) = (i : Int) * (n : Int) := Int.natCast_mul _ _
  rw [w64 (x := (i : Int) * (n : Int)) (by omega) (by omega), w64 (by omega) (by omega), e]
theorem div_idx {n i k : Nat} (hk : k < n) : (i * n + k) / n = i ∧ (i * n + k) % n = k := by
  constructor
  · rw [Nat.mul_comm, Nat.mul_add_div (by omega), Nat.div_eq_of_lt hk]; omega
  · rw [Nat.mul_comm, Nat.mul_add_mod, Nat.mod_eq_of_lt hk]
/-- The cells of a matrix, of what a function tells for each place. -/
def cells (n : Nat) (f : Nat → Nat → Int) : List Int := (List.range (n * n)).map fun t => f (t / n) (t % n)
/-- The first so many of them. -/
def cellsTo (n : Nat) (f : Nat → Nat → Int) (m : Nat) : List Int := (List.range m).map fun t => f (t / n) (t % n)
theorem cellsTo_len (n : Nat) (f : Nat → Nat → Int) (m : Nat) : (cellsTo n f m).length = m := by simp [cellsTo]
theorem cells_len (n : Nat) (f : Nat → Nat → Int) : (cells n f).length = n * n := by simp [cells]
theorem cellsTo_next (n : Nat) (f : Nat → Nat → Int) (m : Nat) : cellsTo n f m ++ [f (m / n) (m % n)] = cellsTo n f (m + 1) := by simp [cellsTo, List.range_succ]
theorem ent_cells {n : Nat} (f : Nat → Nat → Int) {i j : Nat} (hi : i < n) (hj : j < n) : ent n (cells n f) i j = f i j := by
  have h := idx_lt hi hj
  have hd := div_idx (i := i) hj
  rw [ent, cells, List.getD_eq_getElem?_getD, List.getElem?_map, List.getElem?_range h]
  simp [hd.1, hd.2]
theorem cells_ent {n : Nat} {l : List Int} (h : l.length = n * n) : cells n (ent n l) = l := by
  apply List.ext_getElem
  · rw [cells_len, h]
  · intro i h1 h2
    have e : i / n * n + i % n = i := by rw [Nat.mul_comm]; exact Nat.div_add_mod i n
    simp [cells, ent, e, h2]
theorem cells_congr {n : Nat} {f g : Nat → Nat → Int} (h : ∀ i j, i < n → j < n → f i j = g i j) : cells n f = cells n g := by
  apply List.map_congr_left
  intro t ht
  have ht : t < n * n := by simpa using ht
  have hn : 0 < n := by
    cases n with
    | zero => simp at ht
    | succ n => omega
  exact h _ _ (Nat.div_lt_of_lt_mul ht) (Nat.mod_lt _ hn)
theorem cells_all {n : Nat} {f : Nat → Nat → Int} (h : ∀ i j, i < n → j < n → cv (f i j) = true) : (cells n f).all cv = true := by
  rw [List.all_eq_true]
  intro x hx
  obtain ⟨t, ht, rfl⟩ := List.mem_map.1 hx
  have ht : t < n * n := by simpa using ht
  have hn : 0 < n := by
    cases n with
    | zero => simp at ht
    | succ n => omega
  exact h _ _ (Nat.div_lt_of_lt_mul ht) (Nat.mod_lt _ hn)
theorem mv_cells {n : Nat} (h0 : 1 ≤ n) (h1 : n ≤ 4) {f : Nat → Nat → Int} (h : ∀ i j, i < n → j < n → cv (f i j) = true) : mv (n : Int) (cells n f) = true := by
  rw [mv_iff]
  refine ⟨⟨by omega, by omega, ?_⟩, cells_all h⟩
  rw [cells_len, Int.natCast_mul]
theorem mv_nat {n : Int} {l : List Int} (h : mv n l = true) : ∃ m : Nat, n = (m : Int) ∧ 1 ≤ m ∧ m ≤ 4 ∧ l.length = m * m ∧ ∀ x ∈ l, cv x = true := by
  rw [mv_iff] at h
  obtain ⟨m, rfl⟩ := Int.eq_ofNat_of_zero_le (show 0 ≤ n by omega)
  have e := Int.natCast_mul m m
  exact ⟨m, rfl, by omega, by omega, by omega, by simpa using h.2⟩
theorem cv_ent {n : Nat} {l : List Int} (hl : l.length = n * n) (h : ∀ x ∈ l, cv x = true) {i j : Nat} (hi : i < n) (hj : j < n) : cv (ent n l i j) = true := by
  have hb := idx_lt hi hj
  have : ent n l i j = l[i * n + j]'(by omega) := by
    rw [ent, List.getD_eq_getElem?_getD, List.getElem?_eq_getElem (by omega)]
    rfl
  rw [this]
  exact h _ (List.getElem_mem _)
theorem spec_l1All_ev (l : List Int) (hl : l.length < 9223372036854775807) : Ev (fun k => spec_l1All.f k l) (l.all cv) := by
  have h := down l.length (P := fun i => Ev (fun k => spec_l1All.l0 k l (l.length : Int) (i : Int)) ((l.drop i).all cv)) ?_ ?_ 0 (by omega)
  · exact h
  · refine Ev.step (fun k => rfl) ?_
    simp only [spec_l1All.l0, if_neg (show ¬ (l.length : Int) < (l.length : Int) by omega), dropn, List.all_nil]
    exact Ev.now _
  · intro i hi ih
    refine Ev.step (fun k => rfl) ?_
    simp only [spec_l1All.l0, if_pos (show (i : Int) < (l.length : Int) by omega), if_pos (show (0 : Int) ≤ (i : Int) by omega), rd_nat hi, spec_CostValid_eq, Option.bind_some, dropc hi, List.all_cons, w64n (show i < 9223372036854775807 by omega)]
    cases cv l[i] with
    | false => simpa using Ev.now _
    | true => simpa using ih
theorem spec_MatrixValid_ev (n : Int) (l : List Int) (hl : l.length < 9223372036854775807) : Ev (fun k => spec_MatrixValid.f k n l) (mv n l) := by
  simp only [spec_MatrixValid.f, spec_l1In_eq, Option.bind_some]
  by_cases h : 1 ≤ n ∧ n ≤ 4
  · have hs := sq_le h.1 h.2
    simp only [h, and_self, decide_true, if_true, w64 (show -9223372036854775808 ≤ n * n by omega) (show n * n ≤ 9223372036854775807 by omega)]
    by_cases e : (l.length : Int) = n * n
    · simp only [if_pos e]
      refine Ev.bind (spec_l1All_ev l hl) ?_
      exact ev_to (Ev.now _) (by simp [mv, h, e])
    · simp only [if_neg e]
      exact ev_to (Ev.now _) (by simp [mv, e])
  · simp only [h, decide_false, Bool.false_eq_true, if_false]
    refine ev_to (Ev.now false) ?_
    rw [mv, decide_eq_false (fun q => h ⟨q.1, q.2.1⟩)]
    rfl
theorem impl_IndexValid_ev (l : List Int) (hl : l.length < 9223372036854775807) : ∃ r, Ev (fun k => slices_IndexFunc_int_int_at_impl_MatrixValid_1.f k l) r ∧ decide (r ≥ 0) = !(l.all cv) := by
  have h := down l.length (P := fun i => ∃ r, Ev (fun k => slices_IndexFunc_int_int_at_impl_MatrixValid_1.l0 k l (l.length : Int) (i : Int)) r ∧ decide (r ≥ 0) = !((l.drop i).all cv)) ?_ ?_ 0 (by omega)
  · simpa only [slices_IndexFunc_int_int_at_impl_MatrixValid_1.f, List.drop_zero, cast0] using h
  · refine ⟨-1, Ev.step (fun k => rfl) ?_, by rw [dropn]; rfl⟩
    simp only [slices_IndexFunc_int_int_at_impl_MatrixValid_1.l0, if_neg (show ¬ (l.length : Int) < (l.length : Int) by omega)]
    exact Ev.now _
  · intro i hi ih
    obtain ⟨r, hr, hd⟩ := ih
    cases hc : cv l[i] with
    | true =>
      refine ⟨r, Ev.step (fun k => rfl) ?_, by rw [hd, dropc hi, List.all_cons, hc, Bool.true_and]⟩
      simp only [slices_IndexFunc_int_int_at_impl_MatrixValid_1.l0, if_pos (show (i : Int) < (l.length : Int) by omega), if_pos (show (0 : Int) ≤ (i : Int) by omega), rd_nat hi, impl_MatrixValid_1.f, impl_CostValid_eq, hc, Option.bind_some, Bool.not_true, Bool.false_eq_true, if_false, w64n (show i < 9223372036854775807 by omega)]
      exact hr
    | false =>
      refine ⟨(i : Int), Ev.step (fun k => rfl) ?_, by rw [dropc hi, List.all_cons, hc, decide_eq_true (by omega)]; rfl⟩
      simp only [slices_IndexFunc_int_int_at_impl_MatrixValid_1.l0, if_pos (show (i : Int) < (l.length : Int) by omega), if_pos (show (0 : Int) ≤ (i : Int) by omega), rd_nat hi, impl_MatrixValid_1.f, impl_CostValid_eq, hc, Option.bind_some, Bool.not_false, if_true]
      exact Ev.now _
theorem impl_MatrixValid_ev (n : Int) (l : List Int) (hl : l.length < 9223372036854775807) : Ev (fun k => impl_MatrixValid.f k n l) (mv n l) := by
  simp only [impl_MatrixValid.f]
  by_cases h1 : n < 1
  · simp only [if_pos h1]
    exact ev_to (Ev.now _) (by rw [mv, decide_eq_false (fun q => by omega)]; rfl)
  · simp only [if_neg h1]
    by_cases h4 : n > 4
    · simp only [if_pos h4]
      exact ev_to (Ev.now _) (by rw [mv, decide_eq_false (fun q => by omega)]; rfl)
    · have hs := sq_le (show 1 ≤ n by omega) (show n ≤ 4 by omega)
      simp only [if_neg h4, w64 (show -9223372036854775808 ≤ n * n by omega) (show n * n ≤ 9223372036854775807 by omega)]
      by_cases e : (l.length : Int) = n * n
      · obtain ⟨r, hr, hd⟩ := impl_IndexValid_ev l hl
        simp only [if_pos e, slices_ContainsFunc_int_int_at_impl_MatrixValid_1.f]
        refine Ev.bind (Ev.bind hr (Ev.now _)) ?_
        refine ev_to (Ev.now _) ?_
        rw [hd, Bool.not_not, mv, decide_eq_true ⟨by omega, by omega, e⟩, Bool.true_and]
      · simp only [if_neg e]
        exact ev_to (Ev.now _) (by rw [mv, decide_eq_false (fun q => e q.2.2)]; rfl)
theorem laws_szMatrix_eq (n : Int) (l : List Int) (hl : l.length ≤ 9223372036854775807) (m : Int) (h0 : 0 ≤ m) (h1 : m ≤ 1048576) : laws_szMatrix.f n l m = some (if m - l.length < 0 then -1 else m - l.length) := by
  have e : wrap64 (m - (l.length : Int)) = m - l.length := w64 (by omega) (by omega)
  simp only [laws_szMatrix.f, laws_szIntS.f, e]
  by_cases h : m - (l.length : Int) < 0
  · simp [h]
  · simp [h]
theorem laws_toIntS_ev (l : List Int) (hl : l.length ≤ 35184372088832) : Ev (fun k => laws_toIntS.f k l) l := by
  have h := down l.length (P := fun i => ∀ out : List Int, out.length = l.length → out.take i = l.take i → Ev (fun k => laws_toIntS.l0 k l out (i : Int)) l) ?_ ?_ 0 (by omega) (List.replicate l.length 0) (by simp) (by simp)
  · simpa only [laws_toIntS.f, if_pos (show (0 : Int) ≤ (l.length : Int) by omega), Int.toNat_natCast, if_pos hl, cast0] using h
  · intro out ho ht
    refine Ev.step (fun k => rfl) ?_
    simp only [laws_toIntS.l0, if_neg (show ¬ (l.length : Int) < (l.length : Int) by omega)]
    refine ev_to (Ev.now _) ?_
    rw [List.take_length, ← ho, List.take_length] at ht
    exact ht
  · intro i hi ih out ho ht
    refine Ev.step (fun k => rfl) ?_
    simp only [laws_toIntS.l0, if_pos (show (i : Int) < (l.length : Int) by omega), if_pos (show (0 : Int) ≤ (i : Int) by omega), if_pos (show (i : Int) < (out.length : Int) by omega), rd_nat hi, w64n (show i < 9223372036854775807 by omega), Int.toNat_natCast]
    refine ih _ (by simpa using ho) ?_
    rw [List.take_succ_eq_append_getElem hi, List.take_succ_eq_append_getElem (by simpa [ho] using hi)]
    rw [List.getElem_set_self, List.take_set, ht, List.set_eq_of_length_le (by simp; omega)]
theorem laws_toMatrix_ev (n : Int) (l : List Int) (hl : l.length ≤ 35184372088832) : Ev (fun k => laws_toMatrix.f k n l) (n, l) := by
  simp only [laws_toMatrix.f]
  exact Ev.bind (laws_toIntS_ev l hl) (Ev.now _)
theorem laws_eqIntS_ev (a b : List Int) (hl : a.length < 9223372036854775807) : Ev (fun k => laws_eqIntS.f k a b) (decide (a = b)) := by
  by_cases hab : a.length = b.length
  · have h := down a.length (P := fun i => Ev (fun k => laws_eqIntS.l0 k a b (i : Int)) (decide (a.drop i = b.drop i))) ?_ ?_ 0 (by omega)
    · simpa only [laws_eqIntS.f, if_pos (show (a.length : Int) = (b.length : Int) by omega), List.drop_zero, cast0] using h
    · refine Ev.step (fun k => rfl) ?_
      simp only [laws_eqIntS.l0, if_neg (show ¬ (a.length : Int) < (a.length : Int) by omega)]
      exact ev_to (Ev.now _) (by rw [dropn, hab, dropn]; rfl)
    · intro i hi ih
      have hi' : i < b.length := by omega
      refine Ev.step (fun k => rfl) ?_
      simp only [laws_eqIntS.l0, if_pos (show (i : Int) < (a.length : Int) by omega), if_pos (show (0 : Int) ≤ (i : Int) by omega), if_pos (show (i : Int) < (b.length : Int) by omega), rd_nat hi, rd_nat hi', w64n (show i < 9223372036854775807 by omega), dropc hi, dropc hi']
      by_cases e : a[i] = b[i]
      · simp only [if_pos e]
        exact ev_to ih (by simp only [List.cons.injEq, e, true_and])
      · simp only [if_neg e]
        exact ev_to (Ev.now false) (by simp only [List.cons.injEq, e, false_and, decide_false])
  · simp only [laws_eqIntS.f, if_neg (show ¬ (a.length : Int) = (b.length : Int) by omega)]
    exact ev_to (Ev.now _) (by rw [eq_comm, decide_eq_false_iff_not]; exact fun e => hab (by rw [e]))
theorem laws_eqMatrix_ev (n : Int) (l : List Int) (hl : l.length < 9223372036854775807) : Ev (fun k => laws_eqMatrix.f k n l n l) true := by
  simp only [laws_eqMatrix.f, if_true]
  refine Ev.bind (laws_eqIntS_ev l l hl) ?_
  simpa using Ev.now _

/-- A matrix' row. -/
def mrow (n : Nat) (l : List Int) (i : Nat) : List Int := (l.take ((i + 1) * n)).drop (i * n)
/-- The texts of the first rows. -/
def mrows (n : Nat) (l : List Int) (i : Nat) : List (List UInt8) := (List.range i).map fun j => fcosts (mrow n l j)
def fmatrix (n : Int) (l : List Int) : List UInt8 := if mv n l = true then joinL 47 (mrows n.toNat l n.toNat) else []
theorem mrows_ne {n : Nat} {l : List Int} {i : Nat} (h : i ≠ 0) : mrows n l i ≠ [] := fun e => h (by
  have := congrArg List.length e
  simpa [mrows] using this)
theorem mrow_len (n : Nat) (l : List Int) (i : Nat) : (mrow n l i).length ≤ n := by
  unfold mrow
  rw [List.length_drop, List.length_take, Nat.add_mul]
  omega
theorem mrows_next (n : Nat) (l : List Int) (i : Nat) : mrows n l (i + 1) = mrows n l i ++ [fcosts (mrow n l i)] := by simp [mrows, List.range_succ]
theorem fcosts_short (l : List Int) : (fcosts l).length ≤ 7 * l.length := by
  unfold fcosts
  split
  · exact fcosts_len l
  · simp
theorem mrows_len {n : Nat} (h4 : n ≤ 4) (l : List Int) (i : Nat) (hi : i ≤ 4) : (joinL 47 (mrows n l i)).length ≤ 200 := by
  have h := joinL_len (c := 47) (n := 28) (mrows n l i) (fun p hp => by
    obtain ⟨j, _, rfl⟩ := List.mem_map.1 hp
    have h1 := fcosts_short (mrow n l j)
    have h2 := mrow_len n l j
    omega)
  have : (mrows n l i).length = i := by simp [mrows]
  rw [this] at h
  omega
theorem row_wrap {n i : Nat} (hn : n ≤ 4) (hi : i ≤ 4) : wrap64 ((i : Int) * (n : Int)) = ((i * n : Nat) : Int) := by
  have : i * n ≤ 4 * 4 := Nat.mul_le_mul hi hn
  have e : (i : Int) * (n : Int) = ((i * n : Nat) : Int) := by simp
  rw [e]
  unfold wrap64
  omega
theorem row_in {n i : Nat} {l : List Int} (h4 : n ≤ 4) (hl : l.length = n * n) (hi : i < n) : i * n ≤ (i + 1) * n ∧ (i + 1) * n ≤ l.length := by
  refine ⟨Nat.mul_le_mul_right _ (Nat.le_succ _), ?_⟩
  rw [hl]
  exact Nat.mul_le_mul_right _ hi
theorem spec_FormatMatrix_ev (n : Int) (l : List Int) (hl : l.length < 9223372036854775807) : Ev (fun k => spec_FormatMatrix.f k n l) (ofL (fmatrix n l)) := by
  simp only [spec_FormatMatrix.f]
  cases hv : mv n l with
  | false =>
    refine Ev.step (fun k => rfl) ?_
    simp only [spec_FormatMatrix.l0]
    refine Ev.bind (spec_MatrixValid_ev n l hl) ?_
    simp only [hv, Bool.false_eq_true, if_false]
    refine Ev.step (fun k => rfl) ?_
    simp only [spec_FormatMatrix.j1, Bool.false_eq_true, if_false]
    refine ev_to (Ev.now _) ?_
    unfold fmatrix
    rw [hv]
    rfl
  | true =>
    obtain ⟨m, rfl, m1, m4, hlen, hall⟩ := mv_nat hv
    have h := down m (P := fun i => Ev (fun k => spec_FormatMatrix.l0 k (ofL (joinL 47 (mrows m l i))) (i : Int) (m : Int) l) (ofL (fmatrix (m : Int) l))) ?_ ?_ 0 (by omega)
    · simp only [cast0, mrows, List.range_zero, List.map_nil, joinL] at h
      exact h
    · refine Ev.step (fun k => rfl) ?_
      simp only [spec_FormatMatrix.l0]
      refine Ev.bind (spec_MatrixValid_ev _ l hl) ?_
      simp only [hv, if_true, show decide ((m : Int) < (m : Int)) = false from decide_eq_false (by omega)]
      refine Ev.step (fun k => rfl) ?_
      simp only [spec_FormatMatrix.j1, Bool.false_eq_true, if_false]
      refine ev_to (Ev.now _) ?_
      unfold fmatrix
      rw [hv, Int.toNat_natCast]
      rfl
    · intro i hi ih
      refine Ev.step (fun k => rfl) ?_
      simp only [spec_FormatMatrix.l0]
      refine Ev.bind (spec_MatrixValid_ev _ l hl) ?_
      simp only [hv, if_true, show decide ((i : Int) < (m : Int)) = true from decide_eq_true (by omega)]
      refine Ev.step (fun k => rfl) ?_
      obtain ⟨r1, r2⟩ := row_in m4 hlen hi
      have hi4 : i + 1 ≤ 4 := Nat.le_trans hi m4
      have hi9 : i < 9223372036854775807 := by omega
      have hrl := mrow_len m l i
      have hsl := mrows_len m4 l i (by omega)
      have hfl := fcosts_short (mrow m l i)
      have z1 : (joinL 47 (mrows m l i)).length + 1 ≤ 9223372036854775807 := by omega
      have z2 : (joinL 47 (mrows m l i)).length + 1 + (fcosts (mrow m l i)).length ≤ 9223372036854775807 := by omega
      have z3 : 0 + (fcosts (mrow m l i)).length ≤ 9223372036854775807 := by omega
      have z4 : (mrow m l i).length ≤ 1000000000000 := by omega
      have w1 : wrap64 ((i : Int) * (m : Int)) = ((i * m : Nat) : Int) := row_wrap m4 (Nat.le_of_succ_le hi4)
      have w2 : wrap64 ((i : Int) + 1) = ((i + 1 : Nat) : Int) := w64n hi9
      have w3 : wrap64 (((i + 1 : Nat) : Int) * (m : Int)) = (((i + 1) * m : Nat) : Int) := row_wrap (n := m) (i := i + 1) m4 hi4
      have er : (l.take ((((i + 1) * m : Nat) : Int)).toNat).drop ((((i * m : Nat) : Int)).toNat) = mrow m l i := by
        rw [Int.toNat_natCast, Int.toNat_natCast]
        rfl
      have e47 : (⟨#[47]⟩ : ByteArray) = ofL [47] := rfl
      have hf := spec_FormatCosts_ev (mrow m l i) z4
      rw [mrows_next] at ih
      simp only [spec_FormatMatrix.j1, if_true, w2, w1, w3, er, if_pos (nnc (i * m)), if_pos (show ((i * m : Nat) : Int) ≤ (((i + 1) * m : Nat) : Int) from Int.ofNat_le.2 r1), if_pos (show (((i + 1) * m : Nat) : Int) ≤ (l.length : Int) from Int.ofNat_le.2 r2)]
      by_cases h0 : i = 0
      · subst h0
        simp only [show ¬ ((0 : Nat) : Int) > 0 from by decide, if_false]
        refine Ev.bind hf ?_
        simp only [fcs, ofL_size, ofL_app, mrows, List.range_zero, List.map_nil, joinL, List.length_nil, List.nil_append, if_pos z3] at ih ⊢
        exact ih
      · have hne : mrows m l i ≠ [] := mrows_ne h0
        simp only [if_pos (show (i : Int) > 0 from Int.ofNat_lt.2 (Nat.pos_of_ne_zero h0)), ofL_size, if_pos z1]
        refine Ev.bind hf ?_
        simp only [fcs, e47, ofL_size, ofL_app, List.length_append, List.length_singleton, if_pos z2]
        rw [joinL_snoc 47 _ _ hne] at ih
        simpa only [List.append_assoc, List.singleton_append] using ih
theorem impl_rows_ev {m : Nat} {l : List Int} (m1 : 1 ≤ m) (m4 : m ≤ 4) (hlen : l.length = m * m) : Ev (fun k => impl_rows_at_impl_FormatCosts.f k (m : Int) l) (ofL (joinL 47 (mrows m l m))) := by
  have h := down m (P := fun i => Ev (fun k => impl_rows_at_impl_FormatCosts.l0 k ((mrows m l i).map ofL) (m : Int) (i : Int) (m : Int) l) (ofL (joinL 47 (mrows m l m)))) ?_ ?_ 0 (by omega)
  · simpa only [impl_rows_at_impl_FormatCosts.f, cast0, mrows, List.range_zero, List.map_nil] using h
  · refine Ev.step (fun k => rfl) ?_
    have e : ((mrows m l m).map ofL).map (·.data.toList) = mrows m l m := by
      rw [List.map_map]
      exact List.map_id _
    have e2 : (⟨#[47]⟩ : ByteArray).data.toList = [47] := rfl
    have hsl := mrows_len m4 l m m4
    have hl : (mrows m l m).length = m := by simp [mrows]
    simp only [impl_rows_at_impl_FormatCosts.l0, if_neg (show ¬ (m : Int) < (m : Int) by omega), strings_Join.f, e, e2, joinL_lib, List.length_map, hl]
    rw [if_pos ⟨by omega, by omega⟩]
    exact Ev.now _
  · intro i hi ih
    refine Ev.step (fun k => rfl) ?_
    obtain ⟨r1, r2⟩ := row_in m4 hlen hi
    have hi4 : i + 1 ≤ 4 := Nat.le_trans hi m4
    have hi9 : i < 9223372036854775807 := by omega
    have hrl := mrow_len m l i
    have er : (l.take ((((i + 1) * m : Nat) : Int)).toNat).drop ((((i * m : Nat) : Int)).toNat) = mrow m l i := by
      rw [Int.toNat_natCast, Int.toNat_natCast]
      rfl
    have hl : (mrows m l i).length = i := by simp [mrows]
    have z5 : i < 8796093022208 := by omega
    have z4 : (mrow m l i).length ≤ 1000000000 := by omega
    have w1 : wrap64 ((i : Int) * (m : Int)) = ((i * m : Nat) : Int) := row_wrap m4 (Nat.le_of_succ_le hi4)
    have w2 : wrap64 ((i : Int) + 1) = ((i + 1 : Nat) : Int) := w64n hi9
    have w3 : wrap64 (((i + 1 : Nat) : Int) * (m : Int)) = (((i + 1) * m : Nat) : Int) := row_wrap (n := m) (i := i + 1) m4 hi4
    rw [mrows_next, List.map_append, List.map_cons, List.map_nil] at ih
    simp only [impl_rows_at_impl_FormatCosts.l0, if_pos (ltc hi), w2, w1, w3, er, if_pos (nnc (i * m)), if_pos (show ((i * m : Nat) : Int) ≤ (((i + 1) * m : Nat) : Int) from Int.ofNat_le.2 r1), if_pos (show (((i + 1) * m : Nat) : Int) ≤ (l.length : Int) from Int.ofNat_le.2 r2), List.length_map, hl, if_pos z5]
    exact Ev.bind (impl_FormatCosts_ev (mrow m l i) z4) ih
theorem impl_FormatMatrix_ev (n : Int) (l : List Int) (hl : l.length < 9223372036854775807) : Ev (fun k => impl_FormatMatrix.f k n l) (ofL (fmatrix n l)) := by
  simp only [impl_FormatMatrix.f]
  refine Ev.bind (impl_MatrixValid_ev n l hl) ?_
  cases hv : mv n l with
  | false =>
    simp only [Bool.false_eq_true, if_false]
    refine ev_to (Ev.now _) ?_
    unfold fmatrix
    rw [hv]
    rfl
  | true =>
    obtain ⟨m, rfl, m1, m4, hlen, hall⟩ := mv_nat hv
    simp only [if_true]
    refine ev_to (Ev.bind (impl_rows_ev m1 m4 hlen) (Ev.now _)) ?_
    unfold fmatrix
    rw [hv, Int.toNat_natCast]
    rfl
theorem FnExactFormatMatrix : laws_FnExactFormatMatrix.Pure := by
  intro n l _ hl _
  unfold maxLen at hl
  refine Ev.rounds ?_
  simp only [laws_FnExactFormatMatrix.f, laws_szMatrix_eq n l hl 1048576 (by omega) (by omega), Option.bind_some]
  by_cases h : 1048576 - (l.length : Int) < 0
  · simp only [if_pos h, if_pos (show (-1 : Int) < 0 by omega)]
    exact Ev.now _
  · simp only [if_neg h]
    have ht := laws_toMatrix_ev n l (by omega)
    refine Ev.bind ht (Ev.bind (spec_FormatMatrix_ev n l (by omega)) (Ev.bind ht (Ev.bind (impl_FormatMatrix_ev n l (by omega)) ?_)))
    simp only [if_true]
    refine Ev.bind ht (Ev.bind (laws_eqMatrix_ev n l (by omega)) ?_)
    simp only [if_true]
    exact Ev.now _

end Go.Proofs.YtmnfbnpclanafaaDoor.Pure
