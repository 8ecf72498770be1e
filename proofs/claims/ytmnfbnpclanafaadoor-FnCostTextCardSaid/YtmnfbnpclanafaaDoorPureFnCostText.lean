/- The pure statement of FnCostText: the printed functions answer true at every input that can be read. -/
import Derived.Test.YtmnfbnpclanafaaDoorPGPx10
set_option linter.unusedVariables false
set_option linter.unusedSimpArgs false
namespace Go.Proofs.YtmnfbnpclanafaaDoor.Pure
open Go.RowKit Go.Proofs.YtmnfbnpclanafaaDoor.PGP Go.Proofs.YtmnfbnpclanafaaDoorW.PrintWords Go.Proofs.YtmnfbnpclanafaaDoorW.PrintLast Go.Proofs.YtmnfbnpclanafaaDoorW.PrintMore

theorem w64 {x : Int} (h0 : -9223372036854775808 ≤ x) (h1 : x ≤ 9223372036854775807) : wrap64 x = x := by unfold wrap64; omega
theorem cast0 : ((0 : Nat) : Int) = 0 := rfl
theorem w64n {i : Nat} (h : i < 9223372036854775807) : wrap64 ((i : Int) + 1) = ((i + 1 : Nat) : Int) := by rw [w64 (by omega) (by omega)]; omega
theorem rd_nat {l : List Int} {i : Nat} (h : i < l.length) : rd l (i : Int) = l[i] := by simp [rd, List.getD_eq_getElem?_getD, h]
theorem mn_eq (a b : Int) : mn a b = min a b := by unfold mn; split <;> omega
theorem mx_eq (a b : Int) : mx a b = max a b := by unfold mx; split <;> omega
theorem down (n : Nat) {P : Nat → Prop} (h0 : P n) (hs : ∀ i, i < n → P (i + 1) → P i) : ∀ i, i ≤ n → P i := by
  have h : ∀ d i, i + d = n → P i := by
    intro d
    induction d with
    | zero => intro i hi; obtain rfl : i = n := by omega
              exact h0
    | succ d ih => intro i hi; exact hs i (by omega) (ih (i + 1) (by omega))
  exact fun i hi => h (n - i) i (by omega)
theorem ev_to {α : Type} {g : Nat → Option α} {r r' : α} (h : Ev g r) (e : r = r') : Ev g r' := e ▸ h
theorem dropc {α : Type} {l : List α} {i : Nat} (h : i < l.length) : l.drop i = l[i] :: l.drop (i + 1) := List.drop_eq_getElem_cons h
theorem dropn {α : Type} (l : List α) : l.drop l.length = [] := List.drop_eq_nil_of_le (Nat.le_refl _)
theorem wf64 {x : Int} (h : (Lit.int .i64 x).wf = true) : -9223372036854775808 ≤ x ∧ x ≤ 9223372036854775807 := by
  simp [Lit.wf, IntKind.min, IntKind.max, IntKind.signed, IntKind.bits] at h
  omega
theorem wf8 {x : Int} (h : (Lit.int .u8 x).wf = true) : 0 ≤ x ∧ x ≤ 255 := by
  simp [Lit.wf, IntKind.min, IntKind.max, IntKind.signed, IntKind.bits] at h
  omega
theorem nnc (q : Nat) : (0 : Int) ≤ (q : Int) := Int.natCast_nonneg q
theorem ltc {a b : Nat} (h : a < b) : (a : Int) < (b : Int) := Int.ofNat_lt.2 h
theorem dec_step {u : Nat} (h : ¬ u < 10) : Lib.decDigits u = Lib.decDigits (u / 10) ++ [UInt8.ofNat (48 + u % 10)] := by rw [Lib.decDigits, dif_neg h]
theorem dec_one {u : Nat} (h : u < 10) : Lib.decDigits u = [UInt8.ofNat (48 + u)] := by rw [Lib.decDigits, dif_pos h]
theorem digit_nat {d : Nat} (h : d < 10) : (UInt8.ofNat (48 + d)).toNat = 48 + d := by
  have : (UInt8.ofNat (48 + d)).toNat = (48 + d) % 256 := UInt8.toNat_ofNat'
  omega
/-- What digits spell. -/
def dstep (a : Nat) (c : UInt8) : Nat := a * 10 + (c.toNat - 48)
def numv (l : List UInt8) : Nat := l.foldl dstep 0
theorem numv_snoc (l : List UInt8) (c : UInt8) : numv (l ++ [c]) = numv l * 10 + (c.toNat - 48) := by simp [numv, List.foldl_append, dstep]
theorem numv_dec (u : Nat) : numv (Lib.decDigits u) = u := by
  induction u using Nat.strongRecOn with
  | _ u ih =>
    by_cases h : u < 10
    · have e : numv [UInt8.ofNat (48 + u)] = 0 * 10 + ((UInt8.ofNat (48 + u)).toNat - 48) := rfl
      rw [dec_one h, e, digit_nat h]
      omega
    · rw [dec_step h, numv_snoc, ih (u / 10) (by omega), digit_nat (Nat.mod_lt _ (by omega))]
      omega
def isd (c : UInt8) : Prop := 48 ≤ c.toNat ∧ c.toNat ≤ 57
def digs (l : List UInt8) : Prop := ∀ c ∈ l, isd c
theorem dec_digs (u : Nat) : digs (Lib.decDigits u) := by
  induction u using Nat.strongRecOn with
  | _ u ih =>
    intro c hc
    by_cases h : u < 10
    · rw [dec_one h, List.mem_singleton] at hc
      subst hc
      unfold isd
      rw [digit_nat h]
      omega
    · rw [dec_step h, List.mem_append, List.mem_singleton] at hc
      rcases hc with hc | rfl
      · exact ih (u / 10) (by omega) c hc
      · unfold isd
        rw [digit_nat (Nat.mod_lt _ (by omega))]
        omega
theorem dec_ne (u : Nat) : Lib.decDigits u ≠ [] := by
  by_cases h : u < 10
  · rw [dec_one h]
    exact List.cons_ne_nil _ _
  · rw [dec_step h]
    simp
theorem dec_len : ∀ (k u : Nat), u < 10 ^ (k + 1) → (Lib.decDigits u).length ≤ k + 1
  | 0, u, h => by rw [dec_one (by simpa using h)]; exact Nat.le_refl _
  | k + 1, u, h => by
    by_cases c : u < 10
    · rw [dec_one c]
      exact Nat.succ_le_succ (Nat.zero_le _)
    · rw [dec_step c, List.length_append]
      have := dec_len k (u / 10) (by rw [Nat.pow_succ] at h; omega)
      simp only [List.length_singleton]
      omega
theorem fold_ge : ∀ (l : List UInt8) (a : Nat), a ≤ l.foldl dstep a
  | [], a => Nat.le_refl _
  | c :: r, a => by
    have := fold_ge r (dstep a c)
    have e : dstep a c = a * 10 + (c.toNat - 48) := rfl
    simp only [List.foldl_cons]
    omega
theorem parse_ok : ∀ (l : List UInt8) (a : Nat), digs l → l.foldl dstep a < 1000000000 → Lib.parseUint10 a l = .ok (l.foldl dstep a)
  | [], a, _, _ => rfl
  | c :: r, a, hd, h => by
    have hc : isd c := hd c List.mem_cons_self
    have hge := fold_ge r (dstep a c)
    have e : dstep a c = a * 10 + (c.toNat - 48) := rfl
    simp only [List.foldl_cons] at h ⊢
    unfold Lib.parseUint10
    rw [if_pos (show 48 ≤ c.toNat ∧ c.toNat ≤ 57 from hc), if_neg (by omega), if_neg (by omega)]
    exact parse_ok r _ (fun x hx => hd x (List.mem_cons_of_mem _ hx)) h
theorem atoi_dec {u : Nat} (h : u ≤ 999999) : Lib.atoiAll (Lib.decDigits u) = .ok (u : Int) := by
  obtain ⟨c, r, e⟩ : ∃ c r, Lib.decDigits u = c :: r := by
    cases e : Lib.decDigits u with
    | nil => exact absurd e (dec_ne u)
    | cons c r => exact ⟨c, r, rfl⟩
  have hd := dec_digs u
  have hv := numv_dec u
  rw [e] at hd hv ⊢
  have hc : isd c := hd c List.mem_cons_self
  unfold isd at hc
  have hp : Lib.parseUint10 0 (c :: r) = .ok u := by
    have := parse_ok (c :: r) 0 hd (by show numv (c :: r) < _; rw [hv]; omega)
    rw [this]
    exact congrArg _ hv
  rw [Lib.atoiAll_plain c r (by omega) (by omega)]
  unfold Lib.parseMag
  rw [if_neg (List.cons_ne_nil _ _), hp]
  show (if 9223372036854775808 ≤ u then Lib.NumEnd.range else Lib.NumEnd.ok (u : Int)) = _
  rw [if_neg (by omega)]
/-- What a text of a cost says. -/
def pcost (l : List UInt8) : Int × Bool := if l = [45] then (1000000, true) else if numv l ≤ 999999 ∧ l = Lib.decDigits (numv l) then ((numv l : Int), true) else (0, false)
/-- The text of a cost. -/
def fcost (a : Int) : List UInt8 := if 0 ≤ a ∧ a ≤ 1000000 then (if a = 1000000 then [45] else Lib.decDigits a.toNat) else []
theorem dec_minus (u : Nat) : Lib.decDigits u ≠ [45] := fun h => by
  have := dec_digs u 45 (by rw [h]; exact List.mem_cons_self)
  unfold isd at this
  have e : (45 : UInt8).toNat = 45 := rfl
  omega
theorem pcost_dec {u : Nat} (h : u ≤ 999999) : pcost (Lib.decDigits u) = ((u : Int), true) := by
  unfold pcost
  rw [if_neg (dec_minus u), numv_dec, if_pos ⟨h, rfl⟩]
theorem pcost_no {l : List UInt8} (h1 : l ≠ [45]) (h2 : ∀ u, u ≤ 999999 → l ≠ Lib.decDigits u) : pcost l = (0, false) := by
  unfold pcost
  rw [if_neg h1, if_neg fun h => h2 _ h.1 h.2]
theorem pcost_f {a : Int} (h0 : 0 ≤ a) (h1 : a ≤ 1000000) : pcost (fcost a) = (a, true) := by
  unfold fcost
  rw [if_pos ⟨h0, h1⟩]
  by_cases c : a = 1000000
  · rw [if_pos c, c]
    rfl
  · rw [if_neg c, pcost_dec (by omega)]
    congr 1
    omega
theorem pcost_yes {l : List UInt8} {a : Int} (h : pcost l = (a, true)) : 0 ≤ a ∧ a ≤ 1000000 ∧ fcost a = l := by
  unfold pcost at h
  split at h
  · rename_i e
    injection h with h _
    subst h
    exact ⟨by omega, by omega, e.symm⟩
  · split at h
    · rename_i hh
      injection h with h _
      subst h
      refine ⟨by omega, by omega, ?_⟩
      unfold fcost
      rw [if_pos ⟨by omega, by omega⟩, if_neg (by omega), Int.toNat_natCast]
      exact hh.2.symm
    · injection h with _ h
      cases h
theorem pcost_cases (l : List UInt8) : (∃ a, pcost l = (a, true)) ∨ pcost l = (0, false) := by
  unfold pcost
  split
  · exact .inl ⟨_, rfl⟩
  · split
    · exact .inl ⟨_, rfl⟩
    · exact .inr rfl
/-- A text cut at every such sign. -/
def cutL (c : UInt8) : List UInt8 → List (List UInt8)
  | [] => [[]]
  | x :: r => if x = c then [] :: cutL c r else
    match cutL c r with
    | [] => [[x]]
    | h :: t => (x :: h) :: t
theorem cutL_ne (c : UInt8) : ∀ l, cutL c l ≠ []
  | [] => List.cons_ne_nil _ _
  | x :: r => by
    unfold cutL
    split
    · exact List.cons_ne_nil _ _
    · split <;> exact List.cons_ne_nil _ _
theorem cutL_cons {c x : UInt8} {r h : List UInt8} {t : List (List UInt8)} (hx : ¬ x = c) (e : cutL c r = h :: t) : cutL c (x :: r) = (x :: h) :: t := by rw [cutL, if_neg hx, e]
theorem cutL_no {c : UInt8} : ∀ {p : List UInt8}, c ∉ p → ∀ l, cutL c (p ++ l) = (p ++ (cutL c l).head (cutL_ne c l)) :: (cutL c l).tail
  | [], _, l => by
    show cutL c l = (cutL c l).head _ :: _
    exact (List.cons_head_tail (cutL_ne c l)).symm
  | x :: p, h, l => by
    have hx : ¬ x = c := fun e => h (by rw [e]; exact List.mem_cons_self)
    exact cutL_cons hx (cutL_no (fun hh => h (List.mem_cons_of_mem _ hh)) l)
theorem cutL_alone {c : UInt8} {p : List UInt8} (h : c ∉ p) : cutL c p = [p] := by
  have := cutL_no h []
  rw [List.append_nil] at this
  rw [this]
  simp [cutL]
theorem cutL_sep {c : UInt8} {p : List UInt8} (h : c ∉ p) (l : List UInt8) : cutL c (p ++ c :: l) = p :: cutL c l := by
  rw [cutL_no h]
  have e : cutL c (c :: l) = [] :: cutL c l := by
    rw [cutL, if_pos rfl]
  simp only [e, List.head_cons, List.tail_cons, List.append_nil]
/-- Parts with a sign between. -/
def joinL (c : UInt8) : List (List UInt8) → List UInt8
  | [] => []
  | [p] => p
  | p :: q :: r => p ++ c :: joinL c (q :: r)
theorem cutL_join {c : UInt8} : ∀ {ps : List (List UInt8)}, ps ≠ [] → (∀ p ∈ ps, c ∉ p) → cutL c (joinL c ps) = ps
  | [], h, _ => absurd rfl h
  | [p], _, h => cutL_alone (h p List.mem_cons_self)
  | p :: q :: r, _, h => by
    show cutL c (p ++ c :: joinL c (q :: r)) = _
    rw [cutL_sep (h p List.mem_cons_self), cutL_join (List.cons_ne_nil _ _) (fun x hx => h x (List.mem_cons_of_mem _ hx))]
theorem cutL_none (c : UInt8) : ∀ (l : List UInt8), ∀ p ∈ cutL c l, c ∉ p
  | [], p, hp => by
    have : p = [] := by simpa [cutL] using hp
    rw [this]
    exact List.not_mem_nil
  | x :: r, p, hp => by
    unfold cutL at hp
    split at hp
    · rcases List.mem_cons.1 hp with rfl | hp
      · exact List.not_mem_nil
      · exact cutL_none c r p hp
    · rename_i hx
      split at hp
      · rename_i e
        exact absurd e (cutL_ne c r)
      · rename_i h t e
        rcases List.mem_cons.1 hp with rfl | hp
        · intro hc
          rcases List.mem_cons.1 hc with e2 | hc
          · exact hx e2.symm
          · exact cutL_none c r h (by rw [e]; exact List.mem_cons_self) hc
        · exact cutL_none c r p (by rw [e]; exact List.mem_cons_of_mem _ hp)
theorem join_cutL (c : UInt8) : ∀ (l : List UInt8), joinL c (cutL c l) = l
  | [] => rfl
  | x :: r => by
    have ih := join_cutL c r
    unfold cutL
    split
    · rename_i hx
      cases e : cutL c r with
      | nil => exact absurd e (cutL_ne c r)
      | cons h t =>
        show [] ++ c :: joinL c (h :: t) = _
        rw [← e, ih, hx]
        rfl
    · cases e : cutL c r with
      | nil => exact absurd e (cutL_ne c r)
      | cons h t =>
        rw [e] at ih
        cases t with
        | nil => show x :: h = _; rw [show h = r from ih]
        | cons q t =>
          show (x :: h) ++ c :: joinL c (q :: t) = _
          rw [← ih]
          rfl
theorem joinL_lib (c : UInt8) : ∀ (ps : List (List UInt8)), Lib.join ps [c] = joinL c ps
  | [] => rfl
  | [p] => Lib.join_one p [c]
  | p :: q :: r => by
    have ih := joinL_lib c (q :: r)
    rw [Lib.join_cons, joinL, ← ih, Lib.join_cons]
    simp [Lib.joinTail]
/-- A cost: between 0 and 1000000. -/
def cv (a : Int) : Bool := decide (0 ≤ a ∧ a ≤ 1000000)
theorem cv_iff {a : Int} : cv a = true ↔ 0 ≤ a ∧ a ≤ 1000000 := by simp [cv]
theorem impl_CostValid_eq (a : Int) : impl_CostValid.f a = some (cv a) := by
  unfold impl_CostValid.f cv
  split <;> simp <;> omega
theorem ba_ext {a b : ByteArray} (h : a.data.toList = b.data.toList) : a = b := by
  cases a with
  | mk a => cases b with
    | mk b => exact congrArg ByteArray.mk (Array.toList_inj.1 h)
def ofL (l : List UInt8) : ByteArray := ⟨l.toArray⟩
theorem ofL_toL (l : List UInt8) : (ofL l).data.toList = l := rfl
theorem ofL_self (s : ByteArray) : ofL s.data.toList = s := ba_ext rfl
theorem ofL_app (a b : List UInt8) : ofL a ++ ofL b = ofL (a ++ b) := ba_ext (by simp [ofL])
theorem ofL_size (l : List UInt8) : (ofL l).size = l.length := by simp [ofL, ByteArray.size]
/-- The text of a cost, as a string. -/
def fc (a : Int) : ByteArray := ofL (fcost a)
theorem fcost_len (a : Int) : (fcost a).length ≤ 6 := by
  unfold fcost
  split
  · split
    · simp
    · exact dec_len 5 _ (by omega)
  · simp
theorem impl_FormatCost_eq (a : Int) : impl_FormatCost.f a = some (fc a) := by
  simp only [impl_FormatCost.f, impl_CostValid_eq, Option.bind_some]
  by_cases h : 0 ≤ a ∧ a ≤ 1000000
  · rw [if_pos (show cv a = true from cv_iff.2 h)]
    by_cases c : a = 1000000
    · rw [if_pos c, c]
      rfl
    · rw [if_neg c]
      unfold strconv_Itoa_48.f
      rw [if_pos ⟨by omega, by omega⟩]
      show some (some _ |>.get rfl) = _
      unfold fc fcost Lib.itoa
      rw [if_pos h, if_neg c, if_neg (by omega)]
      rfl
  · rw [if_neg (show ¬ cv a = true from fun q => h (cv_iff.1 q))]
    unfold fc fcost
    rw [if_neg h]
    rfl
theorem ba_toL (s : ByteArray) : s.toList = s.data.toList := ByteArray.toList_eq s
theorem at_eq (s : ByteArray) (a : Int) : impl_ParseCost.at_ s a = some (if cv a = true ∧ fcost a = s.data.toList then (a, true) else (0, false)) := by
  simp only [impl_ParseCost.at_, impl_CostValid_eq, impl_FormatCost_eq, Option.bind_some, ba_toL]
  cases h : cv a with
  | false => simp
  | true =>
    simp only [if_true, true_and]
    show (if fcost a = s.data.toList then _ else _) = _
    split <;> rfl
theorem impl_ParseCost_eq {s : ByteArray} (hs : s.size ≤ 140737488351232) : impl_ParseCost.f s = some (pcost s.data.toList) := by
  unfold impl_ParseCost.f
  rw [if_pos hs, ba_toL]
  by_cases c : s.data.toList = [45]
  · rw [if_pos c, at_eq, c]
    rfl
  · rw [if_neg c]
    by_cases hex : ∃ u, u ≤ 999999 ∧ s.data.toList = Lib.decDigits u
    · obtain ⟨u, hu, e⟩ := hex
      rw [e, atoi_dec hu]
      show impl_ParseCost.at_ s (u : Int) = _
      have hf : fcost (u : Int) = Lib.decDigits u := by
        unfold fcost
        rw [if_pos ⟨by omega, by omega⟩, if_neg (by omega), Int.toNat_natCast]
      rw [at_eq, pcost_dec hu, if_pos ⟨cv_iff.2 ⟨by omega, by omega⟩, by rw [hf, e]⟩]
    · rw [pcost_no c fun u hu e => hex ⟨u, hu, e⟩]
      split
      · rename_i v _
        rw [at_eq, if_neg]
        rintro ⟨h1, h2⟩
        have hv := cv_iff.1 h1
        unfold fcost at h2
        rw [if_pos hv] at h2
        split at h2
        · exact c h2.symm
        · exact hex ⟨v.toNat, by omega, h2.symm⟩
      · rfl
theorem bt_nat {s : ByteArray} {i : Nat} (h : i < s.size) : bt s (i : Int) = (s[i].toNat : Int) := by simp [bt, h]
def wordv (s : ByteArray) : Bool := s.data.toList.all (fun c => c == 97 || c == 98) && decide (s.size ≤ 1000)
def wordfrom (s : ByteArray) (i : Nat) : Bool := (s.data.toList.drop i).all (fun c => c == 97 || c == 98) && decide (s.size ≤ 1000)
theorem wordfrom_end (s : ByteArray) : wordfrom s s.size = decide ((s.size : Int) ≤ 1000) := by
  have : s.data.toList.drop s.size = [] := List.drop_eq_nil_of_le (by simp)
  simp only [wordfrom, this, List.all_nil, Bool.true_and]
  by_cases h : s.size ≤ 1000
  · rw [decide_eq_true h, decide_eq_true (by omega)]
  · rw [decide_eq_false h, decide_eq_false (by omega)]
theorem wordfrom_step {s : ByteArray} {i : Nat} (h : i < s.size) : wordfrom s i = ((s[i] == 97 || s[i] == 98) && wordfrom s (i + 1)) := by
  have : s.data.toList.drop i = s[i] :: s.data.toList.drop (i + 1) := List.drop_eq_getElem_cons (by simpa using h)
  simp only [wordfrom, this, List.all_cons, Bool.and_assoc]
theorem byte_is (c : UInt8) (n : Nat) (hn : n < 256) : ((c.toNat : Int) = (n : Int)) ↔ c = UInt8.ofNat n := by
  constructor
  · intro h
    apply UInt8.toNat_inj.1
    have : (UInt8.ofNat n).toNat = n % 256 := UInt8.toNat_ofNat'
    omega
  · intro h
    have : (UInt8.ofNat n).toNat = n % 256 := UInt8.toNat_ofNat'
    rw [h]
    omega
theorem byte97 (c : UInt8) : ((c.toNat : Int) = 97) ↔ c = 97 := byte_is c 97 (by decide)
theorem byte98 (c : UInt8) : ((c.toNat : Int) = 98) ↔ c = 98 := byte_is c 98 (by decide)
/-- What digits spell behind a number, or none if there is another sign. -/
def decs : Nat → List UInt8 → Option Nat
  | a, [] => some a
  | a, c :: r => if 48 ≤ c.toNat ∧ c.toNat ≤ 57 then decs (a * 10 + (c.toNat - 48)) r else none
theorem decs_digs : ∀ (l : List UInt8) (a : Nat), digs l → decs a l = some (l.foldl dstep a)
  | [], a, _ => rfl
  | c :: r, a, h => by
    have hc : isd c := h c List.mem_cons_self
    unfold decs
    rw [if_pos (show 48 ≤ c.toNat ∧ c.toNat ≤ 57 from hc)]
    exact decs_digs r _ (fun x hx => h x (List.mem_cons_of_mem _ hx))
theorem decs_some : ∀ (l : List UInt8) (a v : Nat), decs a l = some v → digs l ∧ v = l.foldl dstep a
  | [], a, v, h => ⟨fun _ hc => (List.not_mem_nil hc).elim, (Option.some.inj h).symm⟩
  | c :: r, a, v, h => by
    unfold decs at h
    split at h
    · rename_i hc
      obtain ⟨h1, h2⟩ := decs_some r _ v h
      refine ⟨fun x hx => ?_, h2⟩
      rcases List.mem_cons.1 hx with rfl | hx
      · exact hc
      · exact h1 x hx
    · cases h
/-- What the reference reads as a number. -/
def numS (l : List UInt8) : Int × Bool :=
  let neg := l.head? == some 45
  let r := if neg = true then l.tail else l
  if r = [] ∨ 17 < r.length ∨ (r.head? = some 48 ∧ (1 < r.length ∨ neg = true)) then (0, false) else
    match decs 0 r with
    | none => (0, false)
    | some v => (if neg = true then -(v : Int) else (v : Int), true)
theorem canon : ∀ (n : Nat) (l : List UInt8), l.length = n → digs l → l ≠ [] → (l.head? ≠ some 48 ∨ l.length = 1) → l = Lib.decDigits (numv l) := by
  intro n
  induction n with
  | zero => intro l h _ hn; exact absurd (List.eq_nil_of_length_eq_zero h) hn
  | succ n ih =>
    intro l hl hd hn hc
    obtain ⟨l', c, rfl⟩ : ∃ l' c, l = l' ++ [c] := ⟨l.dropLast, l.getLast hn, (List.dropLast_concat_getLast hn).symm⟩
    have hcd : isd c := hd c (by simp)
    unfold isd at hcd
    have hb : UInt8.ofNat (48 + (c.toNat - 48)) = c := by
      apply UInt8.toNat_inj.1
      rw [digit_nat (by omega)]
      omega
    cases l' with
    | nil =>
      have e : numv ([] ++ [c]) = c.toNat - 48 := by
        rw [numv_snoc]
        show 0 * 10 + _ = _
        omega
      rw [e, dec_one (by omega), hb]
      rfl
    | cons b r =>
      have hb0 : b.toNat ≠ 48 := by
        rcases hc with hc | hc
        · intro h
          refine hc ?_
          have : b = 48 := UInt8.toNat_inj.1 h
          rw [this]
          rfl
        · simp at hc
      have hbd : isd b := hd b (by simp)
      unfold isd at hbd
      have hd' : digs (b :: r) := fun x hx => hd x (List.mem_append_left _ hx)
      have hrec := ih (b :: r) (by simp at hl ⊢; omega) hd' (List.cons_ne_nil _ _) (.inl fun h => hb0 (by have := Option.some.inj h; rw [this]; rfl))
      have hpos : 1 ≤ numv (b :: r) := by
        have := fold_ge r (dstep 0 b)
        have e : dstep 0 b = 0 * 10 + (b.toNat - 48) := rfl
        show 1 ≤ List.foldl dstep (dstep 0 b) r
        omega
      rw [numv_snoc, dec_step (by omega)]
      have e1 : (numv (b :: r) * 10 + (c.toNat - 48)) / 10 = numv (b :: r) := by omega
      have e2 : (numv (b :: r) * 10 + (c.toNat - 48)) % 10 = c.toNat - 48 := by omega
      rw [e1, e2, hb, ← hrec]
theorem dec_head (u : Nat) (h : (Lib.decDigits u).head? = some 48) : (Lib.decDigits u).length = 1 := by
  induction u using Nat.strongRecOn with
  | _ u ih =>
    by_cases c : u < 10
    · rw [dec_one c]
      rfl
    · exfalso
      rw [dec_step c] at h
      have hne := dec_ne (u / 10)
      have hh : (Lib.decDigits (u / 10)).head? = some 48 := by
        cases e : Lib.decDigits (u / 10) with
        | nil => exact absurd e hne
        | cons b r => rw [e] at h; exact h
      have h1 := ih (u / 10) (by omega) hh
      by_cases d : u / 10 < 10
      · rw [dec_one d] at hh
        have e := congrArg UInt8.toNat (Option.some.inj hh)
        rw [digit_nat d] at e
        have e48 : (48 : UInt8).toNat = 48 := rfl
        omega
      · rw [dec_step d, List.length_append, List.length_singleton] at h1
        exact dec_ne (u / 10 / 10) (List.eq_nil_of_length_eq_zero (by omega))
/-- The reference's reading of a cost is the same. -/
theorem numS_cost (l : List UInt8) : (if l = [45] then ((1000000 : Int), true) else if (numS l).2 = true ∧ 0 ≤ (numS l).1 ∧ (numS l).1 ≤ 999999 then ((numS l).1, true) else (0, false)) = pcost l := by
  by_cases h45 : l = [45]
  · rw [if_pos h45, h45]
    rfl
  rw [if_neg h45]
  by_cases hex : ∃ u, u ≤ 999999 ∧ l = Lib.decDigits u
  · obtain ⟨u, hu, rfl⟩ := hex
    have hs : numS (Lib.decDigits u) = ((u : Int), true) := by
      have hneg : ((Lib.decDigits u).head? == some 45) = false := by
        cases e : Lib.decDigits u with
        | nil => exact absurd e (dec_ne u)
        | cons b r =>
          have hb := dec_digs u b (by rw [e]; exact List.mem_cons_self)
          unfold isd at hb
          have hbn : b ≠ 45 := fun hh => by
            have e45 : (45 : UInt8).toNat = 45 := rfl
            rw [hh] at hb
            omega
          simpa using hbn
      have hlen := dec_len 5 u (by omega)
      unfold numS
      simp only [hneg, Bool.false_eq_true, if_false, or_false]
      rw [if_neg, decs_digs _ _ (dec_digs u)]
      · show ((numv (Lib.decDigits u) : Int), true) = _
        rw [numv_dec]
      · rintro (h | h | ⟨h, h1⟩)
        · exact dec_ne u h
        · omega
        · have := dec_head u h
          omega
    rw [hs, if_pos ⟨rfl, by show (0 : Int) ≤ u; omega, by show (u : Int) ≤ 999999; omega⟩, pcost_dec hu]
  · rw [pcost_no h45 fun u hu e => hex ⟨u, hu, e⟩, if_neg]
    rintro ⟨h1, h2, h3⟩
    apply hex
    unfold numS at h1 h2 h3
    by_cases hneg : (l.head? == some 45) = true
    · simp only [hneg, if_true, or_true, and_true] at h1 h2 h3
      split at h1
      · cases h1
      · rename_i hc
        rw [if_neg hc] at h2 h3
        cases hd : decs 0 l.tail with
        | none => rw [hd] at h1; cases h1
        | some v =>
          rw [hd] at h2 h3
          simp only at h2 h3
          obtain ⟨hdg, hv⟩ := decs_some _ _ _ hd
          cases ht : l.tail with
          | nil => exact absurd (.inl ht) hc
          | cons b r =>
            exfalso
            rw [ht] at hdg hv
            have hb := hdg b List.mem_cons_self
            unfold isd at hb
            have hb0 : b.toNat ≠ 48 := fun h => hc (.inr (.inr (by
              have : b = 48 := UInt8.toNat_inj.1 h
              rw [ht, this]
              rfl)))
            have := fold_ge r (dstep 0 b)
            have e : dstep 0 b = 0 * 10 + (b.toNat - 48) := rfl
            have e2 : v = List.foldl dstep (dstep 0 b) r := hv
            omega
    · have hneg : (l.head? == some 45) = false := Bool.eq_false_iff.2 hneg
      simp only [hneg, Bool.false_eq_true, if_false, or_false] at h1 h2 h3
      split at h1
      · cases h1
      · rename_i hc
        rw [if_neg hc] at h2 h3
        cases hd : decs 0 l with
        | none => rw [hd] at h1; cases h1
        | some v =>
          rw [hd] at h2 h3
          simp only at h2 h3
          obtain ⟨hdg, hv⟩ := decs_some _ _ _ hd
          have hl : l ≠ [] := fun h => hc (.inl h)
          refine ⟨v, by omega, ?_⟩
          have hcan : l.head? ≠ some 48 ∨ l.length = 1 := by
            by_cases h48 : l.head? = some 48
            · right
              have : ¬ 1 < l.length := fun h => hc (.inr (.inr ⟨h48, h⟩))
              have : l.length ≠ 0 := fun h => hl (List.eq_nil_of_length_eq_zero h)
              omega
            · exact .inl h48
          rw [hv]
          exact canon _ l rfl hdg hl hcan
/-- A number behind its sign. -/
def signd (neg : Bool) : Option Nat → Int × Bool
  | none => (0, false)
  | some v => (if neg = true then -(v : Int) else (v : Int), true)
theorem l13Num_l0 (s : ByteArray) (neg : Bool) (hs : s.size ≤ 17) : ∀ i, i ≤ s.size → ∀ v : Nat, v < 10 ^ i → Ev (fun k => spec_l13Num.l0 k s neg (v : Int) (i : Int)) (signd neg (decs v (s.data.toList.drop i))) := by
  refine down s.size ?_ ?_
  · intro v hv
    have hp : 10 ^ s.size ≤ 10 ^ 17 := Nat.pow_le_pow_right (by omega) hs
    refine Ev.step (fun k => rfl) ?_
    rw [List.drop_eq_nil_of_le (by simp : s.data.toList.length ≤ s.size)]
    simp only [spec_l13Num.l0, if_neg (show ¬ (s.size : Int) < (s.size : Int) by omega), w64 (show -9223372036854775808 ≤ -(v : Int) by omega) (by omega)]
    cases neg with
    | true => exact Ev.now _
    | false => exact Ev.now _
  · intro i hi ih v hv
    have hp : 10 ^ (i + 1) ≤ 10 ^ 17 := Nat.pow_le_pow_right (by omega) (by omega)
    rw [Nat.pow_succ] at hp
    have hd : s.data.toList.drop i = s[i] :: s.data.toList.drop (i + 1) := List.drop_eq_getElem_cons (by simpa using hi)
    refine Ev.step (fun k => rfl) ?_
    rw [hd]
    unfold decs
    simp only [spec_l13Num.l0, if_pos (ltc hi), if_pos (nnc i), bt_nat hi]
    by_cases h1 : (s[i].toNat : Int) < 48
    · simp only [if_pos h1]
      rw [if_neg (by omega)]
      exact Ev.now _
    · simp only [if_neg h1]
      by_cases h2 : (s[i].toNat : Int) > 57
      · simp only [if_pos h2]
        rw [if_neg (by omega)]
        exact Ev.now _
      · have e : wrap64 (wrap64 ((v : Int) * 10) + ((s[i].toNat : Int) - 48) % 256) = ((v * 10 + (s[i].toNat - 48) : Nat) : Int) := by
          rw [w64 (show -9223372036854775808 ≤ (v : Int) * 10 by omega) (by omega), w64 (by omega) (by omega)]
          omega
        simp only [if_neg h2, e, w64n (show i < 9223372036854775807 by omega)]
        rw [if_pos (by omega)]
        exact ih _ (by rw [Nat.pow_succ]; omega)
theorem ext_tail (s : ByteArray) : (s.extract 1 s.size).data.toList = s.data.toList.tail := by
  rw [ByteArray.data_extract, Array.toList_extract]
  simp only [List.extract, List.drop_one]
  exact List.take_of_length_le (by simp)
theorem l13Num_j1 (s : ByteArray) (neg : Bool) : Ev (fun k => spec_l13Num.j1 k s neg) (if s.data.toList = [] ∨ 17 < s.data.toList.length ∨ (s.data.toList.head? = some 48 ∧ (1 < s.data.toList.length ∨ neg = true)) then (0, false) else signd neg (decs 0 s.data.toList)) := by
  have hl : s.data.toList.length = s.size := by simp
  have hbad : Ev (fun k => spec_l13Num.j2 k s neg true) (0, false) := by
    refine Ev.step (fun k => rfl) ?_
    simp only [spec_l13Num.j2, if_true]
    exact Ev.now _
  have hgood : s.size ≤ 17 → Ev (fun k => spec_l13Num.j2 k s neg false) (signd neg (decs 0 s.data.toList)) := fun hs => by
    refine Ev.step (fun k => rfl) ?_
    simp only [spec_l13Num.j2, Bool.false_eq_true, if_false]
    have := l13Num_l0 s neg hs 0 (by omega) 0 (by omega)
    simpa only [cast0, List.drop_zero] using this
  refine Ev.step (fun k => rfl) ?_
  simp only [spec_l13Num.j1]
  by_cases h0 : (s.size : Int) = 0
  · simp only [if_pos h0]
    rw [if_pos (.inl (List.eq_nil_of_length_eq_zero (by omega)))]
    exact hbad
  have hne : s.data.toList ≠ [] := fun h => by
    rw [h] at hl
    simp only [List.length_nil] at hl
    omega
  simp only [if_neg h0]
  by_cases h1 : (s.size : Int) > 17
  · simp only [if_pos h1]
    rw [if_pos (.inr (.inl (by omega)))]
    exact hbad
  have hpos : 0 < s.size := by omega
  have hh : s.data.toList.head? = some s[0] := by
    have : s.data.toList.drop 0 = s[0] :: s.data.toList.drop 1 := List.drop_eq_getElem_cons (by simpa using hpos)
    rw [List.drop_zero] at this
    rw [this]
    rfl
  have hb := bt_nat hpos
  rw [cast0] at hb
  simp only [if_neg h1, if_pos (show 0 < (s.size : Int) by omega), hb]
  have h48 : ((s[0].toNat : Int) = 48) ↔ s[0] = 48 := byte_is _ 48 (by decide)
  by_cases h2 : (s[0].toNat : Int) = 48
  · have e48 : s.data.toList.head? = some 48 := by rw [hh, h48.1 h2]
    simp only [if_pos h2]
    by_cases h3 : (s.size : Int) > 1
    · simp only [if_pos h3]
      rw [if_pos (.inr (.inr ⟨e48, .inl (by omega)⟩))]
      exact hbad
    · simp only [if_neg h3]
      cases neg with
      | true =>
        rw [if_pos (.inr (.inr ⟨e48, .inr rfl⟩))]
        exact hbad
      | false =>
        rw [if_neg]
        · exact hgood (by omega)
        · rintro (h | h | ⟨_, h | h⟩)
          · exact hne h
          · omega
          · omega
          · cases h
  · simp only [if_neg h2]
    rw [if_neg]
    · exact hgood (by omega)
    · rintro (h | h | ⟨h, _⟩)
      · exact hne h
      · omega
      · rw [hh] at h
        exact h2 (h48.2 (Option.some.inj h))
theorem numS_eq (l : List UInt8) (neg : Bool) (r : List UInt8) (hn : (l.head? == some 45) = neg) (hr : (if neg = true then l.tail else l) = r) : numS l = (if r = [] ∨ 17 < r.length ∨ (r.head? = some 48 ∧ (1 < r.length ∨ neg = true)) then (0, false) else signd neg (decs 0 r)) := by
  subst hn
  subst hr
  unfold numS signd
  rfl
theorem spec_l13Num_ev (s : ByteArray) : Ev (fun k => spec_l13Num.f k s) (numS s.data.toList) := by
  have hl : s.data.toList.length = s.size := by simp
  simp only [spec_l13Num.f]
  by_cases h0 : (s.size : Int) > 0
  · have hpos : 0 < s.size := by omega
    have hh : s.data.toList.head? = some s[0] := by
      have : s.data.toList.drop 0 = s[0] :: s.data.toList.drop 1 := List.drop_eq_getElem_cons (by simpa using hpos)
      rw [List.drop_zero] at this
      rw [this]
      rfl
    have hb := bt_nat hpos
    rw [cast0] at hb
    have h45 : ((s[0].toNat : Int) = 45) ↔ s[0] = 45 := byte_is _ 45 (by decide)
    simp only [if_pos h0, if_pos (show 0 < (s.size : Int) by omega), hb]
    by_cases h : s[0] = 45
    · have e : ((s[0].toNat : Int) == 45) = true := beq_iff_eq.2 (h45.2 h)
      rw [e, numS_eq s.data.toList true (s.extract 1 s.size).data.toList (by rw [hh, h]; rfl) (by rw [if_pos rfl, ext_tail])]
      refine Ev.step (fun k => rfl) ?_
      simp only [spec_l13Num.j0, if_true, if_pos (show 1 ≤ (s.size : Int) by omega)]
      have := l13Num_j1 (s.extract 1 s.size) true
      simpa only [if_true] using this
    · have e : ((s[0].toNat : Int) == 45) = false := beq_eq_false_iff_ne.2 fun q => h (h45.1 q)
      rw [e, numS_eq s.data.toList false s.data.toList (by rw [hh]; simpa using h) (by rw [if_neg (by simp)])]
      refine Ev.step (fun k => rfl) ?_
      simp only [spec_l13Num.j0, Bool.false_eq_true, if_false]
      have := l13Num_j1 s false
      simpa only [Bool.false_eq_true] using this
  · simp only [if_neg h0]
    have hnil : s.data.toList = [] := List.eq_nil_of_length_eq_zero (by omega)
    rw [numS_eq s.data.toList false s.data.toList (by rw [hnil]; rfl) (by rw [if_neg (by simp)])]
    refine Ev.step (fun k => rfl) ?_
    simp only [spec_l13Num.j0, Bool.false_eq_true, if_false]
    have := l13Num_j1 s false
    simpa only [Bool.false_eq_true] using this
theorem spec_l1In_eq (a b c : Int) : spec_l1In.f a b c = some (decide (b ≤ a ∧ a ≤ c)) := by
  unfold spec_l1In.f
  split <;> simp <;> omega
theorem spec_ParseCost_ev (s : ByteArray) : Ev (fun k => spec_ParseCost.f k s) (pcost s.data.toList) := by
  simp only [spec_ParseCost.f]
  refine Ev.bind (spec_l13Num_ev s) ?_
  rw [← numS_cost, show s.toList = s.data.toList from ByteArray.toList_eq s]
  by_cases c : s.data.toList = [45]
  · simp only [if_pos c]
    exact Ev.now _
  · simp only [if_neg c]
    cases h : (numS s.data.toList).2 with
    | false =>
      simp only [Bool.false_eq_true, false_and, if_false]
      exact Ev.now _
    | true =>
      simp only [true_and, if_true, spec_l1In_eq, Option.bind_some]
      by_cases d : 0 ≤ (numS s.data.toList).1 ∧ (numS s.data.toList).1 ≤ 999999
      · rw [if_pos d, if_pos (by simpa using d)]
        exact Ev.now _
      · rw [if_neg d, if_neg (by simpa using d)]
        exact Ev.now _
theorem ext_data (s : ByteArray) (a b : Nat) : (s.extract a b).data.toList = (s.data.toList.drop a).take (b - a) := by
  rw [ByteArray.data_extract, Array.toList_extract]
theorem index_one (c : UInt8) : ∀ l : List UInt8, (Lib.index l [c] = -1 ∧ c ∉ l) ∨ ∃ p r, l = p ++ c :: r ∧ c ∉ p ∧ Lib.index l [c] = (p.length : Int)
  | [] => .inl ⟨rfl, List.not_mem_nil⟩
  | b :: l => by
    unfold Lib.index
    by_cases h : c = b
    · refine .inr ⟨[], l, by rw [h]; rfl, List.not_mem_nil, ?_⟩
      rw [if_pos (by simp [List.isPrefixOf, h])]
      rfl
    · have hp : ¬ ([c].isPrefixOf (b :: l)) = true := by simp [List.isPrefixOf, h]
      rw [if_neg hp]
      rcases index_one c l with ⟨e, hn⟩ | ⟨p, r, e, hn, hi⟩
      · refine .inl ⟨by rw [e]; rfl, fun hm => ?_⟩
        rcases List.mem_cons.1 hm with hm | hm
        · exact h hm
        · exact hn hm
      · refine .inr ⟨b :: p, r, by rw [e]; rfl, fun hm => ?_, ?_⟩
        · rcases List.mem_cons.1 hm with hm | hm
          · exact h hm
          · exact hn hm
        · rw [hi, if_neg (by rw [beq_iff_eq]; omega), List.length_cons]
          omega
theorem index_b (s : ByteArray) (c : UInt8) : Lib.indexB s ⟨#[c]⟩ = Lib.index s.data.toList [c] := rfl
theorem split_cut (c : UInt8) : ∀ (n : Nat) (s : ByteArray), s.size ≤ n → Lib.splitB ⟨#[c]⟩ 0 (Lib.countB s ⟨#[c]⟩) s = (cutL c s.data.toList).map ofL := by
  intro n
  induction n with
  | zero =>
    intro s hs
    have hn : s.data.toList = [] := List.eq_nil_of_length_eq_zero (by have : s.data.toList.length = s.size := by simp
                                                                      omega)
    have hm : Lib.indexB s ⟨#[c]⟩ = -1 := by rw [index_b, hn]; rfl
    rw [Lib.splitB_miss _ _ _ _ hm, hn]
    show [s] = [ofL []]
    rw [← ofL_self s, hn]
  | succ n ih =>
    intro s hs
    have hl : s.data.toList.length = s.size := by simp
    rcases index_one c s.data.toList with ⟨e, hn⟩ | ⟨p, r, e, hn, hi⟩
    · rw [Lib.splitB_miss _ _ _ _ (by rw [index_b, e]), cutL_alone hn]
      show [s] = [ofL s.data.toList]
      rw [ofL_self]
    · have hi' : Lib.indexB s ⟨#[c]⟩ = (p.length : Int) := by rw [index_b, hi]
      have hz : (⟨#[c]⟩ : ByteArray).size = 1 := rfl
      have hle : p.length + 1 ≤ s.size := by
        rw [← hl, e, List.length_append, List.length_cons]
        omega
      rw [Lib.countB_hit s ⟨#[c]⟩ p.length (by rw [hz]; omega) hi', Nat.add_comm 1, Lib.splitB_hit _ _ _ _ _ hi', hz, Nat.add_zero, ih _ (by simp only [ByteArray.size_extract]; omega)]
      have e1 : s.extract 0 p.length = ofL p := ba_ext (by rw [ext_data, List.drop_zero, e, ofL_toL]; simp)
      have e2 : (s.extract (p.length + 1) s.size).data.toList = r := by
        rw [ext_data, ← hl, e]
        have : List.drop (p.length + 1) (p ++ c :: r) = r := by
          rw [List.drop_append]
          simp
        rw [this]
        exact List.take_of_length_le (by simp only [List.length_append, List.length_cons]; omega)
      rw [e1, e2]
      have : cutL c s.data.toList = p :: cutL c r := by rw [e, cutL_sep hn]
      rw [this]
      rfl
theorem cutL_len (c : UInt8) : ∀ l, (cutL c l).length ≤ l.length + 1
  | [] => Nat.le_refl _
  | x :: r => by
    have ih := cutL_len c r
    unfold cutL
    split
    · simp only [List.length_cons]
      omega
    · split
      · simp only [List.length_cons, List.length_nil]
        omega
      · rename_i h t e
        rw [e] at ih
        simp only [List.length_cons] at ih ⊢
        omega
theorem cutL_piece (c : UInt8) : ∀ l, ∀ p ∈ cutL c l, p.length ≤ l.length
  | [], p, hp => by
    have : p = [] := by simpa [cutL] using hp
    rw [this]
    exact Nat.le_refl _
  | x :: r, p, hp => by
    have ih := cutL_piece c r
    unfold cutL at hp
    split at hp
    · rcases List.mem_cons.1 hp with rfl | hp
      · exact Nat.zero_le _
      · have := ih p hp
        simp only [List.length_cons]
        omega
    · split at hp
      · rename_i e
        exact absurd e (cutL_ne c r)
      · rename_i h t e
        rcases List.mem_cons.1 hp with rfl | hp
        · have := ih h (by rw [e]; exact List.mem_cons_self)
          simp only [List.length_cons]
          omega
        · have := ih p (by rw [e]; exact List.mem_cons_of_mem _ hp)
          simp only [List.length_cons]
          omega
/-- The texts between the signs, as strings. -/
def cutB (c : UInt8) (s : ByteArray) : List ByteArray := (cutL c s.data.toList).map ofL
theorem cutB_len (c : UInt8) (s : ByteArray) : (cutB c s).length ≤ s.size + 1 := by
  have := cutL_len c s.data.toList
  have hl : s.data.toList.length = s.size := by simp
  unfold cutB
  rw [List.length_map]
  omega
theorem cutB_piece {c : UInt8} {s p : ByteArray} (h : p ∈ cutB c s) : p.size ≤ s.size := by
  obtain ⟨q, hq, rfl⟩ := List.mem_map.1 h
  have := cutL_piece c _ q hq
  have hl : s.data.toList.length = s.size := by simp
  rw [ofL_size]
  omega
theorem strings_Split_eq {s : ByteArray} (c : UInt8) (hs : s.size < 4294967281) : strings_Split.f s ⟨#[c]⟩ = some (cutB c s) := by
  unfold strings_Split.f
  rw [if_pos ⟨hs, Nat.le_refl 1⟩, split_cut c _ s (Nat.le_refl _)]
  rfl
theorem l13Cut_l0 (s : ByteArray) (c : UInt8) (hs : s.size ≤ 8796093022200) : ∀ i, i ≤ s.size → ∀ (out : List ByteArray) (st : Nat), st ≤ i → c ∉ (s.data.toList.drop st).take (i - st) → out.length ≤ i → Ev (fun k => spec_l13Cut.l0 k s (c.toNat : Int) out (st : Int) (i : Int)) (out ++ (cutL c (s.data.toList.drop st)).map ofL) := by
  have hl : s.data.toList.length = s.size := by simp
  refine down s.size ?_ ?_
  · intro out st hst hno ho
    have e0 : (s.data.toList.drop st).take (s.size - st) = s.data.toList.drop st := List.take_of_length_le (by rw [List.length_drop]; omega)
    have e : s.extract st s.size = ofL (s.data.toList.drop st) := ba_ext (by rw [ext_data, ofL_toL, e0])
    rw [e0] at hno
    refine Ev.step (fun k => rfl) ?_
    simp only [spec_l13Cut.l0, Int.le_refl, if_true, if_pos (nnc st), if_pos (show (st : Int) ≤ (s.size : Int) by omega), if_pos (show out.length < 8796093022208 by omega), Int.toNat_natCast, e, w64n (show s.size < 9223372036854775807 by omega)]
    refine Ev.step (fun k => rfl) ?_
    simp only [spec_l13Cut.l0, if_neg (show ¬ ((s.size + 1 : Nat) : Int) ≤ (s.size : Int) by omega)]
    rw [cutL_alone hno]
    exact Ev.now _
  · intro i hi ih out st hst hno ho
    have hd : s.data.toList.drop st = (s.data.toList.drop st).take (i - st) ++ s[i] :: s.data.toList.drop (i + 1) := by
      have h1 := List.take_append_drop (i - st) (s.data.toList.drop st)
      rw [List.drop_drop, show st + (i - st) = i by omega] at h1
      have h2 : s.data.toList.drop i = s[i] :: s.data.toList.drop (i + 1) := List.drop_eq_getElem_cons (by simpa using hi)
      rw [h2] at h1
      exact h1.symm
    have e : s.extract st i = ofL ((s.data.toList.drop st).take (i - st)) := ba_ext (by rw [ext_data, ofL_toL])
    refine Ev.step (fun k => rfl) ?_
    simp only [spec_l13Cut.l0, if_pos (show (i : Int) ≤ (s.size : Int) by omega), if_neg (show ¬ (i : Int) = (s.size : Int) by omega), if_pos (nnc i), if_pos (ltc hi), if_pos (nnc st), if_pos (show (st : Int) ≤ (i : Int) by omega), if_pos (show out.length < 8796093022208 by omega), Int.toNat_natCast, e, bt_nat hi, w64n (show i < 9223372036854775807 by omega)]
    have hb : ((s[i].toNat : Int) = (c.toNat : Int)) ↔ s[i] = c := ⟨fun h => UInt8.toNat_inj.1 (by omega), fun h => by rw [h]⟩
    by_cases h : s[i] = c
    · simp only [if_pos (hb.2 h)]
      have := ih (out ++ [ofL ((s.data.toList.drop st).take (i - st))]) (i + 1) (Nat.le_refl _) (by simp) (by simp only [List.length_append, List.length_singleton]; omega)
      refine ev_to this ?_
      rw [hd, h, cutL_sep hno]
      have e3 : (List.take (i - st) (s.data.toList.drop st) ++ c :: s.data.toList.drop (i + 1)).take (i - st) = (s.data.toList.drop st).take (i - st) := by
        rw [← h, ← hd]
      rw [e3]
      simp
    · simp only [if_neg fun q => h (hb.1 q)]
      refine ih out st (by omega) ?_ (by omega)
      intro hm
      have e4 : (s.data.toList.drop st).take (i + 1 - st) = (s.data.toList.drop st).take (i - st) ++ [s[i]] := by
        rw [show i + 1 - st = (i - st) + 1 by omega, List.take_succ_eq_append_getElem (by rw [List.length_drop]; omega)]
        simp [show st + (i - st) = i by omega]
        rfl
      rw [e4, List.mem_append, List.mem_singleton] at hm
      rcases hm with hm | hm
      · exact hno hm
      · exact h hm.symm
theorem spec_l13Cut_ev {s : ByteArray} (c : UInt8) (hs : s.size ≤ 8796093022200) : Ev (fun k => spec_l13Cut.f k s (c.toNat : Int)) (cutB c s) := by
  have := l13Cut_l0 s c hs 0 (by omega) [] 0 (Nat.le_refl _) (by simp) (Nat.le_refl _)
  unfold cutB
  simpa only [spec_l13Cut.f, cast0, List.drop_zero, List.nil_append] using this
/-- What texts of costs say. -/
def pcs : List Int → List ByteArray → List Int × Bool
  | acc, [] => (acc, true)
  | acc, p :: r => if (pcost p.data.toList).2 = true then pcs (acc ++ [(pcost p.data.toList).1]) r else ([], false)
def pcosts (s : ByteArray) : List Int × Bool := if s.data.toList = [] then ([], true) else pcs [] (cutB 32 s)
theorem pcs_len : ∀ (ps : List ByteArray) (acc : List Int), (pcs acc ps).1.length ≤ acc.length + ps.length
  | [], acc => Nat.le_refl _
  | p :: r, acc => by
    unfold pcs
    split
    · have := pcs_len r (acc ++ [(pcost p.data.toList).1])
      simp only [List.length_append, List.length_cons, List.length_nil] at this ⊢
      omega
    · exact Nat.zero_le _
theorem pcosts_len (s : ByteArray) : (pcosts s).1.length ≤ s.size + 1 := by
  unfold pcosts
  split
  · exact Nat.zero_le _
  · have := pcs_len (cutB 32 s) []
    have := cutB_len 32 s
    simp only [List.length_nil] at *
    omega
theorem rdOfB {l : List ByteArray} {i : Nat} (h : i < l.length) : rdOf ByteArray.empty l (i : Int) = l[i] := by simp [rdOf, List.getD_eq_getElem?_getD, h]
theorem spec_pcs (t : List ByteArray) (ht : t.length ≤ 1000000000) : ∀ i, i ≤ t.length → ∀ acc : List Int, acc.length ≤ i → Ev (fun k => spec_ParseCosts.l0 k acc t (t.length : Int) (i : Int)) (pcs acc (t.drop i)) := by
  refine down t.length ?_ ?_
  · intro acc _
    refine Ev.step (fun k => rfl) ?_
    simp only [spec_ParseCosts.l0, if_neg (show ¬ (t.length : Int) < (t.length : Int) by omega), dropn, pcs]
    exact Ev.now _
  · intro i hi ih acc ha
    refine Ev.step (fun k => rfl) ?_
    simp only [spec_ParseCosts.l0, if_pos (ltc hi), if_pos (nnc i), rdOfB hi, dropc hi, pcs, w64n (show i < 9223372036854775807 by omega)]
    refine Ev.bind (spec_ParseCost_ev _) ?_
    cases h : (pcost t[i].data.toList).2 with
    | true =>
      simp only [if_true, if_pos (show acc.length < 17592186044416 by omega)]
      exact ih _ (by simp only [List.length_append, List.length_singleton]; omega)
    | false =>
      simp only [Bool.false_eq_true, if_false]
      exact Ev.now _
theorem impl_pcs (t : List ByteArray) (ht : t.length ≤ 1000000000) (hp : ∀ p ∈ t, p.size ≤ 140737488351232) : ∀ i, i ≤ t.length → ∀ acc : List Int, acc.length ≤ i → Ev (fun k => impl_ParseCosts.l0 k acc t (t.length : Int) (i : Int)) (pcs acc (t.drop i)) := by
  refine down t.length ?_ ?_
  · intro acc _
    refine Ev.step (fun k => rfl) ?_
    simp only [impl_ParseCosts.l0, if_neg (show ¬ (t.length : Int) < (t.length : Int) by omega), dropn, pcs]
    exact Ev.now _
  · intro i hi ih acc ha
    refine Ev.step (fun k => rfl) ?_
    simp only [impl_ParseCosts.l0, if_pos (ltc hi), if_pos (nnc i), rdOfB hi, dropc hi, pcs, w64n (show i < 9223372036854775807 by omega), impl_ParseCost_eq (hp _ (List.getElem_mem hi)), Option.bind_some]
    cases h : (pcost t[i].data.toList).2 with
    | true =>
      simp only [if_true, if_pos (show acc.length < 17592186044416 by omega)]
      exact ih _ (by simp only [List.length_append, List.length_singleton]; omega)
    | false =>
      simp only [Bool.false_eq_true, if_false]
      exact Ev.now _
theorem spec_ParseCosts_ev {s : ByteArray} (hs : s.size ≤ 999999999) : Ev (fun k => spec_ParseCosts.f k s) (pcosts s) := by
  have hc := cutB_len 32 s
  simp only [spec_ParseCosts.f, Option.bind_some, ba_toL, pcosts]
  split
  · exact Ev.now _
  · refine Ev.bind (spec_l13Cut_ev (32 : UInt8) (by omega)) ?_
    have := spec_pcs (cutB 32 s) (by omega) 0 (by omega) [] (Nat.le_refl _)
    simpa only [cast0, List.drop_zero] using this
theorem impl_ParseCosts_ev {s : ByteArray} (hs : s.size ≤ 999999999) : Ev (fun k => impl_ParseCosts.f k s) (pcosts s) := by
  have hc := cutB_len 32 s
  simp only [impl_ParseCosts.f, Option.bind_some, ba_toL, pcosts]
  split
  · exact Ev.now _
  · simp only [strings_Split_eq 32 (show s.size < 4294967281 by omega), Option.bind_some]
    have := impl_pcs (cutB 32 s) (by omega) (fun p hp => by have := cutB_piece hp; omega) 0 (by omega) [] (Nat.le_refl _)
    simpa only [cast0, List.drop_zero] using this
/-- The text of costs. -/
def fcosts (l : List Int) : List UInt8 := if l.all cv = true then joinL 32 (l.map fcost) else []
def fcs (l : List Int) : ByteArray := ofL (fcosts l)
theorem joinL_snoc (c : UInt8) (q : List UInt8) : ∀ (ps : List (List UInt8)), ps ≠ [] → joinL c (ps ++ [q]) = joinL c ps ++ c :: q
  | [], h => absurd rfl h
  | [p], _ => rfl
  | p :: r :: t, _ => by
    have ih := joinL_snoc c q (r :: t) (List.cons_ne_nil _ _)
    show p ++ c :: joinL c ((r :: t) ++ [q]) = (p ++ c :: joinL c (r :: t)) ++ c :: q
    rw [ih]
    simp
theorem joinL_len {c : UInt8} {n : Nat} : ∀ (ps : List (List UInt8)), (∀ p ∈ ps, p.length ≤ n) → (joinL c ps).length ≤ (n + 1) * ps.length
  | [], _ => Nat.zero_le _
  | [p], h => by
    have := h p List.mem_cons_self
    show p.length ≤ (n + 1) * 1
    omega
  | p :: q :: r, h => by
    have h1 := h p List.mem_cons_self
    have ih := joinL_len (c := c) (q :: r) (fun x hx => h x (List.mem_cons_of_mem _ hx))
    show (p ++ c :: joinL c (q :: r)).length ≤ (n + 1) * ((q :: r).length + 1)
    rw [List.length_append, List.length_cons, Nat.mul_add]
    omega
theorem fcosts_len (l : List Int) : (joinL 32 (l.map fcost)).length ≤ 7 * l.length := by
  have := joinL_len (c := 32) (n := 6) (l.map fcost) (fun p hp => by
    obtain ⟨a, _, rfl⟩ := List.mem_map.1 hp
    exact fcost_len a)
  rwa [List.length_map] at this
theorem take_all {l : List Int} {i : Nat} (hi : i < l.length) (h : (l.take i).all cv = true) (hc : cv l[i] = true) : (l.take (i + 1)).all cv = true := by
  rw [List.take_succ_eq_append_getElem hi, List.all_append, h]
  simp [hc]
theorem fcs_no {l : List Int} {i : Nat} (hi : i < l.length) (hc : cv l[i] = false) : fcs l = ofL [] := by
  unfold fcs fcosts
  rw [if_neg fun h => by
    have := List.all_eq_true.1 h l[i] (List.getElem_mem hi)
    rw [hc] at this
    cases this]
theorem impl_FormatCosts_ev (l : List Int) (hl : l.length ≤ 1000000000) : Ev (fun k => impl_FormatCosts.f k l) (fcs l) := by
  have h := down l.length (P := fun i => (l.take i).all cv = true → Ev (fun k => impl_FormatCosts.l0 k ((l.take i).map fc) l (l.length : Int) (i : Int)) (fcs l)) ?_ ?_ 0 (by omega) (by simp)
  · simpa only [impl_FormatCosts.f, List.take_zero, List.map_nil, cast0] using h
  · intro ha
    refine Ev.step (fun k => rfl) ?_
    rw [List.take_length] at ha ⊢
    have e : ((l.map fc).map (·.data.toList)) = l.map fcost := by
      rw [List.map_map]
      rfl
    have e2 : (⟨#[32]⟩ : ByteArray).data.toList = [32] := rfl
    have hlen := fcosts_len l
    simp only [impl_FormatCosts.l0, if_neg (show ¬ (l.length : Int) < (l.length : Int) by omega), strings_Join.f, e, e2, joinL_lib, List.length_map]
    rw [if_pos ⟨by omega, by omega⟩]
    refine ev_to (Ev.now _) ?_
    unfold fcs fcosts
    rw [if_pos ha]
    rfl
  · intro i hi ih ha
    refine Ev.step (fun k => rfl) ?_
    simp only [impl_FormatCosts.l0, if_pos (ltc hi), if_pos (nnc i), rd_nat hi, impl_CostValid_eq, impl_FormatCost_eq, Option.bind_some, w64n (show i < 9223372036854775807 by omega)]
    cases hc : cv l[i] with
    | false =>
      simp only [Bool.false_eq_true, if_false]
      exact ev_to (Ev.now _) (fcs_no hi hc).symm
    | true =>
      have ih := ih (take_all hi ha hc)
      rw [List.take_succ_eq_append_getElem hi, List.map_append, List.map_cons, List.map_nil] at ih
      simp only [if_true, List.length_map, List.length_take, if_pos (show min i l.length < 8796093022208 by omega)]
      exact ih
theorem dig_not {c : UInt8} (n : Nat) (hn : n < 48) (h : isd c) : ¬ c = UInt8.ofNat n := fun e => by
  unfold isd at h
  have : (UInt8.ofNat n).toNat = n % 256 := UInt8.toNat_ofNat'
  rw [e] at h
  omega
theorem fcost_no (a : Int) {c : UInt8} (h1 : ¬ isd c) (h2 : ¬ c = 45) : c ∉ fcost a := by
  intro h
  unfold fcost at h
  split at h
  · split at h
    · exact h2 (List.mem_singleton.1 h)
    · exact h1 (dec_digs _ c h)
  · cases h
theorem no32 (a : Int) : (32 : UInt8) ∉ fcost a := fcost_no a (by unfold isd; decide) (by decide)
theorem no47 (a : Int) : (47 : UInt8) ∉ fcost a := fcost_no a (by unfold isd; decide) (by decide)
theorem joinL_no {c x : UInt8} (hx : ¬ c = x) : ∀ (ps : List (List UInt8)), (∀ p ∈ ps, c ∉ p) → c ∉ joinL x ps
  | [], _ => List.not_mem_nil
  | [p], h => h p List.mem_cons_self
  | p :: q :: r, h => by
    intro hm
    have hm : c ∈ p ++ x :: joinL x (q :: r) := hm
    rcases List.mem_append.1 hm with hm | hm
    · exact h p List.mem_cons_self hm
    · rcases List.mem_cons.1 hm with hm | hm
      · exact hx hm
      · exact joinL_no hx (q :: r) (fun y hy => h y (List.mem_cons_of_mem _ hy)) hm
theorem fcosts_no47 (l : List Int) : (47 : UInt8) ∉ fcosts l := by
  unfold fcosts
  split
  · refine joinL_no (by decide) _ fun p hp => ?_
    obtain ⟨a, _, rfl⟩ := List.mem_map.1 hp
    exact no47 a
  · exact List.not_mem_nil
theorem fcost_ne {a : Int} (h : cv a = true) : fcost a ≠ [] := by
  have hc := cv_iff.1 h
  unfold fcost
  rw [if_pos hc]
  split
  · exact List.cons_ne_nil _ _
  · exact dec_ne _
theorem joinL_ne {c : UInt8} : ∀ {ps : List (List UInt8)}, ps ≠ [] → (∀ p ∈ ps, p ≠ []) → joinL c ps ≠ []
  | [], h, _ => absurd rfl h
  | [p], _, h => h p List.mem_cons_self
  | p :: q :: r, _, h => by
    show p ++ c :: _ ≠ []
    simp
/-- What is said of pieces, when all go through. -/
theorem pcs_all : ∀ (ps : List ByteArray) (acc v : List Int), pcs acc ps = (v, true) → ∃ r : List Int, v = acc ++ r ∧ r.all cv = true ∧ r.map fcost = ps.map (·.data.toList)
  | [], acc, v, h => ⟨[], by rw [List.append_nil]; exact (congrArg Prod.fst h).symm, rfl, rfl⟩
  | p :: ps, acc, v, h => by
    unfold pcs at h
    split at h
    · rename_i hp
      obtain ⟨r, hv, ha, hm⟩ := pcs_all ps _ v h
      obtain ⟨a, e⟩ : ∃ a, pcost p.data.toList = (a, true) := ⟨_, Prod.ext rfl hp⟩
      obtain ⟨h0, h1, hf⟩ := pcost_yes e
      rw [e] at hv
      refine ⟨a :: r, by rw [hv]; simp, ?_, ?_⟩
      · rw [List.all_cons, ha, show cv a = true from cv_iff.2 ⟨h0, h1⟩]
        rfl
      · rw [List.map_cons, List.map_cons, hm, hf]
    · cases h
theorem pcs_map : ∀ (r acc : List Int), r.all cv = true → pcs acc (r.map fun a => ofL (fcost a)) = (acc ++ r, true)
  | [], acc, _ => by rw [List.append_nil]; rfl
  | a :: r, acc, h => by
    rw [List.all_cons, Bool.and_eq_true] at h
    have hc := cv_iff.1 h.1
    have e : pcost (ofL (fcost a)).data.toList = (a, true) := pcost_f hc.1 hc.2
    rw [List.map_cons]
    unfold pcs
    rw [e, if_pos rfl, pcs_map r _ h.2]
    simp
/-- Texts that go through are the texts of what they say. -/
theorem pcosts_yes {p : ByteArray} {v : List Int} (h : pcosts p = (v, true)) : v.all cv = true ∧ fcosts v = p.data.toList := by
  unfold pcosts at h
  split at h
  · rename_i e
    have hv : [] = v := congrArg Prod.fst h
    subst hv
    rw [e]
    exact ⟨rfl, rfl⟩
  · obtain ⟨r, hv, ha, hm⟩ := pcs_all _ _ _ h
    rw [List.nil_append] at hv
    subst hv
    refine ⟨ha, ?_⟩
    unfold fcosts
    rw [if_pos ha, hm]
    unfold cutB
    rw [List.map_map]
    show joinL 32 (List.map (fun x => x) _) = _
    rw [List.map_id', join_cutL]
/-- .. and back. -/
theorem pcosts_f {v : List Int} (h : v.all cv = true) : pcosts (ofL (fcosts v)) = (v, true) := by
  have e : fcosts v = joinL 32 (v.map fcost) := by
    unfold fcosts
    rw [if_pos h]
  unfold pcosts
  rw [ofL_toL]
  by_cases h0 : v = []
  · subst h0
    rfl
  · have hne : v.map fcost ≠ [] := fun q => h0 (List.map_eq_nil_iff.1 q)
    have hn : fcosts v ≠ [] := by
      rw [e]
      refine joinL_ne hne fun p hp => ?_
      obtain ⟨a, ha, rfl⟩ := List.mem_map.1 hp
      exact fcost_ne (List.all_eq_true.1 h a ha)
    have hno : ∀ p ∈ v.map fcost, (32 : UInt8) ∉ p := fun p hp => by
      obtain ⟨a, _, rfl⟩ := List.mem_map.1 hp
      exact no32 a
    rw [if_neg hn]
    have e2 : cutB 32 (ofL (fcosts v)) = v.map fun a => ofL (fcost a) := by
      unfold cutB
      rw [ofL_toL, e, cutL_join hne hno, List.map_map]
      rfl
    rw [e2, pcs_map v [] h]
    rfl
theorem spec_CostValid_eq (a : Int) : spec_CostValid.f a = some (cv a) := by
  unfold spec_CostValid.f
  rw [spec_l1In_eq]
  rfl
theorem one_byte {n : Nat} (h : n < 10) : strOfNums [(wrap64 (48 + (n : Int))) % 256] = ofL [UInt8.ofNat (48 + n)] := by
  have e : (wrap64 (48 + (n : Int))) % 256 = ((48 + n : Nat) : Int) := by
    unfold wrap64
    omega
  rw [e]
  show ofL [UInt8.ofNat (((48 + n : Nat) : Int)).toNat] = _
  rw [Int.toNat_natCast]
theorem l13Dec_l0 : ∀ (n : Nat) (out : List UInt8), out.length + n ≤ 1000000000000000000 → Ev (fun k => spec_l13Dec.l0 k (n : Int) (ofL out)) (ofL (Lib.decDigits n ++ out)) := by
  intro n
  induction n using Nat.strongRecOn with
  | _ n ih =>
    intro out ho
    refine Ev.step (fun k => rfl) ?_
    by_cases c : n < 10
    · simp only [spec_l13Dec.l0, if_neg (show ¬ (n : Int) > 9 by omega), Option.bind_some, one_byte c, ofL_size, ofL_app, List.length_singleton, if_pos (show 1 + out.length ≤ 9223372036854775807 by omega), dec_one c]
      exact Ev.now _
    · have e : Int.tmod (n : Int) 10 = ((n % 10 : Nat) : Int) := by rw [Int.tmod_eq_emod_of_nonneg (by omega)]; rfl
      have e2 : Int.tdiv (n : Int) 10 = ((n / 10 : Nat) : Int) := by rw [Int.tdiv_eq_ediv_of_nonneg (by omega)]; rfl
      simp only [spec_l13Dec.l0, if_pos (show (n : Int) > 9 by omega), Option.bind_some, e, e2, one_byte (Nat.mod_lt n (show 0 < 10 by omega)), ofL_size, ofL_app, List.length_singleton, if_pos (show 1 + out.length ≤ 9223372036854775807 by omega), w64 (show -9223372036854775808 ≤ ((n / 10 : Nat) : Int) by omega) (by omega), dec_step c, List.append_assoc]
      exact ih (n / 10) (by omega) _ (by simp only [List.length_append, List.length_singleton]; omega)
theorem spec_FormatCost_ev (a : Int) : Ev (fun k => spec_FormatCost.f k a) (fc a) := by
  simp only [spec_FormatCost.f, spec_CostValid_eq, Option.bind_some]
  by_cases h : 0 ≤ a ∧ a ≤ 1000000
  · simp only [show cv a = true from cv_iff.2 h, if_true]
    by_cases c : a = 1000000
    · simp only [if_pos c]
      refine ev_to (Ev.now _) ?_
      rw [c]
      rfl
    · simp only [if_neg c]
      obtain ⟨n, rfl⟩ : ∃ n : Nat, a = (n : Int) := ⟨a.toNat, by omega⟩
      have hd : Ev (fun k => spec_l13Dec.f k (n : Int)) (ofL (Lib.decDigits n ++ [])) := by
        refine Ev.step (fun k => rfl) ?_
        simp only [spec_l13Dec.f, if_neg (show ¬ (n : Int) < -9223372036854775807 by omega), if_neg (show ¬ (n : Int) < 0 by omega)]
        exact l13Dec_l0 n [] (by simp only [List.length_nil]; omega)
      refine ev_to (Ev.bind hd (Ev.now _)) ?_
      unfold fc fcost
      rw [if_pos h, if_neg c, List.append_nil, Int.toNat_natCast]
  · simp only [if_neg (show ¬ cv a = true from fun q => h (cv_iff.1 q))]
    refine ev_to (Ev.now _) ?_
    unfold fc fcost
    rw [if_neg h]
    rfl
theorem spec_FormatCosts_ev (l : List Int) (hl : l.length ≤ 1000000000000) : Ev (fun k => spec_FormatCosts.f k l) (fcs l) := by
  have h := down l.length (P := fun i => (l.take i).all cv = true → Ev (fun k => spec_FormatCosts.l0 k (ofL (joinL 32 ((l.take i).map fcost))) l (l.length : Int) (i : Int)) (fcs l)) ?_ ?_ 0 (by omega) (by simp)
  · simp only [List.take_zero, List.map_nil, joinL, cast0] at h
    exact h
  · intro ha
    refine Ev.step (fun k => rfl) ?_
    simp only [spec_FormatCosts.l0, if_neg (show ¬ (l.length : Int) < (l.length : Int) by omega)]
    refine ev_to (Ev.now _) ?_
    rw [List.take_length] at ha ⊢
    unfold fcs fcosts
    rw [if_pos ha]
  · intro i hi ih ha
    refine Ev.step (fun k => rfl) ?_
    simp only [spec_FormatCosts.l0, if_pos (ltc hi), if_pos (nnc i), rd_nat hi, spec_CostValid_eq, Option.bind_some, w64n (show i < 9223372036854775807 by omega)]
    cases hc : cv l[i] with
    | false =>
      simp only [Bool.false_eq_true, if_false]
      exact ev_to (Ev.now _) (fcs_no hi hc).symm
    | true =>
      simp only [if_true]
      have ih := ih (take_all hi ha hc)
      have hlen := fcosts_len (l.take i)
      have hfl := fcost_len l[i]
      have htl : (l.take i).length ≤ i := List.length_take_le _ _
      rw [List.take_succ_eq_append_getElem hi, List.map_append, List.map_cons, List.map_nil] at ih
      by_cases h0 : i = 0
      · subst h0
        simp only [show ¬ ((0 : Nat) : Int) > 0 by omega, if_false]
        refine Ev.bind (spec_FormatCost_ev _) ?_
        simp only [fc, ofL_size, ofL_app, List.take_zero, List.map_nil, joinL, List.length_nil, List.nil_append, if_pos (show 0 + (fcost l[0]).length ≤ 9223372036854775807 by omega)] at ih ⊢
        exact ih
      · simp only [if_pos (show (i : Int) > 0 by omega), ofL_size, if_pos (show (joinL 32 ((l.take i).map fcost)).length + 1 ≤ 9223372036854775807 by omega)]
        refine Ev.bind (spec_FormatCost_ev _) ?_
        have e : (⟨#[32]⟩ : ByteArray) = ofL [32] := rfl
        have hne : (l.take i).map fcost ≠ [] := fun h => by
          have := congrArg List.length h
          rw [List.length_map, List.length_take] at this
          simp only [List.length_nil] at this
          omega
        simp only [fc, e, ofL_size, ofL_app, List.length_append, List.length_singleton, if_pos (show (joinL 32 ((l.take i).map fcost)).length + 1 + (fcost l[i]).length ≤ 9223372036854775807 by omega)]
        rw [joinL_snoc 32 _ _ hne] at ih
        simpa only [List.append_assoc, List.singleton_append] using ih
/-- A reader's bytes: at most 2000 numbers between 0 and 255. -/
def Rdr (s : List Int) : Prop := s.length ≤ 2000 ∧ ∀ x ∈ s, 0 ≤ x ∧ x ≤ 255
theorem i64_wrap_nat (n : Nat) (h : n < 9223372036854775808) : IntKind.i64.wrap (n : Int) = (n : Int) := by
  simp [IntKind.wrap, IntKind.bits, IntKind.signed]; omega
theorem xor_i64_nat (a b : Nat) (ha : a < 9223372036854775808) (hb : b < 9223372036854775808) : bits .xor .i64 (a : Int) (b : Int) = ((a ^^^ b : Nat) : Int) := by
  have hx : a ^^^ b < 2 ^ 63 := Nat.xor_lt_two_pow (by omega) (by omega)
  have h1 : (BitVec.ofInt 64 (a : Int)).toNat = a := by
    rw [BitVec.ofInt_natCast, BitVec.toNat_ofNat]; exact Nat.mod_eq_of_lt (by omega)
  have h2 : (BitVec.ofInt 64 (b : Int)).toNat = b := by
    rw [BitVec.ofInt_natCast, BitVec.toNat_ofNat]; exact Nat.mod_eq_of_lt (by omega)
  show IntKind.i64.wrap ((BitVec.ofInt 64 (a : Int) ^^^ BitVec.ofInt 64 (b : Int)).toNat : Int) = _
  rw [BitVec.toNat_xor, h1, h2, i64_wrap_nat _ (by omega)]
theorem xor_nn {x y : Int} (h0 : 0 ≤ x) (h1 : x < 9223372036854775808) (h2 : 0 ≤ y) (h3 : y < 9223372036854775808) : 0 ≤ bits .xor .i64 x y := by
  obtain ⟨a, rfl⟩ := Int.eq_ofNat_of_zero_le h0
  obtain ⟨b, rfl⟩ := Int.eq_ofNat_of_zero_le h2
  rw [xor_i64_nat a b (by omega) (by omega)]
  omega
theorem tm_nn {x n : Int} (h : 0 ≤ x) : 0 ≤ Int.tmod x n := Int.tmod_nonneg _ h
theorem tm_lt {x n : Int} (h : 0 < n) : Int.tmod x n < n := Int.tmod_lt_of_pos _ h
theorem rd_bd {s : List Int} (hs : Rdr s) (i : Int) : 0 ≤ rd s i ∧ rd s i ≤ 255 := by
  unfold rd
  rw [List.getD_eq_getElem?_getD]
  by_cases h : i.toNat < s.length
  · rw [List.getElem?_eq_getElem h]
    exact hs.2 _ (List.getElem_mem h)
  · rw [List.getElem?_eq_none (by omega)]
    simp
theorem mix_bd {a b p q : Int} (ha : 0 ≤ a ∧ a ≤ 255) (hb : 0 ≤ b ∧ b ≤ 255) (hp : 0 ≤ p ∧ p ≤ 1000000) (hq : 0 ≤ q ∧ q ≤ 1000000) :
    0 ≤ wrap64 ((wrap64 ((wrap64 ((wrap64 ((wrap64 a) * 131)) + (wrap64 ((wrap64 b) * 1117)))) + (wrap64 (p * 29)))) + (wrap64 ((wrap64 q) * 53))) ∧ wrap64 ((wrap64 ((wrap64 ((wrap64 ((wrap64 a) * 131)) + (wrap64 ((wrap64 b) * 1117)))) + (wrap64 (p * 29)))) + (wrap64 ((wrap64 q) * 53))) ≤ 1000000000 := by
  rw [w64 (x := a) (by omega) (by omega), w64 (x := b) (by omega) (by omega), w64 (x := q) (by omega) (by omega), w64 (x := a * 131) (by omega) (by omega), w64 (x := b * 1117) (by omega) (by omega), w64 (x := p * 29) (by omega) (by omega), w64 (x := q * 53) (by omega) (by omega), w64 (x := a * 131 + b * 1117) (by omega) (by omega), w64 (x := a * 131 + b * 1117 + p * 29) (by omega) (by omega), w64 (by omega) (by omega)]
  omega
theorem mixed_bd {x n : Int} (h0 : 0 ≤ x) (h1 : x ≤ 1000000000) (hn : 0 < n) : 0 ≤ Int.tmod (bits .xor .i64 x (wrap64 (Int.tdiv x 64))) n ∧ Int.tmod (bits .xor .i64 x (wrap64 (Int.tdiv x 64))) n < n := by
  refine ⟨tm_nn (xor_nn h0 (by omega) ?_ ?_), tm_lt hn⟩
  all_goals rw [Int.tdiv_eq_ediv_of_nonneg h0, w64 (by omega) (by omega)]; omega
theorem spec_l13Rd_pick_ev {s : List Int} (hs : Rdr s) {p : Int} (hp : 0 ≤ p ∧ p ≤ 1000000) (n : Int) : ∃ v, Ev (fun k => spec_l13Rd_pick.f k s p n) (v, p + 1) ∧ 0 ≤ v ∧ (1 ≤ n → v < n) := by
  have e1 : wrap64 (p + 1) = p + 1 := w64 (by omega) (by omega)
  have e2 : wrap64 (p + 1 - 1) = p := by rw [w64 (by omega) (by omega)]; omega
  by_cases hn : n < 1
  · refine ⟨0, ?_, by omega, by omega⟩
    simp only [spec_l13Rd_pick.f, if_pos hn, e1]
    refine Ev.step (fun k => rfl) ?_
    simp only [spec_l13Rd_pick.j0, if_true]
    exact Ev.now _
  · by_cases hl : s.length = 0
    · refine ⟨0, ?_, by omega, by omega⟩
      simp only [spec_l13Rd_pick.f, if_neg hn, e1]
      refine Ev.step (fun k => rfl) ?_
      simp only [spec_l13Rd_pick.j0, hl]
      exact Ev.now _
    · have hlb : ((s.length : Int) == 0) = false := by rw [beq_eq_false_iff_ne]; omega
      have key : ∃ v, (∀ k, spec_l13Rd_pick.j0 (k + 1) n false s (p + 1) = some (v, p + 1)) ∧ 0 ≤ v ∧ v < n := by
        simp only [spec_l13Rd_pick.j0, Bool.false_eq_true, if_false, e2, if_neg (show ¬ n = 0 by omega), if_pos hp.1, if_neg (show ¬ (s.length : Int) = 0 by omega)]
        by_cases hlt : p < (s.length : Int)
        · have hb := rd_bd hs p
          simp only [if_pos hlt]
          exact ⟨_, fun k => rfl, tm_nn (by rw [w64 (by omega) (by omega)]; omega), tm_lt (by omega)⟩
        · have t1 : 0 ≤ Int.tmod p (s.length : Int) := tm_nn hp.1
          have t2 : Int.tmod p (s.length : Int) < (s.length : Int) := tm_lt (by omega)
          have e3 : wrap64 (wrap64 (p * 7) + 3) = p * 7 + 3 := by rw [w64 (x := p * 7) (by omega) (by omega), w64 (by omega) (by omega)]
          have t3 : 0 ≤ Int.tmod (p * 7 + 3) (s.length : Int) := tm_nn (by omega)
          have t4 : Int.tmod (p * 7 + 3) (s.length : Int) < (s.length : Int) := tm_lt (by omega)
          simp only [if_neg hlt, e3, if_pos t1, if_pos t2, if_pos t3, if_pos t4]
          have hq : 0 ≤ Int.tdiv p (s.length : Int) ∧ Int.tdiv p (s.length : Int) ≤ 1000000 := by
            rw [Int.tdiv_eq_ediv_of_nonneg hp.1]
            have a1 := Int.ediv_nonneg hp.1 (show (0 : Int) ≤ (s.length : Int) by omega)
            have a2 := Int.ediv_le_self (s.length : Int) hp.1
            omega
          have hm := mix_bd (rd_bd hs (Int.tmod p (s.length : Int))) (rd_bd hs (Int.tmod (p * 7 + 3) (s.length : Int))) hp hq
          have hf := mixed_bd hm.1 hm.2 (show 0 < n by omega)
          exact ⟨_, fun k => rfl, hf.1, hf.2⟩
      obtain ⟨v, hv, h0, h1⟩ := key
      refine ⟨v, ?_, h0, fun _ => h1⟩
      simp only [spec_l13Rd_pick.f, if_neg hn, e1, hlb]
      exact Ev.step hv (Ev.now _)
theorem rd_mem {l : List Int} {i : Int} (h0 : 0 ≤ i) (h1 : i < (l.length : Int)) : rd l i ∈ l := by
  obtain ⟨n, rfl⟩ := Int.eq_ofNat_of_zero_le h0
  rw [rd_nat (by omega)]
  exact List.getElem_mem _
theorem spec_l13Open_ev (l : List Int) (hl : ∀ x ∈ l, (Lit.int .u8 x).wf = true) : ∃ s, spec_l13Open.f l = some (s, 0) ∧ Rdr s := by
  have hb : ∀ x ∈ l, 0 ≤ x ∧ x ≤ 255 := fun x hx => wf8 (hl x hx)
  by_cases h : (l.length : Int) > 2000
  · exact ⟨l.take 2000, by simp only [spec_l13Open.f, if_pos h, if_pos (show (2000 : Int) ≤ (l.length : Int) by omega)], by simp; omega, fun x hx => hb x (List.mem_of_mem_take hx)⟩
  · exact ⟨l, by simp only [spec_l13Open.f, if_neg h], by omega, hb⟩
theorem spec_l13Rd_num_ev {s : List Int} (hs : Rdr s) {p : Int} (hp : 0 ≤ p ∧ p ≤ 1000000) (l : List Int) (hl : 0 < l.length) : ∃ v, Ev (fun k => spec_l13Rd_num.f k s p l) (v, p + 1) ∧ v ∈ l := by
  obtain ⟨v, hv, h0, h1⟩ := spec_l13Rd_pick_ev hs hp (l.length : Int)
  have h1 := h1 (by omega)
  refine ⟨rd l v, ?_, rd_mem h0 h1⟩
  simp only [spec_l13Rd_num.f]
  refine Ev.bind hv ?_
  simp only [if_pos h0, if_pos h1]
  exact Ev.now _
theorem spec_l1Cost_ev {s : List Int} (hs : Rdr s) {p : Int} (hp : 0 ≤ p ∧ p ≤ 999999) : ∃ v, Ev (fun k => spec_l1Cost.f k s p) (v, p + 2) ∧ -1 ≤ v ∧ v ≤ 9223372036854775807 := by
  obtain ⟨a, ha, h0, h1⟩ := spec_l13Rd_pick_ev hs (p := p) (by omega) 9
  have h1 := h1 (by omega)
  obtain ⟨v, hv, hm⟩ := spec_l13Rd_num_ev hs (p := p + 1) (by omega) [0, 1, 2, 1000000, a, 0, 999999, 500000, (-1), 1000001, 9223372036854775807] (by simp)
  refine ⟨v, ?_, ?_⟩
  · simp only [spec_l1Cost.f]
    refine Ev.bind ha (Ev.bind hv ?_)
    exact ev_to (Ev.now _) (by simp; omega)
  · simp only [List.mem_cons, List.not_mem_nil, or_false] at hm
    omega
theorem spec_l1Costs_l0_ev {s : List Int} (hs : Rdr s) (b : Bool) (n : Nat) (hn : n ≤ 4) {p0 : Int} (hp0 : 0 ≤ p0 ∧ p0 ≤ 900000) : ∀ i, i ≤ n → ∀ (l : List Int) (p : Int), l.length = i → p0 ≤ p → p ≤ p0 + i * 3 →
    ∃ r q, Ev (fun k => spec_l1Costs.l0 k l b (n : Int) (i : Int) s p) (r, q) ∧ r.length ≤ 4 ∧ p0 ≤ q ∧ q ≤ p0 + 12 := by
  refine down n ?_ ?_
  · intro l p hl h0 h1
    refine ⟨l, p, ?_, by omega, by omega, by omega⟩
    refine Ev.step (fun k => rfl) ?_
    simp only [spec_l1Costs.l0, if_neg (show ¬ (n : Int) < (n : Int) by omega)]
    exact Ev.now _
  · intro i hi ih l p hl h0 h1
    obtain ⟨c, hc, -⟩ := spec_l1Cost_ev hs (p := p) (by omega)
    have hlen : l.length < 17592186044416 := by omega
    cases b with
    | true =>
      obtain ⟨r, q, hr, hq⟩ := ih (l ++ [c]) (p + 2) (by simp; omega) (by omega) (by omega)
      refine ⟨r, q, ?_, hq⟩
      refine Ev.step (fun k => rfl) ?_
      simp only [spec_l1Costs.l0, if_pos (show (i : Int) < (n : Int) by omega)]
      refine Ev.bind hc ?_
      simp only [if_true, if_pos hlen, w64n (show i < 9223372036854775807 by omega)]
      exact hr
    | false =>
      cases hv : cv c with
      | true =>
        obtain ⟨r, q, hr, hq⟩ := ih (l ++ [c]) (p + 2) (by simp; omega) (by omega) (by omega)
        refine ⟨r, q, ?_, hq⟩
        refine Ev.step (fun k => rfl) ?_
        simp only [spec_l1Costs.l0, if_pos (show (i : Int) < (n : Int) by omega)]
        refine Ev.bind hc ?_
        simp only [Bool.false_eq_true, if_false, spec_CostValid_eq, hv, Option.bind_some, if_true, if_pos hlen, w64n (show i < 9223372036854775807 by omega)]
        exact hr
      | false =>
        obtain ⟨v, hp, -⟩ := spec_l13Rd_pick_ev hs (p := p + 2) (by omega) 4
        obtain ⟨r, q, hr, hq⟩ := ih (l ++ [v]) (p + 2 + 1) (by simp; omega) (by omega) (by omega)
        refine ⟨r, q, ?_, hq⟩
        refine Ev.step (fun k => rfl) ?_
        simp only [spec_l1Costs.l0, if_pos (show (i : Int) < (n : Int) by omega)]
        refine Ev.bind hc ?_
        simp only [Bool.false_eq_true, if_false, spec_CostValid_eq, hv, Option.bind_some]
        refine Ev.bind hp ?_
        simp only [if_pos hlen, w64n (show i < 9223372036854775807 by omega)]
        exact hr
theorem spec_l1Costs_ev {s : List Int} (hs : Rdr s) {p : Int} (hp : 0 ≤ p ∧ p ≤ 800000) : ∃ r q, Ev (fun k => spec_l1Costs.f k s p) (r, q) ∧ r.length ≤ 4 ∧ p ≤ q ∧ q ≤ p + 14 := by
  obtain ⟨v, hv, -⟩ := spec_l13Rd_pick_ev hs (p := p) (by omega) 8
  obtain ⟨m, hm, m0, m1⟩ := spec_l13Rd_pick_ev hs (p := p + 1) (by omega) 5
  have m1 := m1 (by omega)
  obtain ⟨n, rfl⟩ := Int.eq_ofNat_of_zero_le m0
  obtain ⟨r, q, hr, h1, h2, h3⟩ := spec_l1Costs_l0_ev hs (v == 0) n (by omega) (p0 := p + 1 + 1) (by omega) 0 (by omega) [] (p + 1 + 1) rfl (by omega) (by omega)
  refine ⟨r, q, ?_, h1, by omega, by omega⟩
  simp only [spec_l1Costs.f]
  exact Ev.bind hv (Ev.bind hm hr)
theorem spec_l13Rd_of_mem {s : List Int} (hs : Rdr s) {p : Int} (hp : 0 ≤ p ∧ p ≤ 1000000) (l : List ByteArray) (hl : 0 < l.length) : ∃ v, Ev (fun k => spec_l13Rd_of.f k s p l) (v, p + 1) ∧ v ∈ l := by
  obtain ⟨v, hv, h0, h1⟩ := spec_l13Rd_pick_ev hs hp (l.length : Int)
  have h1 := h1 (by omega)
  obtain ⟨n, rfl⟩ := Int.eq_ofNat_of_zero_le h0
  have hn : n < l.length := by omega
  refine ⟨rdOf ByteArray.empty l (n : Int), ?_, ?_⟩
  · simp only [spec_l13Rd_of.f]
    refine Ev.bind hv ?_
    simp only [if_pos h0, if_pos h1]
    exact Ev.now _
  · have : rdOf ByteArray.empty l (n : Int) = l[n] := by simp [rdOf, List.getD_eq_getElem?_getD, hn]
    rw [this]
    exact List.getElem_mem hn
/-- The sum of two costs, at most 1000000. -/
def addc (s a : Int) : Int := min (s + a) 1000000
theorem addc_bd {s a : Int} (h0 : 0 ≤ s) (h1 : 0 ≤ a) : 0 ≤ addc s a ∧ addc s a ≤ 1000000 := by unfold addc; omega
def sumc (l : List Int) : Int := if l.all cv then l.foldl addc 0 else -1
def leastc (l : List Int) : Int := if l.all cv then l.foldl min 1000000 else -1
theorem impl_SumCosts_ev (l : List Int) (hl : l.length < 9223372036854775807) : Ev (fun k => impl_SumCosts.f k l) (sumc l) := by
  have h := down l.length (P := fun i => ∀ acc : Int, 0 ≤ acc → acc ≤ 1000000 → Ev (fun k => impl_SumCosts.l0 k acc l (l.length : Int) (i : Int)) (if (l.drop i).all cv then (l.drop i).foldl addc acc else -1)) ?_ ?_ 0 (by omega) 0 (by omega) (by omega)
  · simpa only [impl_SumCosts.f, sumc, List.drop_zero, cast0] using h
  · intro acc h0 h1
    refine Ev.step (fun k => rfl) ?_
    simp only [impl_SumCosts.l0, if_neg (show ¬ (l.length : Int) < (l.length : Int) by omega), dropn]
    exact Ev.now _
  · intro i hi ih acc h0 h1
    refine Ev.step (fun k => rfl) ?_
    simp only [impl_SumCosts.l0, if_pos (show (i : Int) < (l.length : Int) by omega), if_pos (show (0 : Int) ≤ (i : Int) by omega), rd_nat hi, impl_CostValid_eq, Option.bind_some, dropc hi, List.all_cons, List.foldl_cons, w64n (show i < 9223372036854775807 by omega)]
    cases hc : cv l[i] with
    | false => simpa using Ev.now _
    | true =>
      have hb := cv_iff.1 hc
      have e : mn (wrap64 (acc + l[i])) 1000000 = addc acc l[i] := by rw [mn_eq, w64 (by omega) (by omega)]; rfl
      have hd := addc_bd h0 hb.1
      simpa [e] using ih (addc acc l[i]) hd.1 hd.2
theorem laws_daSame_ev (a b : List Int) (ha : a.length < 9223372036854775807) : Ev (fun k => laws_daSame.f k a b) (decide (a = b)) := by
  have hm : mn (a.length : Int) (b.length : Int) = ((min a.length b.length : Nat) : Int) := by rw [mn_eq]; omega
  have h := down (min a.length b.length) (P := fun i => Ev (fun k => laws_daSame.l0 k a b ((min a.length b.length : Nat) : Int) (i : Int)) (decide (a.drop i = b.drop i))) ?_ ?_ 0 (by omega)
  · simpa only [laws_daSame.f, hm, List.drop_zero, cast0] using h
  · refine Ev.step (fun k => rfl) ?_
    simp only [laws_daSame.l0, if_neg (show ¬ ((min a.length b.length : Nat) : Int) < ((min a.length b.length : Nat) : Int) by omega)]
    refine ev_to (Ev.now _) ?_
    by_cases e : a.length = b.length
    · have e1 : min a.length b.length = a.length := by omega
      rw [e1, dropn, e, dropn]
      simp
    · rw [beq_eq_false_iff_ne.2 (by omega)]
      symm
      rw [decide_eq_false_iff_not]
      intro h
      have := congrArg List.length h
      simp at this
      omega
  · intro i hi ih
    have h1 : i < a.length := by omega
    have h2 : i < b.length := by omega
    refine Ev.step (fun k => rfl) ?_
    simp only [laws_daSame.l0, if_pos (show (i : Int) < ((min a.length b.length : Nat) : Int) by omega), if_pos (show (0 : Int) ≤ (i : Int) by omega), if_pos (show (i : Int) < (a.length : Int) by omega), if_pos (show (i : Int) < (b.length : Int) by omega), rd_nat h1, rd_nat h2, w64n (show i < 9223372036854775807 by omega)]
    by_cases e : a[i] = b[i]
    · simp only [if_pos e]
      exact ev_to ih (by rw [dropc h1, dropc h2]; simp only [List.cons.injEq, e, true_and])
    · simp only [if_neg e]
      exact ev_to (Ev.now false) (by rw [dropc h1, dropc h2]; simp only [List.cons.injEq, e, false_and, decide_false])
theorem DrawFormatCosts_ev (l : List Int) (hl : ∀ x ∈ l, (Lit.int .u8 x).wf = true) : ∃ r, Ev (fun k => spec_DrawFormatCosts.f k l) r ∧ r.length ≤ 4 := by
  obtain ⟨s, e, hs⟩ := spec_l13Open_ev l hl
  obtain ⟨r, q, hr, h1, -⟩ := spec_l1Costs_ev hs (p := 0) (by omega)
  refine ⟨r, ?_, h1⟩
  simp only [spec_DrawFormatCosts.f, e, Option.bind_some]
  exact Ev.bind hr (Ev.now _)
theorem DrawParseCosts_ev (l : List Int) (hl : ∀ x ∈ l, (Lit.int .u8 x).wf = true) : ∃ t, Ev (fun k => spec_DrawParseCosts.f k l) t ∧ t.size ≤ 1000 := by
  obtain ⟨s, e, hs⟩ := spec_l13Open_ev l hl
  obtain ⟨r, q, hr, h1, q0, q1⟩ := spec_l1Costs_ev hs (p := 0) (by omega)
  obtain ⟨v, hv, -⟩ := spec_l13Rd_pick_ev hs (p := q) (by omega) 2
  have ht := spec_FormatCosts_ev r (by omega)
  have hz : (fcs r).size ≤ 28 := by
    unfold fcs
    rw [ofL_size]
    unfold fcosts
    split
    · have := fcosts_len r
      omega
    · simp
  by_cases c : v = 0
  · refine ⟨fcs r, ?_, by omega⟩
    simp only [spec_DrawParseCosts.f, e, Option.bind_some]
    refine Ev.bind hr (Ev.bind ht (Ev.bind hv ?_))
    simp only [if_pos c]
    exact Ev.now _
  · have ew : wrap64 (((fcs r).size : Int) + 1) = ((fcs r).size : Int) + 1 := w64 (by omega) (by omega)
    obtain ⟨a, ha, a0, a1⟩ := spec_l13Rd_pick_ev hs (p := q + 1) (by omega) (((fcs r).size : Int) + 1)
    have a1 := a1 (by omega)
    obtain ⟨u, hu, hm⟩ := spec_l13Rd_of_mem hs (p := q + 1 + 1) (by omega) [(⟨#[]⟩ : ByteArray), (⟨#[32]⟩ : ByteArray), (⟨#[48]⟩ : ByteArray), (⟨#[45]⟩ : ByteArray), (⟨#[120]⟩ : ByteArray)] (by simp)
    obtain ⟨b, hb, b0, b1⟩ := spec_l13Rd_pick_ev hs (p := q + 1 + 1 + 1) (by omega) 2
    have b1 := b1 (by omega)
    have hus : u.size ≤ 1 := by
      simp only [List.mem_cons, List.not_mem_nil, or_false] at hm
      rcases hm with rfl | rfl | rfl | rfl | rfl <;> decide
    have e1 : wrap64 (a + b) = a + b := w64 (by omega) (by omega)
    have e2 : 0 ≤ mn (a + b) ((fcs r).size : Int) ∧ mn (a + b) ((fcs r).size : Int) ≤ ((fcs r).size : Int) := by
      rw [mn_eq]
      omega
    have z1 : ((fcs r).extract 0 a.toNat).size ≤ 28 := by
      rw [ByteArray.size_extract]
      omega
    have z2 : ((fcs r).extract (mn (a + b) ((fcs r).size : Int)).toNat (fcs r).size).size ≤ 28 := by
      rw [ByteArray.size_extract]
      omega
    have z3 : ((fcs r).extract 0 a.toNat ++ u).size ≤ 29 := by
      rw [ByteArray.size_append]
      omega
    refine ⟨((fcs r).extract 0 a.toNat ++ u) ++ (fcs r).extract (mn (a + b) ((fcs r).size : Int)).toNat (fcs r).size, ?_, by rw [ByteArray.size_append]; omega⟩
    simp only [spec_DrawParseCosts.f, e, Option.bind_some]
    refine Ev.bind hr (Ev.bind ht (Ev.bind hv ?_))
    simp only [if_neg c, ew]
    refine Ev.bind ha ?_
    simp only [if_pos a0, if_pos (show a ≤ ((fcs r).size : Int) by omega)]
    refine Ev.bind hu ?_
    simp only [if_pos (show ((fcs r).extract 0 a.toNat).size + u.size ≤ 9223372036854775807 by omega)]
    refine Ev.bind hb ?_
    simp only [e1, if_pos e2.1, if_pos e2.2, if_pos (show ((fcs r).extract 0 a.toNat ++ u).size + ((fcs r).extract (mn (a + b) ((fcs r).size : Int)).toNat (fcs r).size).size ≤ 9223372036854775807 by omega)]
    exact Ev.now _
theorem DrawParseCost_ev (l : List Int) (hl : ∀ x ∈ l, (Lit.int .u8 x).wf = true) : ∃ t, Ev (fun k => spec_DrawParseCost.f k l) t ∧ t.size ≤ 1000 := by
  obtain ⟨s, e, hs⟩ := spec_l13Open_ev l hl
  obtain ⟨u, hu, hm⟩ := spec_l13Rd_of_mem hs (p := 0) (by omega) [(⟨#[48]⟩ : ByteArray), (⟨#[45]⟩ : ByteArray), (⟨#[49]⟩ : ByteArray), (⟨#[49, 50]⟩ : ByteArray), (⟨#[57, 57, 57, 57, 57, 57]⟩ : ByteArray), (⟨#[49, 48, 48, 48, 48, 48, 48]⟩ : ByteArray), (⟨#[45, 49]⟩ : ByteArray), (⟨#[48, 49]⟩ : ByteArray), (⟨#[]⟩ : ByteArray), (⟨#[120]⟩ : ByteArray), (⟨#[45, 45]⟩ : ByteArray), (⟨#[55]⟩ : ByteArray)] (by simp)
  refine ⟨u, ?_, ?_⟩
  · simp only [spec_DrawParseCost.f, e, Option.bind_some]
    exact Ev.bind hu (Ev.now _)
  · simp only [List.mem_cons, List.not_mem_nil, or_false] at hm
    rcases hm with rfl | rfl | rfl | rfl | rfl | rfl | rfl | rfl | rfl | rfl | rfl | rfl <;> decide
theorem CostText_j1 (l : List Int) (hl : ∀ x ∈ l, (Lit.int .u8 x).wf = true) : Ev (fun k => laws_FnCostText.j1 k l false) true := by
  obtain ⟨t, ht, hz⟩ := DrawParseCosts_ev l hl
  obtain ⟨u, hu, hy⟩ := DrawParseCost_ev l hl
  have hn := pcosts_len t
  have hp : impl_ParseCost.f u = some (pcost u.data.toList) := impl_ParseCost_eq (by omega)
  have hE := laws_daSame_ev (pcosts t).1 (pcosts t).1 (by omega)
  have hF : (pcost u.data.toList).2 = true → (fc (pcost u.data.toList).1).data.toList = u.data.toList := fun h => (pcost_yes (Prod.ext rfl h)).2.2
  refine Ev.step (fun k => rfl) ?_
  simp only [laws_FnCostText.j1, Bool.false_eq_true, if_false]
  refine Ev.bind ht (Ev.bind (impl_ParseCosts_ev (by omega)) (Ev.bind (spec_ParseCosts_ev (by omega)) (Ev.bind hu ?_)))
  simp only [hp, Option.bind_some]
  refine Ev.bind (spec_ParseCost_ev u) (Ev.bind hE ?_)
  simp only [decide_true, if_true, BEq.rfl, impl_FormatCost_eq, Option.bind_some, ba_toL]
  have last : Ev (fun k => if (pcost u.data.toList).2 = true then some ((fc (pcost u.data.toList).1).data.toList == u.data.toList) else some true) true := by
    split
    · rename_i h
      rw [hF h]
      simp only [BEq.rfl]
      exact Ev.now _
    · exact Ev.now _
  cases h : (pcosts t).2 with
  | true =>
    simp only [if_true]
    have hy := (pcosts_yes (p := t) (Prod.ext rfl h)).2
    refine Ev.bind (impl_FormatCosts_ev _ (by omega)) ?_
    have e : (fcs (pcosts t).1).data.toList = t.data.toList := by
      unfold fcs
      rw [ofL_toL, hy]
    simp only [e, if_true]
    exact last
  | false =>
    simp only [Bool.false_eq_true, if_false]
    exact last
theorem sumc_nn {l : List Int} (h : l.all cv = true) : 0 ≤ sumc l := by
  have key : ∀ (l : List Int), (∀ x ∈ l, cv x = true) → ∀ a : Int, 0 ≤ a → 0 ≤ l.foldl addc a := by
    intro l
    induction l with
    | nil => intro _ a ha; exact ha
    | cons x l ih =>
      intro hx a ha
      rw [List.foldl_cons]
      refine ih (fun y hy => hx y (List.mem_cons_of_mem _ hy)) _ ?_
      have := cv_iff.1 (hx x List.mem_cons_self)
      unfold addc
      omega
  unfold sumc
  rw [if_pos h]
  exact key l (fun x hx => List.all_eq_true.1 h x hx) 0 (by omega)
theorem CostText_main (l0 l1 : List Int) (h0 : ∀ x ∈ l0, (Lit.int .u8 x).wf = true) (h1 : ∀ x ∈ l1, (Lit.int .u8 x).wf = true) : Ev (fun k => laws_FnCostText.j0 k l0 l1 false) true := by
  obtain ⟨r, hr, hz⟩ := DrawFormatCosts_ev l0 h0
  have hs : (fcs r).size ≤ 28 := by
    unfold fcs
    rw [ofL_size]
    unfold fcosts
    split
    · have := fcosts_len r
      omega
    · simp
  have hj := CostText_j1 l1 h1
  refine Ev.step (fun k => rfl) ?_
  simp only [laws_FnCostText.j0, Bool.false_eq_true, if_false]
  refine Ev.bind hr (Ev.bind (impl_FormatCosts_ev r (by omega)) (Ev.bind (spec_FormatCosts_ev r (by omega)) ?_))
  simp only [if_true]
  refine Ev.bind (impl_SumCosts_ev r (by omega)) (Ev.bind (impl_ParseCosts_ev (by omega)) ?_)
  cases hv : r.all cv with
  | true =>
    have hp : pcosts (fcs r) = (r, true) := pcosts_f hv
    simp only [if_pos (show sumc r ≥ 0 from sumc_nn hv), hp, if_true]
    refine Ev.bind (laws_daSame_ev r r (by omega)) ?_
    simp only [decide_true, if_true]
    exact hj
  | false =>
    have hn : ¬ sumc r ≥ 0 := by
      unfold sumc
      rw [hv]
      simp
    have he : (fcs r).toList = ([] : List UInt8) := by
      rw [ba_toL]
      unfold fcs
      rw [ofL_toL]
      unfold fcosts
      rw [hv]
      simp
    simp only [if_neg hn, he, bne_self_eq_false]
    exact hj
theorem FnCostText : laws_FnCostText.Pure := by
  intro l0 l1 _ _ h0 _ _ h1
  refine Ev.rounds ?_
  simp only [laws_FnCostText.f]
  have ht : Ev (fun k => laws_FnCostText.j0 k l0 l1 true) true := by
    refine Ev.step (fun k => rfl) ?_
    simp only [laws_FnCostText.j0, if_true]
    exact Ev.now _
  by_cases c0 : (l0.length : Int) > 1048576
  · simp only [if_pos c0]; exact ht
  · simp only [if_neg c0]
    by_cases c1 : (l1.length : Int) > 1048576
    · simp only [c1, decide_true]; exact ht
    · simp only [c1, decide_false]; exact CostText_main l0 l1 h0 h1

end Go.Proofs.YtmnfbnpclanafaaDoor.Pure
