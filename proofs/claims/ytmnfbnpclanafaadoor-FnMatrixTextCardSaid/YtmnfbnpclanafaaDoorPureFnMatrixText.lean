/- The pure statement of FnMatrixText: the printed functions answer true at every input that can be read. -/
import Derived.Test.YtmnfbnpclanafaaDoorPGPx12
set_option linter.unusedVariables false
set_option linter.unusedSimpArgs false
namespace Go.Proofs.YtmnfbnpclanafaaDoor.Pure
open Go.RowKit Go.Proofs.YtmnfbnpclanafaaDoor.PGP Go.Proofs.YtmnfbnpclanafaaDoorW.PrintWords Go.Proofs.YtmnfbnpclanafaaDoorW.PrintLast Go.Proofs.YtmnfbnpclanafaaDoorW.PrintMore

theorem w64 {x : Int} (h0 : -9223372036854775808 ≤ x) (h1 : x ≤ 9223372036854775807) : wrap64 x = x := by unfold wrap64; omega
theorem cast0 : ((0 : Nat) : Int) = 0 := rfl
theorem w64n {i : Nat} (h : i < 9223372036854775807) : wrap64 ((i : Int) + 1) = ((i + 1 : Nat) : Int) := by rw [w64 (by omega) (by omega)]; omega
theorem rd_nat {l : List Int} {i : Nat} (h : i < l.length) : rd l (i : Int) = l[i] := by simp [rd, List.getD_eq_getElem?_getD, h]
theorem mn_eq (a b : Int) : mn a b = min a b := by unfold mn; split <;> omega
theorem mx_eq (a b : Int) : mx a b = max a b := by unfold mx; split <;> omega
theorem down (n : Nat) {P : Nat → Prop} (h0 : P n) (hs : ∀ i, i < n → P (i + 1) → P i) : ∀ i, i ≤ n → P i := by
  have h : ∀ d i, i + d = n → P i := by
    intro d
    induction d with
    | zero => intro i hi; obtain rfl : i = n := by omega
              exact h0
    | succ d ih => intro i hi; exact hs i (by omega) (ih (i + 1) (by omega))
  exact fun i hi => h (n - i) i (by omega)
theorem ev_to {α : Type} {g : Nat → Option α} {r r' : α} (h : Ev g r) (e : r = r') : Ev g r' := e ▸ h
theorem dropc {α : Type} {l : List α} {i : Nat} (h : i < l.length) : l.drop i = l[i] :: l.drop (i + 1) := List.drop_eq_getElem_cons h
theorem dropn {α : Type} (l : List α) : l.drop l.length = [] := List.drop_eq_nil_of_le (Nat.le_refl _)
theorem wf64 {x : Int} (h : (Lit.int .i64 x).wf = true) : -9223372036854775808 ≤ x ∧ x ≤ 9223372036854775807 := by
  simp [Lit.wf, IntKind.min, IntKind.max, IntKind.signed, IntKind.bits] at h
  omega
theorem wf8 {x : Int} (h : (Lit.int .u8 x).wf = true) : 0 ≤ x ∧ x ≤ 255 := by
  simp [Lit.wf, IntKind.min, IntKind.max, IntKind.signed, IntKind.bits] at h
  omega
theorem nnc (q : Nat) : (0 : Int) ≤ (q : Int) := Int.natCast_nonneg q
theorem ltc {a b : Nat} (h : a < b) : (a : Int) < (b : Int) := Int.ofNat_lt.2 h
theorem dec_step {u : Nat} (h : ¬ u < 10) : Lib.decDigits u = Lib.decDigits (u / 10) ++ [UInt8.ofNat (48 + u % 10)] := by rw [Lib.decDigits, dif_neg h]
theorem dec_one {u : Nat} (h : u < 10) : Lib.decDigits u = [UInt8.ofNat (48 + u)] := by rw [Lib.decDigits, dif_pos h]
theorem digit_nat {d : Nat} (h : d < 10) : (UInt8.ofNat (48 + d)).toNat = 48 + d := by
  have : (UInt8.ofNat (48 + d)).toNat = (48 + d) % 256 := UInt8.toNat_ofNat'
  omega
/-- What digits spell. -/
def dstep (a : Nat) (c : UInt8) : Nat := a * 10 + (c.toNat - 48)
def numv (l : List UInt8) : Nat := l.foldl dstep 0
theorem numv_snoc (l : List UInt8) (c : UInt8) : numv (l ++ [c]) = numv l * 10 + (c.toNat - 48) := by simp [numv, List.foldl_append, dstep]
theorem numv_dec (u : Nat) : numv (Lib.decDigits u) = u := by
  induction u using Nat.strongRecOn with
  | _ u ih =>
    by_cases h : u < 10
    · have e : numv [UInt8.ofNat (48 + u)] = 0 * 10 + ((UInt8.ofNat (48 + u)).toNat - 48) := rfl
      rw [dec_one h, e, digit_nat h]
      omega
    · rw [dec_step h, numv_snoc, ih (u / 10) (by omega), digit_nat (Nat.mod_lt _ (by omega))]
      omega
def isd (c : UInt8) : Prop := 48 ≤ c.toNat ∧ c.toNat ≤ 57
def digs (l : List UInt8) : Prop := ∀ c ∈ l, isd c
theorem dec_digs (u : Nat) : digs (Lib.decDigits u) := by
  induction u using Nat.strongRecOn with
  | _ u ih =>
    intro c hc
    by_cases h : u < 10
    · rw [dec_one h, List.mem_singleton] at hc
      subst hc
      unfold isd
      rw [digit_nat h]
      omega
    · rw [dec_step h, List.mem_append, List.mem_singleton] at hc
      rcases hc with hc | rfl
      · exact ih (u / 10) (by omega) c hc
      · unfold isd
        rw [digit_nat (Nat.mod_lt _ (by omega))]
        omega
theorem dec_ne (u : Nat) : Lib.decDigits u ≠ [] := by
  by_cases h : u < 10
  · rw [dec_one h]
    exact List.cons_ne_nil _ _
  · rw [dec_step h]
    simp
theorem dec_len : ∀ (k u : Nat), u < 10 ^ (k + 1) → (Lib.decDigits u).length ≤ k + 1
  | 0, u, h => by rw [dec_one (by simpa using h)]; exact Nat.le_refl _
  | k + 1, u, h => by
    by_cases c : u < 10
    · rw [dec_one c]
      exact Nat.succ_le_succ (Nat.zero_le _)
    · rw [dec_step c, List.length_append]
      have := dec_len k (u / 10) (by rw [Nat.pow_succ] at h; omega)
      simp only [List.length_singleton]
      omega
theorem fold_ge : ∀ (l : List UInt8) (a : Nat), a ≤ l.foldl dstep a
  | [], a => Nat.le_refl _
  | c :: r, a => by
    have := fold_ge r (dstep a c)
    have e : dstep a c = a * 10 + (c.toNat - 48) := rfl
    simp only [List.foldl_cons]
    omega
theorem parse_ok : ∀ (l : List UInt8) (a : Nat), digs l → l.foldl dstep a < 1000000000 → Lib.parseUint10 a l = .ok (l.foldl dstep a)
  | [], a, _, _ => rfl
  | c :: r, a, hd, h => by
    have hc : isd c := hd c List.mem_cons_self
    have hge := fold_ge r (dstep a c)
    have e : dstep a c = a * 10 + (c.toNat - 48) := rfl
    simp only [List.foldl_cons] at h ⊢
    unfold Lib.parseUint10
    rw [if_pos (show 48 ≤ c.toNat ∧ c.toNat ≤ 57 from hc), if_neg (by omega), if_neg (by omega)]
    exact parse_ok r _ (fun x hx => hd x (List.mem_cons_of_mem _ hx)) h
theorem atoi_dec {u : Nat} (h : u ≤ 999999) : Lib.atoiAll (Lib.decDigits u) = .ok (u : Int) := by
  obtain ⟨c, r, e⟩ : ∃ c r, Lib.decDigits u = c :: r := by
    cases e : Lib.decDigits u with
    | nil => exact absurd e (dec_ne u)
    | cons c r => exact ⟨c, r, rfl⟩
  have hd := dec_digs u
  have hv := numv_dec u
  rw [e] at hd hv ⊢
  have hc : isd c := hd c List.mem_cons_self
  unfold isd at hc
  have hp : Lib.parseUint10 0 (c :: r) = .ok u := by
    have := parse_ok (c :: r) 0 hd (by show numv (c :: r) < _; rw [hv]; omega)
    rw [this]
    exact congrArg _ hv
  rw [Lib.atoiAll_plain c r (by omega) (by omega)]
  unfold Lib.parseMag
  rw [if_neg (List.cons_ne_nil _ _), hp]
  show (if 9223372036854775808 ≤ u then Lib.NumEnd.range else Lib.NumEnd.ok (u : Int)) = _
  rw [if_neg (by omega)]
/-- What a text of a cost says. -/
def pcost (l : List UInt8) : Int × Bool := if l = [45] then (1000000, true) else if numv l ≤ 999999 ∧ l = Lib.decDigits (numv l) then ((numv l : Int), true) else (0, false)
/-- The text of a cost. -/
def fcost (a : Int) : List UInt8 := if 0 ≤ a ∧ a ≤ 1000000 then (if a = 1000000 then [45] else Lib.decDigits a.toNat) else []
theorem dec_minus (u : Nat) : Lib.decDigits u ≠ [45] := fun h => by
  have := dec_digs u 45 (by rw [h]; exact List.mem_cons_self)
  unfold isd at this
  have e : (45 : UInt8).toNat = 45 := rfl
  omega
theorem pcost_dec {u : Nat} (h : u ≤ 999999) : pcost (Lib.decDigits u) = ((u : Int), true) := by
  unfold pcost
  rw [if_neg (dec_minus u), numv_dec, if_pos ⟨h, rfl⟩]
theorem pcost_no {l : List UInt8} (h1 : l ≠ [45]) (h2 : ∀ u, u ≤ 999999 → l ≠ Lib.decDigits u) : pcost l = (0, false) := by
  unfold pcost
  rw [if_neg h1, if_neg fun h => h2 _ h.1 h.2]
theorem pcost_f {a : Int} (h0 : 0 ≤ a) (h1 : a ≤ 1000000) : pcost (fcost a) = (a, true) := by
  unfold fcost
  rw [if_pos ⟨h0, h1⟩]
  by_cases c : a = 1000000
  · rw [if_pos c, c]
    rfl
  · rw [if_neg c, pcost_dec (by omega)]
    congr 1
    omega
theorem pcost_yes {l : List UInt8} {a : Int} (h : pcost l = (a, true)) : 0 ≤ a ∧ a ≤ 1000000 ∧ fcost a = l := by
  unfold pcost at h
  split at h
  · rename_i e
    injection h with h _
    subst h
    exact ⟨by omega, by omega, e.symm⟩
  · split at h
    · rename_i hh
      injection h with h _
      subst h
      refine ⟨by omega, by omega, ?_⟩
      unfold fcost
      rw [if_pos ⟨by omega, by omega⟩, if_neg (by omega), Int.toNat_natCast]
      exact hh.2.symm
    · injection h with _ h
      cases h
theorem pcost_cases (l : List UInt8) : (∃ a, pcost l = (a, true)) ∨ pcost l = (0, false) := by
  unfold pcost
  split
  · exact .inl ⟨_, rfl⟩
  · split
    · exact .inl ⟨_, rfl⟩
    · exact .inr rfl
/-- A text cut at every such sign. -/
def cutL (c : UInt8) : List UInt8 → List (List UInt8)
  | [] => [[]]
  | x :: r => if x = c then [] :: cutL c r else
    match cutL c r with
    | [] => [[x]]
    | h :: t => (x :: h) :: t
theorem cutL_ne (c : UInt8) : ∀ l, cutL c l ≠ []
  | [] => List.cons_ne_nil _ _
  | x :: r => by
    unfold cutL
    split
    · exact List.cons_ne_nil _ _
    · split <;> exact List.cons_ne_nil _ _
theorem cutL_cons {c x : UInt8} {r h : List UInt8} {t : List (List UInt8)} (hx : ¬ x = c) (e : cutL c r = h :: t) : cutL c (x :: r) = (x :: h) :: t := by rw [cutL, if_neg hx, e]
theorem cutL_no {c : UInt8} : ∀ {p : List UInt8}, c ∉ p → ∀ l, cutL c (p ++ l) = (p ++ (cutL c l).head (cutL_ne c l)) :: (cutL c l).tail
  | [], _, l => by
    show cutL c l = (cutL c l).head _ :: _
    exact (List.cons_head_tail (cutL_ne c l)).symm
  | x :: p, h, l => by
    have hx : ¬ x = c := fun e => h (by rw [e]; exact List.mem_cons_self)
    exact cutL_cons hx (cutL_no (fun hh => h (List.mem_cons_of_mem _ hh)) l)
theorem cutL_alone {c : UInt8} {p : List UInt8} (h : c ∉ p) : cutL c p = [p] := by
  have := cutL_no h []
  rw [List.append_nil] at this
  rw [this]
  simp [cutL]
theorem cutL_sep {c : UInt8} {p : List UInt8} (h : c ∉ p) (l : List UInt8) : cutL c (p ++ c :: l) = p :: cutL c l := by
  rw [cutL_no h]
  have e : cutL c (c :: l) = [] :: cutL c l := by
    rw [cutL, if_pos rfl]
  simp only [e, List.head_cons, List.tail_cons, List.append_nil]
/-- Parts with a sign between. -/
def joinL (c : UInt8) : List (List UInt8) → List UInt8
  | [] => []
  | [p] => p
  | p :: q :: r => p ++ c :: joinL c (q :: r)
theorem cutL_join {c : UInt8} : ∀ {ps : List (List UInt8)}, ps ≠ [] → (∀ p ∈ ps, c ∉ p) → cutL c (joinL c ps) = ps
  | [], h, _ => absurd rfl h
  | [p], _, h => cutL_alone (h p List.mem_cons_self)
  | p :: q :: r, _, h => by
    show cutL c (p ++ c :: joinL c (q :: r)) = _
    rw [cutL_sep (h p List.mem_cons_self), cutL_join (List.cons_ne_nil _ _) (fun x hx => h x (List.mem_cons_of_mem _ hx))]
theorem cutL_none (c : UInt8) : ∀ (l : List UInt8), ∀ p ∈ cutL c l, c ∉ p
  | [], p, hp => by
    have : p = [] := by simpa [cutL] using hp
    rw [this]
    exact List.not_mem_nil
  | x :: r, p, hp => by
    unfold cutL at hp
    split at hp
    · rcases List.mem_cons.1 hp with rfl | hp
      · exact List.not_mem_nil
      · exact cutL_none c r p hp
    · rename_i hx
      split at hp
      · rename_i e
        exact absurd e (cutL_ne c r)
      · rename_i h t e
        rcases List.mem_cons.1 hp with rfl | hp
        · intro hc
          rcases List.mem_cons.1 hc with e2 | hc
          · exact hx e2.symm
          · exact cutL_none c r h (by rw [e]; exact List.mem_cons_self) hc
        · exact cutL_none c r p (by rw [e]; exact List.mem_cons_of_mem _ hp)
theorem join_cutL (c : UInt8) : ∀ (l : List UInt8), joinL c (cutL c l) = l
  | [] => rfl
  | x :: r => by
    have ih := join_cutL c r
    unfold cutL
    split
    · rename_i hx
      cases e : cutL c r with
      | nil => exact absurd e (cutL_ne c r)
      | cons h t =>
        show [] ++ c :: joinL c (h :: t) = _
        rw [← e, ih, hx]
        rfl
    · cases e : cutL c r with
      | nil => exact absurd e (cutL_ne c r)
      | cons h t =>
        rw [e] at ih
        cases t with
        | nil => show x :: h = _; rw [show h = r from ih]
        | cons q t =>
          show (x :: h) ++ c :: joinL c (q :: t) = _
          rw [← ih]
          rfl
theorem joinL_lib (c : UInt8) : ∀ (ps : List (List UInt8)), Lib.join ps [c] = joinL c ps
  | [] => rfl
  | [p] => Lib.join_one p [c]
  | p :: q :: r => by
    have ih := joinL_lib c (q :: r)
    rw [Lib.join_cons, joinL, ← ih, Lib.join_cons]
    simp [Lib.joinTail]
/-- A cost: between 0 and 1000000. -/
def cv (a : Int) : Bool := decide (0 ≤ a ∧ a ≤ 1000000)
theorem cv_iff {a : Int} : cv a = true ↔ 0 ≤ a ∧ a ≤ 1000000 := by simp [cv]
theorem impl_CostValid_eq (a : Int) : impl_CostValid.f a = some (cv a) := by
  unfold impl_CostValid.f cv
  split <;> simp <;> omega
theorem ba_ext {a b : ByteArray} (h : a.data.toList = b.data.toList) : a = b := by
  cases a with
  | mk a => cases b with
    | mk b => exact congrArg ByteArray.mk (Array.toList_inj.1 h)
def ofL (l : List UInt8) : ByteArray := ⟨l.toArray⟩
theorem ofL_toL (l : List UInt8) : (ofL l).data.toList = l := rfl
theorem ofL_self (s : ByteArray) : ofL s.data.toList = s := ba_ext rfl
theorem ofL_app (a b : List UInt8) : ofL a ++ ofL b = ofL (a ++ b) := ba_ext (by simp [ofL])
theorem ofL_size (l : List UInt8) : (ofL l).size = l.length := by simp [ofL, ByteArray.size]
/-- The text of a cost, as a string. -/
def fc (a : Int) : ByteArray := ofL (fcost a)
theorem fcost_len (a : Int) : (fcost a).length ≤ 6 := by
  unfold fcost
  split
  · split
    · simp
    · exact dec_len 5 _ (by omega)
  · simp
theorem impl_FormatCost_eq (a : Int) : impl_FormatCost.f a = some (fc a) := by
  simp only [impl_FormatCost.f, impl_CostValid_eq, Option.bind_some]
  by_cases h : 0 ≤ a ∧ a ≤ 1000000
  · rw [if_pos (show cv a = true from cv_iff.2 h)]
    by_cases c : a = 1000000
    · rw [if_pos c, c]
      rfl
    · rw [if_neg c]
      unfold strconv_Itoa_48.f
      rw [if_pos ⟨by omega, by omega⟩]
      show some (some _ |>.get rfl) = _
      unfold fc fcost Lib.itoa
      rw [if_pos h, if_neg c, if_neg (by omega)]
      rfl
  · rw [if_neg (show ¬ cv a = true from fun q => h (cv_iff.1 q))]
    unfold fc fcost
    rw [if_neg h]
    rfl
theorem ba_toL (s : ByteArray) : s.toList = s.data.toList := ByteArray.toList_eq s
theorem at_eq (s : ByteArray) (a : Int) : impl_ParseCost.at_ s a = some (if cv a = true ∧ fcost a = s.data.toList then (a, true) else (0, false)) := by
  simp only [impl_ParseCost.at_, impl_CostValid_eq, impl_FormatCost_eq, Option.bind_some, ba_toL]
  cases h : cv a with
  | false => simp
  | true =>
    simp only [if_true, true_and]
    show (if fcost a = s.data.toList then _ else _) = _
    split <;> rfl
theorem impl_ParseCost_eq {s : ByteArray} (hs : s.size ≤ 140737488351232) : impl_ParseCost.f s = some (pcost s.data.toList) := by
  unfold impl_ParseCost.f
  rw [if_pos hs, ba_toL]
  by_cases c : s.data.toList = [45]
  · rw [if_pos c, at_eq, c]
    rfl
  · rw [if_neg c]
    by_cases hex : ∃ u, u ≤ 999999 ∧ s.data.toList = Lib.decDigits u
    · obtain ⟨u, hu, e⟩ := hex
      rw [e, atoi_dec hu]
      show impl_ParseCost.at_ s (u : Int) = _
      have hf : fcost (u : Int) = Lib.decDigits u := by
        unfold fcost
        rw [if_pos ⟨by omega, by omega⟩, if_neg (by omega), Int.toNat_natCast]
      rw [at_eq, pcost_dec hu, if_pos ⟨cv_iff.2 ⟨by omega, by omega⟩, by rw [hf, e]⟩]
    · rw [pcost_no c fun u hu e => hex ⟨u, hu, e⟩]
      split
      · rename_i v _
        rw [at_eq, if_neg]
        rintro ⟨h1, h2⟩
        have hv := cv_iff.1 h1
        unfold fcost at h2
        rw [if_pos hv] at h2
        split at h2
        · exact c h2.symm
        · exact hex ⟨v.toNat, by omega, h2.symm⟩
      · rfl
theorem bt_nat {s : ByteArray} {i : Nat} (h : i < s.size) : bt s (i : Int) = (s[i].toNat : Int) := by simp [bt, h]
def wordv (s : ByteArray) : Bool := s.data.toList.all (fun c => c == 97 || c == 98) && decide (s.size ≤ 1000)
def wordfrom (s : ByteArray) (i : Nat) : Bool := (s.data.toList.drop i).all (fun c => c == 97 || c == 98) && decide (s.size ≤ 1000)
theorem wordfrom_end (s : ByteArray) : wordfrom s s.size = decide ((s.size : Int) ≤ 1000) := by
  have : s.data.toList.drop s.size = [] := List.drop_eq_nil_of_le (by simp)
  simp only [wordfrom, this, List.all_nil, Bool.true_and]
  by_cases h : s.size ≤ 1000
  · rw [decide_eq_true h, decide_eq_true (by omega)]
  · rw [decide_eq_false h, decide_eq_false (by omega)]
theorem wordfrom_step {s : ByteArray} {i : Nat} (h : i < s.size) : wordfrom s i = ((s[i] == 97 || s[i] == 98) && wordfrom s (i + 1)) := by
  have : s.data.toList.drop i = s[i] :: s.data.toList.drop (i + 1) := List.drop_eq_getElem_cons (by simpa using h)
  simp only [wordfrom, this, List.all_cons, Bool.and_assoc]
theorem byte_is (c : UInt8) (n : Nat) (hn : n < 256) : ((c.toNat : Int) = (n : Int)) ↔ c = UInt8.ofNat n := by
  constructor
  · intro h
    apply UInt8.toNat_inj.1
    have : (UInt8.ofNat n).toNat = n % 256 := UInt8.toNat_ofNat'
    omega
  · intro h
    have : (UInt8.ofNat n).toNat = n % 256 := UInt8.toNat_ofNat'
    rw [h]
    omega
theorem byte97 (c : UInt8) : ((c.toNat : Int) = 97) ↔ c = 97 := byte_is c 97 (by decide)
theorem byte98 (c : UInt8) : ((c.toNat : Int) = 98) ↔ c = 98 := byte_is c 98 (by decide)
/-- What digits spell behind a number, or none if there is another sign. -/
def decs : Nat → List UInt8 → Option Nat
  | a, [] => some a
  | a, c :: r => if 48 ≤ c.toNat ∧ c.toNat ≤ 57 then decs (a * 10 + (c.toNat - 48)) r else none
theorem decs_digs : ∀ (l : List UInt8) (a : Nat), digs l → decs a l = some (l.foldl dstep a)
  | [], a, _ => rfl
  | c :: r, a, h => by
    have hc : isd c := h c List.mem_cons_self
    unfold decs
    rw [if_pos (show 48 ≤ c.toNat ∧ c.toNat ≤ 57 from hc)]
    exact decs_digs r _ (fun x hx => h x (List.mem_cons_of_mem _ hx))
theorem decs_some : ∀ (l : List UInt8) (a v : Nat), decs a l = some v → digs l ∧ v = l.foldl dstep a
  | [], a, v, h => ⟨fun _ hc => (List.not_mem_nil hc).elim, (Option.some.inj h).symm⟩
  | c :: r, a, v, h => by
    unfold decs at h
    split at h
    · rename_i hc
      obtain ⟨h1, h2⟩ := decs_some r _ v h
      refine ⟨fun x hx => ?_, h2⟩
      rcases List.mem_cons.1 hx with rfl | hx
      · exact hc
      · exact h1 x hx
    · cases h
/-- What the reference reads as a number. -/
def numS (l : List UInt8) : Int × Bool :=
  let neg := l.head? == some 45
  let r := if neg = true then l.tail else l
  if r = [] ∨ 17 < r.length ∨ (r.head? = some 48 ∧ (1 < r.length ∨ neg = true)) then (0, false) else
    match decs 0 r with
    | none => (0, false)
    | some v => (if neg = true then -(v : Int) else (v : Int), true)
theorem canon : ∀ (n : Nat) (l : List UInt8), l.length = n → digs l → l ≠ [] → (l.head? ≠ some 48 ∨ l.length = 1) → l = Lib.decDigits (numv l) := by
  intro n
  induction n with
  | zero => intro l h _ hn; exact absurd (List.eq_nil_of_length_eq_zero h) hn
  | succ n ih =>
    intro l hl hd hn hc
    obtain ⟨l', c, rfl⟩ : ∃ l' c, l = l' ++ [c] := ⟨l.dropLast, l.getLast hn, (List.dropLast_concat_getLast hn).symm⟩
    have hcd : isd c := hd c (by simp)
    unfold isd at hcd
    have hb : UInt8.ofNat (48 + (c.toNat - 48)) = c := by
      apply UInt8.toNat_inj.1
      rw [digit_nat (by omega)]
      omega
    cases l' with
    | nil =>
      have e : numv ([] ++ [c]) = c.toNat - 48 := by
        rw [numv_snoc]
        show 0 * 10 + _ = _
        omega
      rw [e, dec_one (by omega), hb]
      rfl
    | cons b r =>
      have hb0 : b.toNat ≠ 48 := by
        rcases hc with hc | hc
        · intro h
          refine hc ?_
          have : b = 48 := UInt8.toNat_inj.1 h
          rw [this]
          rfl
        · simp at hc
      have hbd : isd b := hd b (by simp)
      unfold isd at hbd
      have hd' : digs (b :: r) := fun x hx => hd x (List.mem_append_left _ hx)
      have hrec := ih (b :: r) (by simp at hl ⊢; omega) hd' (List.cons_ne_nil _ _) (.inl fun h => hb0 (by have := Option.some.inj h; rw [this]; rfl))
      have hpos : 1 ≤ numv (b :: r) := by
        have := fold_ge r (dstep 0 b)
        have e : dstep 0 b = 0 * 10 + (b.toNat - 48) := rfl
        show 1 ≤ List.foldl dstep (dstep 0 b) r
        omega
      rw [numv_snoc, dec_step (by omega)]
      have e1 : (numv (b :: r) * 10 + (c.toNat - 48)) / 10 = numv (b :: r) := by omega
      have e2 : (numv (b :: r) * 10 + (c.toNat - 48)) % 10 = c.toNat - 48 := by omega
      rw [e1, e2, hb, ← hrec]
theorem dec_head (u : Nat) (h : (Lib.decDigits u).head? = some 48) : (Lib.decDigits u).length = 1 := by
  induction u using Nat.strongRecOn with
  | _ u ih =>
    by_cases c : u < 10
    · rw [dec_one c]
      rfl
    · exfalso
      rw [dec_step c] at h
      have hne := dec_ne (u / 10)
      have hh : (Lib.decDigits (u / 10)).head? = some 48 := by
        cases e : Lib.decDigits (u / 10) with
        | nil => exact absurd e hne
        | cons b r => rw [e] at h; exact h
      have h1 := ih (u / 10) (by omega) hh
      by_cases d : u / 10 < 10
      · rw [dec_one d] at hh
        have e := congrArg UInt8.toNat (Option.some.inj hh)
        rw [digit_nat d] at e
        have e48 : (48 : UInt8).toNat = 48 := rfl
        omega
      · rw [dec_step d, List.length_append, List.length_singleton] at h1
        exact dec_ne (u / 10 / 10) (List.eq_nil_of_length_eq_zero (by omega))
/-- The reference's reading of a cost is the same. -/
theorem numS_cost (l : List UInt8) : (if l = [45] then ((1000000 : Int), true) else if (numS l).2 = true ∧ 0 ≤ (numS l).1 ∧ (numS l).1 ≤ 999999 then ((numS l).1, true) else (0, false)) = pcost l := by
  by_cases h45 : l = [45]
  · rw [if_pos h45, h45]
    rfl
  rw [if_neg h45]
  by_cases hex : ∃ u, u ≤ 999999 ∧ l = Lib.decDigits u
  · obtain ⟨u, hu, rfl⟩ := hex
    have hs : numS (Lib.decDigits u) = ((u : Int), true) := by
      have hneg : ((Lib.decDigits u).head? == some 45) = false := by
        cases e : Lib.decDigits u with
        | nil => exact absurd e (dec_ne u)
        | cons b r =>
          have hb := dec_digs u b (by rw [e]; exact List.mem_cons_self)
          unfold isd at hb
          have hbn : b ≠ 45 := fun hh => by
            have e45 : (45 : UInt8).toNat = 45 := rfl
            rw [hh] at hb
            omega
          simpa using hbn
      have hlen := dec_len 5 u (by omega)
      unfold numS
      simp only [hneg, Bool.false_eq_true, if_false, or_false]
      rw [if_neg, decs_digs _ _ (dec_digs u)]
      · show ((numv (Lib.decDigits u) : Int), true) = _
        rw [numv_dec]
      · rintro (h | h | ⟨h, h1⟩)
        · exact dec_ne u h
        · omega
        · have := dec_head u h
          omega
    rw [hs, if_pos ⟨rfl, by show (0 : Int) ≤ u; omega, by show (u : Int) ≤ 999999; omega⟩, pcost_dec hu]
  · rw [pcost_no h45 fun u hu e => hex ⟨u, hu, e⟩, if_neg]
    rintro ⟨h1, h2, h3⟩
    apply hex
    unfold numS at h1 h2 h3
    by_cases hneg : (l.head? == some 45) = true
    · simp only [hneg, if_true, or_true, and_true] at h1 h2 h3
      split at h1
      · cases h1
      · rename_i hc
        rw [if_neg hc] at h2 h3
        cases hd : decs 0 l.tail with
        | none => rw [hd] at h1; cases h1
        | some v =>
          rw [hd] at h2 h3
          simp only at h2 h3
          obtain ⟨hdg, hv⟩ := decs_some _ _ _ hd
          cases ht : l.tail with
          | nil => exact absurd (.inl ht) hc
          | cons b r =>
            exfalso
            rw [ht] at hdg hv
            have hb := hdg b List.mem_cons_self
            unfold isd at hb
            have hb0 : b.toNat ≠ 48 := fun h => hc (.inr (.inr (by
              have : b = 48 := UInt8.toNat_inj.1 h
              rw [ht, this]
              rfl)))
            have := fold_ge r (dstep 0 b)
            have e : dstep 0 b = 0 * 10 + (b.toNat - 48) := rfl
            have e2 : v = List.foldl dstep (dstep 0 b) r := hv
            omega
    · have hneg : (l.head? == some 45) = false := Bool.eq_false_iff.2 hneg
      simp only [hneg, Bool.false_eq_true, if_false, or_false] at h1 h2 h3
      split at h1
      · cases h1
      · rename_i hc
        rw [if_neg hc] at h2 h3
        cases hd : decs 0 l with
        | none => rw [hd] at h1; cases h1
        | some v =>
          rw [hd] at h2 h3
          simp only at h2 h3
          obtain ⟨hdg, hv⟩ := decs_some _ _ _ hd
          have hl : l ≠ [] := fun h => hc (.inl h)
          refine ⟨v, by omega, ?_⟩
          have hcan : l.head? ≠ some 48 ∨ l.length = 1 := by
            by_cases h48 : l.head? = some 48
            · right
              have : ¬ 1 < l.length := fun h => hc (.inr (.inr ⟨h48, h⟩))
              have : l.length ≠ 0 := fun h => hl (List.eq_nil_of_length_eq_zero h)
              omega
            · exact .inl h48
          rw [hv]
          exact canon _ l rfl hdg hl hcan
/-- A number behind its sign. -/
def signd (neg : Bool) : Option Nat → Int × Bool
  | none => (0, false)
  | some v => (if neg = true then -(v : Int) else (v : Int), true)
theorem l13Num_l0 (s : ByteArray) (neg : Bool) (hs : s.size ≤ 17) : ∀ i, i ≤ s.size → ∀ v : Nat, v < 10 ^ i → Ev (fun k => spec_l13Num.l0 k s neg (v : Int) (i : Int)) (signd neg (decs v (s.data.toList.drop i))) := by
  refine down s.size ?_ ?_
  · intro v hv
    have hp : 10 ^ s.size ≤ 10 ^ 17 := Nat.pow_le_pow_right (by omega) hs
    refine Ev.step (fun k => rfl) ?_
    rw [List.drop_eq_nil_of_le (by simp : s.data.toList.length ≤ s.size)]
    simp only [spec_l13Num.l0, if_neg (show ¬ (s.size : Int) < (s.size : Int) by omega), w64 (show -9223372036854775808 ≤ -(v : Int) by omega) (by omega)]
    cases neg with
    | true => exact Ev.now _
    | false => exact Ev.now _
  · intro i hi ih v hv
    have hp : 10 ^ (i + 1) ≤ 10 ^ 17 := Nat.pow_le_pow_right (by omega) (by omega)
    rw [Nat.pow_succ] at hp
    have hd : s.data.toList.drop i = s[i] :: s.data.toList.drop (i + 1) := List.drop_eq_getElem_cons (by simpa using hi)
    refine Ev.step (fun k => rfl) ?_
    rw [hd]
    unfold decs
    simp only [spec_l13Num.l0, if_pos (ltc hi), if_pos (nnc i), bt_nat hi]
    by_cases h1 : (s[i].toNat : Int) < 48
    · simp only [if_pos h1]
      rw [if_neg (by omega)]
      exact Ev.now _
    · simp only [if_neg h1]
      by_cases h2 : (s[i].toNat : Int) > 57
      · simp only [if_pos h2]
        rw [if_neg (by omega)]
        exact Ev.now _
      · have e : wrap64 (wrap64 ((v : Int) * 10) + ((s[i].toNat : Int) - 48) % 256) = ((v * 10 + (s[i].toNat - 48) : Nat) : Int) := by
          rw [w64 (show -9223372036854775808 ≤ (v : Int) * 10 by omega) (by omega), w64 (by omega) (by omega)]
          omega
        simp only [if_neg h2, e, w64n (show i < 9223372036854775807 by omega)]
        rw [if_pos (by omega)]
        exact ih _ (by rw [Nat.pow_succ]; omega)
theorem ext_tail (s : ByteArray) : (s.extract 1 s.size).data.toList = s.data.toList.tail := by
  rw [ByteArray.data_extract, Array.toList_extract]
  simp only [List.extract, List.drop_one]
  exact List.take_of_length_le (by simp)
theorem l13Num_j1 (s : ByteArray) (neg : Bool) : Ev (fun k => spec_l13Num.j1 k s neg) (if s.data.toList = [] ∨ 17 < s.data.toList.length ∨ (s.data.toList.head? = some 48 ∧ (1 < s.data.toList.length ∨ neg = true)) then (0, false) else signd neg (decs 0 s.data.toList)) := by
  have hl : s.data.toList.length = s.size := by simp
  have hbad : Ev (fun k => spec_l13Num.j2 k s neg true) (0, false) := by
    refine Ev.step (fun k => rfl) ?_
    simp only [spec_l13Num.j2, if_true]
    exact Ev.now _
  have hgood : s.size ≤ 17 → Ev (fun k => spec_l13Num.j2 k s neg false) (signd neg (decs 0 s.data.toList)) := fun hs => by
    refine Ev.step (fun k => rfl) ?_
    simp only [spec_l13Num.j2, Bool.false_eq_true, if_false]
    have := l13Num_l0 s neg hs 0 (by omega) 0 (by omega)
    simpa only [cast0, List.drop_zero] using this
  refine Ev.step (fun k => rfl) ?_
  simp only [spec_l13Num.j1]
  by_cases h0 : (s.size : Int) = 0
  · simp only [if_pos h0]
    rw [if_pos (.inl (List.eq_nil_of_length_eq_zero (by omega)))]
    exact hbad
  have hne : s.data.toList ≠ [] := fun h => by
    rw [h] at hl
    simp only [List.length_nil] at hl
    omega
  simp only [if_neg h0]
  by_cases h1 : (s.size : Int) > 17
  · simp only [if_pos h1]
    rw [if_pos (.inr (.inl (by omega)))]
    exact hbad
  have hpos : 0 < s.size := by omega
  have hh : s.data.toList.head? = some s[0] := by
    have : s.data.toList.drop 0 = s[0] :: s.data.toList.drop 1 := List.drop_eq_getElem_cons (by simpa using hpos)
    rw [List.drop_zero] at this
    rw [this]
    rfl
  have hb := bt_nat hpos
  rw [cast0] at hb
  simp only [if_neg h1, if_pos (show 0 < (s.size : Int) by omega), hb]
  have h48 : ((s[0].toNat : Int) = 48) ↔ s[0] = 48 := byte_is _ 48 (by decide)
  by_cases h2 : (s[0].toNat : Int) = 48
  · have e48 : s.data.toList.head? = some 48 := by rw [hh, h48.1 h2]
    simp only [if_pos h2]
    by_cases h3 : (s.size : Int) > 1
    · simp only [if_pos h3]
      rw [if_pos (.inr (.inr ⟨e48, .inl (by omega)⟩))]
      exact hbad
    · simp only [if_neg h3]
      cases neg with
      | true =>
        rw [if_pos (.inr (.inr ⟨e48, .inr rfl⟩))]
        exact hbad
      | false =>
        rw [if_neg]
        · exact hgood (by omega)
        · rintro (h | h | ⟨_, h | h⟩)
          · exact hne h
          · omega
          · omega
          · cases h
  · simp only [if_neg h2]
    rw [if_neg]
    · exact hgood (by omega)
    · rintro (h | h | ⟨h, _⟩)
      · exact hne h
      · omega
      · rw [hh] at h
        exact h2 (h48.2 (Option.some.inj h))
theorem numS_eq (l : List UInt8) (neg : Bool) (r : List UInt8) (hn : (l.head? == some 45) = neg) (hr : (if neg = true then l.tail else l) = r) : numS l = (if r = [] ∨ 17 < r.length ∨ (r.head? = some 48 ∧ (1 < r.length ∨ neg = true)) then (0, false) else signd neg (decs 0 r)) := by
  subst hn
  subst hr
  unfold numS signd
  rfl
theorem spec_l13Num_ev (s : ByteArray) : Ev (fun k => spec_l13Num.f k s) (numS s.data.toList) := by
  have hl : s.data.toList.length = s.size := by simp
  simp only [spec_l13Num.f]
  by_cases h0 : (s.size : Int) > 0
  · have hpos : 0 < s.size := by omega
    have hh : s.data.toList.head? = some s[0] := by
      have : s.data.toList.drop 0 = s[0] :: s.data.toList.drop 1 := List.drop_eq_getElem_cons (by simpa using hpos)
      rw [List.drop_zero] at this
      rw [this]
      rfl
    have hb := bt_nat hpos
    rw [cast0] at hb
    have h45 : ((s[0].toNat : Int) = 45) ↔ s[0] = 45 := byte_is _ 45 (by decide)
    simp only [if_pos h0, if_pos (show 0 < (s.size : Int) by omega), hb]
    by_cases h : s[0] = 45
    · have e : ((s[0].toNat : Int) == 45) = true := beq_iff_eq.2 (h45.2 h)
      rw [e, numS_eq s.data.toList true (s.extract 1 s.size).data.toList (by rw [hh, h]; rfl) (by rw [if_pos rfl, ext_tail])]
      refine Ev.step (fun k => rfl) ?_
      simp only [spec_l13Num.j0, if_true, if_pos (show 1 ≤ (s.size : Int) by omega)]
      have := l13Num_j1 (s.extract 1 s.size) true
      simpa only [if_true] using this
    · have e : ((s[0].toNat : Int) == 45) = false := beq_eq_false_iff_ne.2 fun q => h (h45.1 q)
      rw [e, numS_eq s.data.toList false s.data.toList (by rw [hh]; simpa using h) (by rw [if_neg (by simp)])]
      refine Ev.step (fun k => rfl) ?_
      simp only [spec_l13Num.j0, Bool.false_eq_true, if_false]
      have := l13Num_j1 s false
      simpa only [Bool.false_eq_true] using this
  · simp only [if_neg h0]
    have hnil : s.data.toList = [] := List.eq_nil_of_length_eq_zero (by omega)
    rw [numS_eq s.data.toList false s.data.toList (by rw [hnil]; rfl) (by rw [if_neg (by simp)])]
    refine Ev.step (fun k => rfl) ?_
    simp only [spec_l13Num.j0, Bool.false_eq_true, if_false]
    have := l13Num_j1 s false
    simpa only [Bool.false_eq_true] using this
theorem spec_l1In_eq (a b c : Int) : spec_l1In.f a b c = some (decide (b ≤ a ∧ a ≤ c)) := by
  unfold spec_l1In.f
  split <;> simp <;> omega
theorem spec_ParseCost_ev (s : ByteArray) : Ev (fun k => spec_ParseCost.f k s) (pcost s.data.toList) := by
  simp only [spec_ParseCost.f]
  refine Ev.bind (spec_l13Num_ev s) ?_
  rw [← numS_cost, show s.toList = s.data.toList from ByteArray.toList_eq s]
  by_cases c : s.data.toList = [45]
  · simp only [if_pos c]
    exact Ev.now _
  · simp only [if_neg c]
    cases h : (numS s.data.toList).2 with
    | false =>
      simp only [Bool.false_eq_true, false_and, if_false]
      exact Ev.now _
    | true =>
      simp only [true_and, if_true, spec_l1In_eq, Option.bind_some]
      by_cases d : 0 ≤ (numS s.data.toList).1 ∧ (numS s.data.toList).1 ≤ 999999
      · rw [if_pos d, if_pos (by simpa using d)]
        exact Ev.now _
      · rw [if_neg d, if_neg (by simpa using d)]
        exact Ev.now _
theorem ext_data (s : ByteArray) (a b : Nat) : (s.extract a b).data.toList = (s.data.toList.drop a).take (b - a) := by
  rw [ByteArray.data_extract, Array.toList_extract]
theorem index_one (c : UInt8) : ∀ l : List UInt8, (Lib.index l [c] = -1 ∧ c ∉ l) ∨ ∃ p r, l = p ++ c :: r ∧ c ∉ p ∧ Lib.index l [c] = (p.length : Int)
  | [] => .inl ⟨rfl, List.not_mem_nil⟩
  | b :: l => by
    unfold Lib.index
    by_cases h : c = b
    · refine .inr ⟨[], l, by rw [h]; rfl, List.not_mem_nil, ?_⟩
      rw [if_pos (by simp [List.isPrefixOf, h])]
      rfl
    · have hp : ¬ ([c].isPrefixOf (b :: l)) = true := by simp [List.isPrefixOf, h]
      rw [if_neg hp]
      rcases index_one c l with ⟨e, hn⟩ | ⟨p, r, e, hn, hi⟩
      · refine .inl ⟨by rw [e]; rfl, fun hm => ?_⟩
        rcases List.mem_cons.1 hm with hm | hm
        · exact h hm
        · exact hn hm
      · refine .inr ⟨b :: p, r, by rw [e]; rfl, fun hm => ?_, ?_⟩
        · rcases List.mem_cons.1 hm with hm | hm
          · exact h hm
          · exact hn hm
        · rw [hi, if_neg (by rw [beq_iff_eq]; omega), List.length_cons]
          omega
theorem index_b (s : ByteArray) (c : UInt8) : Lib.indexB s ⟨#[c]⟩ = Lib.index s.data.toList [c] := rfl
theorem split_cut (c : UInt8) : ∀ (n : Nat) (s : ByteArray), s.size ≤ n → Lib.splitB ⟨#[c]⟩ 0 (Lib.countB s ⟨#[c]⟩) s = (cutL c s.data.toList).map ofL := by
  intro n
  induction n with
  | zero =>
    intro s hs
    have hn : s.data.toList = [] := List.eq_nil_of_length_eq_zero (by have : s.data.toList.length = s.size := by simp
                                                                      omega)
    have hm : Lib.indexB s ⟨#[c]⟩ = -1 := by rw [index_b, hn]; rfl
    rw [Lib.splitB_miss _ _ _ _ hm, hn]
    show [s] = [ofL []]
    rw [← ofL_self s, hn]
  | succ n ih =>
    intro s hs
    have hl : s.data.toList.length = s.size := by simp
    rcases index_one c s.data.toList with ⟨e, hn⟩ | ⟨p, r, e, hn, hi⟩
    · rw [Lib.splitB_miss _ _ _ _ (by rw [index_b, e]), cutL_alone hn]
      show [s] = [ofL s.data.toList]
      rw [ofL_self]
    · have hi' : Lib.indexB s ⟨#[c]⟩ = (p.length : Int) := by rw [index_b, hi]
      have hz : (⟨#[c]⟩ : ByteArray).size = 1 := rfl
      have hle : p.length + 1 ≤ s.size := by
        rw [← hl, e, List.length_append, List.length_cons]
        omega
      rw [Lib.countB_hit s ⟨#[c]⟩ p.length (by rw [hz]; omega) hi', Nat.add_comm 1, Lib.splitB_hit _ _ _ _ _ hi', hz, Nat.add_zero, ih _ (by simp only [ByteArray.size_extract]; omega)]
      have e1 : s.extract 0 p.length = ofL p := ba_ext (by rw [ext_data, List.drop_zero, e, ofL_toL]; simp)
      have e2 : (s.extract (p.length + 1) s.size).data.toList = r := by
        rw [ext_data, ← hl, e]
        have : List.drop (p.length + 1) (p ++ c :: r) = r := by
          rw [List.drop_append]
          simp
        rw [this]
        exact List.take_of_length_le (by simp only [List.length_append, List.length_cons]; omega)
      rw [e1, e2]
      have : cutL c s.data.toList = p :: cutL c r := by rw [e, cutL_sep hn]
      rw [this]
      rfl
theorem cutL_len (c : UInt8) : ∀ l, (cutL c l).length ≤ l.length + 1
  | [] => Nat.le_refl _
  | x :: r => by
    have ih := cutL_len c r
    unfold cutL
    split
    · simp only [List.length_cons]
      omega
    · split
      · simp only [List.length_cons, List.length_nil]
        omega
      · rename_i h t e
        rw [e] at ih
        simp only [List.length_cons] at ih ⊢
        omega
theorem cutL_piece (c : UInt8) : ∀ l, ∀ p ∈ cutL c l, p.length ≤ l.length
  | [], p, hp => by
    have : p = [] := by simpa [cutL] using hp
    rw [this]
    exact Nat.le_refl _
  | x :: r, p, hp => by
    have ih := cutL_piece c r
    unfold cutL at hp
    split at hp
    · rcases List.mem_cons.1 hp with rfl | hp
      · exact Nat.zero_le _
      · have := ih p hp
        simp only [List.length_cons]
        omega
    · split at hp
      · rename_i e
        exact absurd e (cutL_ne c r)
      · rename_i h t e
        rcases List.mem_cons.1 hp with rfl | hp
        · have := ih h (by rw [e]; exact List.mem_cons_self)
          simp only [List.length_cons]
          omega
        · have := ih p (by rw [e]; exact List.mem_cons_of_mem _ hp)
          simp only [List.length_cons]
          omega
/-- The texts between the signs, as strings. -/
def cutB (c : UInt8) (s : ByteArray) : List ByteArray := (cutL c s.data.toList).map ofL
theorem cutB_len (c : UInt8) (s : ByteArray) : (cutB c s).length ≤ s.size + 1 := by
  have := cutL_len c s.data.toList
  have hl : s.data.toList.length = s.size := by simp
  unfold cutB
  rw [List.length_map]
  omega
theorem cutB_piece {c : UInt8} {s p : ByteArray} (h : p ∈ cutB c s) : p.size ≤ s.size := by
  obtain ⟨q, hq, rfl⟩ := List.mem_map.1 h
  have := cutL_piece c _ q hq
  have hl : s.data.toList.length = s.size := by simp
  rw [ofL_size]
  omega
theorem strings_Split_eq {s : ByteArray} (c : UInt8) (hs : s.size < 4294967281) : strings_Split.f s ⟨#[c]⟩ = some (cutB c s) := by
  unfold strings_Split.f
  rw [if_pos ⟨hs, Nat.le_refl 1⟩, split_cut c _ s (Nat.le_refl _)]
  rfl
theorem l13Cut_l0 (s : ByteArray) (c : UInt8) (hs : s.size ≤ 8796093022200) : ∀ i, i ≤ s.size → ∀ (out : List ByteArray) (st : Nat), st ≤ i → c ∉ (s.data.toList.drop st).take (i - st) → out.length ≤ i → Ev (fun k => spec_l13Cut.l0 k s (c.toNat : Int) out (st : Int) (i : Int)) (out ++ (cutL c (s.data.toList.drop st)).map ofL) := by
  have hl : s.data.toList.length = s.size := by simp
  refine down s.size ?_ ?_
  · intro out st hst hno ho
    have e0 : (s.data.toList.drop st).take (s.size - st) = s.data.toList.drop st := List.take_of_length_le (by rw [List.length_drop]; omega)
    have e : s.extract st s.size = ofL (s.data.toList.drop st) := ba_ext (by rw [ext_data, ofL_toL, e0])
    rw [e0] at hno
    refine Ev.step (fun k => rfl) ?_
    simp only [spec_l13Cut.l0, Int.le_refl, if_true, if_pos (nnc st), if_pos (show (st : Int) ≤ (s.size : Int) by omega), if_pos (show out.length < 8796093022208 by omega), Int.toNat_natCast, e, w64n (show s.size < 9223372036854775807 by omega)]
    refine Ev.step (fun k => rfl) ?_
    simp only [spec_l13Cut.l0, if_neg (show ¬ ((s.size + 1 : Nat) : Int) ≤ (s.size : Int) by omega)]
    rw [cutL_alone hno]
    exact Ev.now _
  · intro i hi ih out st hst hno ho
    have hd : s.data.toList.drop st = (s.data.toList.drop st).take (i - st) ++ s[i] :: s.data.toList.drop (i + 1) := by
      have h1 := List.take_append_drop (i - st) (s.data.toList.drop st)
      rw [List.drop_drop, show st + (i - st) = i by omega] at h1
      have h2 : s.data.toList.drop i = s[i] :: s.data.toList.drop (i + 1) := List.drop_eq_getElem_cons (by simpa using hi)
      rw [h2] at h1
      exact h1.symm
    have e : s.extract st i = ofL ((s.data.toList.drop st).take (i - st)) := ba_ext (by rw [ext_data, ofL_toL])
    refine Ev.step (fun k => rfl) ?_
    simp only [spec_l13Cut.l0, if_pos (show (i : Int) ≤ (s.size : Int) by omega), if_neg (show ¬ (i : Int) = (s.size : Int) by omega), if_pos (nnc i), if_pos (ltc hi), if_pos (nnc st), if_pos (show (st : Int) ≤ (i : Int) by omega), if_pos (show out.length < 8796093022208 by omega), Int.toNat_natCast, e, bt_nat hi, w64n (show i < 9223372036854775807 by omega)]
    have hb : ((s[i].toNat : Int) = (c.toNat : Int)) ↔ s[i] = c := ⟨fun h => UInt8.toNat_inj.1 (by omega), fun h => by rw [h]⟩
    by_cases h : s[i] = c
    · simp only [if_pos (hb.2 h)]
      have := ih (out ++ [ofL ((s.data.toList.drop st).take (i - st))]) (i + 1) (Nat.le_refl _) (by simp) (by simp only [List.length_append, List.length_singleton]; omega)
      refine ev_to this ?_
      rw [hd, h, cutL_sep hno]
      have e3 : (List.take (i - st) (s.data.toList.drop st) ++ c :: s.data.toList.drop (i + 1)).take (i - st) = (s.data.toList.drop st).take (i - st) := by
        rw [← h, ← hd]
      rw [e3]
      simp
    · simp only [if_neg fun q => h (hb.1 q)]
      refine ih out st (by omega) ?_ (by omega)
      intro hm
      have e4 : (s.data.toList.drop st).take (i + 1 - st) = (s.data.toList.drop st).take (i - st) ++ [s[i]] := by
        rw [show i + 1 - st = (i - st) + 1 by omega, List.take_succ_eq_append_getElem (by rw [List.length_drop]; omega)]
        simp [show st + (i - st) = i by omega]
        rfl
      rw [e4, List.mem_append, List.mem_singleton] at hm
      rcases hm with hm | hm
      · exact hno hm
      · exact h hm.symm
theorem spec_l13Cut_ev {s : ByteArray} (c : UInt8) (hs : s.size ≤ 8796093022200) : Ev (fun k => spec_l13Cut.f k s (c.toNat : Int)) (cutB c s) := by
  have := l13Cut_l0 s c hs 0 (by omega) [] 0 (Nat.le_refl _) (by simp) (Nat.le_refl _)
  unfold cutB
  simpa only [spec_l13Cut.f, cast0, List.drop_zero, List.nil_append] using this
/-- What texts of costs say. -/
def pcs : List Int → List ByteArray → List Int × Bool
  | acc, [] => (acc, true)
  | acc, p :: r => if (pcost p.data.toList).2 = true then pcs (acc ++ [(pcost p.data.toList).1]) r else ([], false)
def pcosts (s : ByteArray) : List Int × Bool := if s.data.toList = [] then ([], true) else pcs [] (cutB 32 s)
theorem pcs_len : ∀ (ps : List ByteArray) (acc : List Int), (pcs acc ps).1.length ≤ acc.length + ps.length
  | [], acc => Nat.le_refl _
  | p :: r, acc => by
    unfold pcs
    split
    · have := pcs_len r (acc ++ [(pcost p.data.toList).1])
      simp only [List.length_append, List.length_cons, List.length_nil] at this ⊢
      omega
    · exact Nat.zero_le _
theorem pcosts_len (s : ByteArray) : (pcosts s).1.length ≤ s.size + 1 := by
  unfold pcosts
  split
  · exact Nat.zero_le _
  · have := pcs_len (cutB 32 s) []
    have := cutB_len 32 s
    simp only [List.length_nil] at *
    omega
theorem rdOfB {l : List ByteArray} {i : Nat} (h : i < l.length) : rdOf ByteArray.empty l (i : Int) = l[i] := by simp [rdOf, List.getD_eq_getElem?_getD, h]
theorem spec_pcs (t : List ByteArray) (ht : t.length ≤ 1000000000) : ∀ i, i ≤ t.length → ∀ acc : List Int, acc.length ≤ i → Ev (fun k => spec_ParseCosts.l0 k acc t (t.length : Int) (i : Int)) (pcs acc (t.drop i)) := by
  refine down t.length ?_ ?_
  · intro acc _
    refine Ev.step (fun k => rfl) ?_
    simp only [spec_ParseCosts.l0, if_neg (show ¬ (t.length : Int) < (t.length : Int) by omega), dropn, pcs]
    exact Ev.now _
  · intro i hi ih acc ha
    refine Ev.step (fun k => rfl) ?_
    simp only [spec_ParseCosts.l0, if_pos (ltc hi), if_pos (nnc i), rdOfB hi, dropc hi, pcs, w64n (show i < 9223372036854775807 by omega)]
    refine Ev.bind (spec_ParseCost_ev _) ?_
    cases h : (pcost t[i].data.toList).2 with
    | true =>
      simp only [if_true, if_pos (show acc.length < 17592186044416 by omega)]
      exact ih _ (by simp only [List.length_append, List.length_singleton]; omega)
    | false =>
      simp only [Bool.false_eq_true, if_false]
      exact Ev.now _
theorem impl_pcs (t : List ByteArray) (ht : t.length ≤ 1000000000) (hp : ∀ p ∈ t, p.size ≤ 140737488351232) : ∀ i, i ≤ t.length → ∀ acc : List Int, acc.length ≤ i → Ev (fun k => impl_ParseCosts.l0 k acc t (t.length : Int) (i : Int)) (pcs acc (t.drop i)) := by
  refine down t.length ?_ ?_
  · intro acc _
    refine Ev.step (fun k => rfl) ?_
    simp only [impl_ParseCosts.l0, if_neg (show ¬ (t.length : Int) < (t.length : Int) by omega), dropn, pcs]
    exact Ev.now _
  · intro i hi ih acc ha
    refine Ev.step (fun k => rfl) ?_
    simp only [impl_ParseCosts.l0, if_pos (ltc hi), if_pos (nnc i), rdOfB hi, dropc hi, pcs, w64n (show i < 9223372036854775807 by omega), impl_ParseCost_eq (hp _ (List.getElem_mem hi)), Option.bind_some]
    cases h : (pcost t[i].data.toList).2 with
    | true =>
      simp only [if_true, if_pos (show acc.length < 17592186044416 by omega)]
      exact ih _ (by simp only [List.length_append, List.length_singleton]; omega)
    | false =>
      simp only [Bool.false_eq_true, if_false]
      exact Ev.now _
theorem spec_ParseCosts_ev {s : ByteArray} (hs : s.size ≤ 999999999) : Ev (fun k => spec_ParseCosts.f k s) (pcosts s) := by
  have hc := cutB_len 32 s
  simp only [spec_ParseCosts.f, Option.bind_some, ba_toL, pcosts]
  split
  · exact Ev.now _
  · refine Ev.bind (spec_l13Cut_ev (32 : UInt8) (by omega)) ?_
    have := spec_pcs (cutB 32 s) (by omega) 0 (by omega) [] (Nat.le_refl _)
    simpa only [cast0, List.drop_zero] using this
theorem impl_ParseCosts_ev {s : ByteArray} (hs : s.size ≤ 999999999) : Ev (fun k => impl_ParseCosts.f k s) (pcosts s) := by
  have hc := cutB_len 32 s
  simp only [impl_ParseCosts.f, Option.bind_some, ba_toL, pcosts]
  split
  · exact Ev.now _
  · simp only [strings_Split_eq 32 (show s.size < 4294967281 by omega), Option.bind_some]
    have := impl_pcs (cutB 32 s) (by omega) (fun p hp => by have := cutB_piece hp; omega) 0 (by omega) [] (Nat.le_refl _)
    simpa only [cast0, List.drop_zero] using this
/-- The text of costs. -/
def fcosts (l : List Int) : List UInt8 := if l.all cv = true then joinL 32 (l.map fcost) else []
def fcs (l : List Int) : ByteArray := ofL (fcosts l)
theorem joinL_snoc (c : UInt8) (q : List UInt8) : ∀ (ps : List (List UInt8)), ps ≠ [] → joinL c (ps ++ [q]) = joinL c ps ++ c :: q
  | [], h => absurd rfl h
  | [p], _ => rfl
  | p :: r :: t, _ => by
    have ih := joinL_snoc c q (r :: t) (List.cons_ne_nil _ _)
    show p ++ c :: joinL c ((r :: t) ++ [q]) = (p ++ c :: joinL c (r :: t)) ++ c :: q
    rw [ih]
    simp
theorem joinL_len {c : UInt8} {n : Nat} : ∀ (ps : List (List UInt8)), (∀ p ∈ ps, p.length ≤ n) → (joinL c ps).length ≤ (n + 1) * ps.length
  | [], _ => Nat.zero_le _
  | [p], h => by
    have := h p List.mem_cons_self
    show p.length ≤ (n + 1) * 1
    omega
  | p :: q :: r, h => by
    have h1 := h p List.mem_cons_self
    have ih := joinL_len (c := c) (q :: r) (fun x hx => h x (List.mem_cons_of_mem _ hx))
    show (p ++ c :: joinL c (q :: r)).length ≤ (n + 1) * ((q :: r).length + 1)
    rw [List.length_append, List.length_cons, Nat.mul_add]
    omega
theorem fcosts_len (l : List Int) : (joinL 32 (l.map fcost)).length ≤ 7 * l.length := by
  have := joinL_len (c := 32) (n := 6) (l.map fcost) (fun p hp => by
    obtain ⟨a, _, rfl⟩ := List.mem_map.1 hp
    exact fcost_len a)
  rwa [List.length_map] at this
theorem take_all {l : List Int} {i : Nat} (hi : i < l.length) (h : (l.take i).all cv = true) (hc : cv l[i] = true) : (l.take (i + 1)).all cv = true := by
  rw [List.take_succ_eq_append_getElem hi, List.all_append, h]
  simp [hc]
theorem fcs_no {l : List Int} {i : Nat} (hi : i < l.length) (hc : cv l[i] = false) : fcs l = ofL [] := by
  unfold fcs fcosts
  rw [if_neg fun h => by
    have := List.all_eq_true.1 h l[i] (List.getElem_mem hi)
    rw [hc] at this
    cases this]
theorem impl_FormatCosts_ev (l : List Int) (hl : l.length ≤ 1000000000) : Ev (fun k => impl_FormatCosts.f k l) (fcs l) := by
  have h := down l.length (P := fun i => (l.take i).all cv = true → Ev (fun k => impl_FormatCosts.l0 k ((l.take i).map fc) l (l.length : Int) (i : Int)) (fcs l)) ?_ ?_ 0 (by omega) (by simp)
  · simpa only [impl_FormatCosts.f, List.take_zero, List.map_nil, cast0] using h
  · intro ha
    refine Ev.step (fun k => rfl) ?_
    rw [List.take_length] at ha ⊢
    have e : ((l.map fc).map (·.data.toList)) = l.map fcost := by
      rw [List.map_map]
      rfl
    have e2 : (⟨#[32]⟩ : ByteArray).data.toList = [32] := rfl
    have hlen := fcosts_len l
    simp only [impl_FormatCosts.l0, if_neg (show ¬ (l.length : Int) < (l.length : Int) by omega), strings_Join.f, e, e2, joinL_lib, List.length_map]
    rw [if_pos ⟨by omega, by omega⟩]
    refine ev_to (Ev.now _) ?_
    unfold fcs fcosts
    rw [if_pos ha]
    rfl
  · intro i hi ih ha
    refine Ev.step (fun k => rfl) ?_
    simp only [impl_FormatCosts.l0, if_pos (ltc hi), if_pos (nnc i), rd_nat hi, impl_CostValid_eq, impl_FormatCost_eq, Option.bind_some, w64n (show i < 9223372036854775807 by omega)]
    cases hc : cv l[i] with
    | false =>
      simp only [Bool.false_eq_true, if_false]
      exact ev_to (Ev.now _) (fcs_no hi hc).symm
    | true =>
      have ih := ih (take_all hi ha hc)
      rw [List.take_succ_eq_append_getElem hi, List.map_append, List.map_cons, List.map_nil] at ih
      simp only [if_true, List.length_map, List.length_take, if_pos (show min i l.length < 8796093022208 by omega)]
      exact ih
theorem dig_not {c : UInt8} (n : Nat) (hn : n < 48) (h : isd c) : ¬ c = UInt8.ofNat n := fun e => by
  unfold isd at h
  have : (UInt8.ofNat n).toNat = n % 256 := UInt8.toNat_ofNat'
  rw [e] at h
  omega
theorem fcost_no (a : Int) {c : UInt8} (h1 : ¬ isd c) (h2 : ¬ c = 45) : c ∉ fcost a := by
  intro h
  unfold fcost at h
  split at h
  · split at h
    · exact h2 (List.mem_singleton.1 h)
    · exact h1 (dec_digs _ c h)
  · cases h
theorem no32 (a : Int) : (32 : UInt8) ∉ fcost a := fcost_no a (by unfold isd; decide) (by decide)
theorem no47 (a : Int) : (47 : UInt8) ∉ fcost a := fcost_no a (by unfold isd; decide) (by decide)
theorem joinL_no {c x : UInt8} (hx : ¬ c = x) : ∀ (ps : List (List UInt8)), (∀ p ∈ ps, c ∉ p) → c ∉ joinL x ps
  | [], _ => List.not_mem_nil
  | [p], h => h p List.mem_cons_self
  | p :: q :: r, h => by
    intro hm
    have hm : c ∈ p ++ x :: joinL x (q :: r) := hm
    rcases List.mem_append.1 hm with hm | hm
    · exact h p List.mem_cons_self hm
    · rcases List.mem_cons.1 hm with hm | hm
      · exact hx hm
      · exact joinL_no hx (q :: r) (fun y hy => h y (List.mem_cons_of_mem _ hy)) hm
theorem fcosts_no47 (l : List Int) : (47 : UInt8) ∉ fcosts l := by
  unfold fcosts
  split
  · refine joinL_no (by decide) _ fun p hp => ?_
    obtain ⟨a, _, rfl⟩ := List.mem_map.1 hp
    exact no47 a
  · exact List.not_mem_nil
theorem fcost_ne {a : Int} (h : cv a = true) : fcost a ≠ [] := by
  have hc := cv_iff.1 h
  unfold fcost
  rw [if_pos hc]
  split
  · exact List.cons_ne_nil _ _
  · exact dec_ne _
theorem joinL_ne {c : UInt8} : ∀ {ps : List (List UInt8)}, ps ≠ [] → (∀ p ∈ ps, p ≠ []) → joinL c ps ≠ []
  | [], h, _ => absurd rfl h
  | [p], _, h => h p List.mem_cons_self
  | p :: q :: r, _, h => by
    show p ++ c :: _ ≠ []
    simp
/-- What is said of pieces, when all go through. -/
theorem pcs_all : ∀ (ps : List ByteArray) (acc v : List Int), pcs acc ps = (v, true) → ∃ r : List Int, v = acc ++ r ∧ r.all cv = true ∧ r.map fcost = ps.map (·.data.toList)
  | [], acc, v, h => ⟨[], by rw [List.append_nil]; exact (congrArg Prod.fst h).symm, rfl, rfl⟩
  | p :: ps, acc, v, h => by
    unfold pcs at h
    split at h
    · rename_i hp
      obtain ⟨r, hv, ha, hm⟩ := pcs_all ps _ v h
      obtain ⟨a, e⟩ : ∃ a, pcost p.data.toList = (a, true) := ⟨_, Prod.ext rfl hp⟩
      obtain ⟨h0, h1, hf⟩ := pcost_yes e
      rw [e] at hv
      refine ⟨a :: r, by rw [hv]; simp, ?_, ?_⟩
      · rw [List.all_cons, ha, show cv a = true from cv_iff.2 ⟨h0, h1⟩]
        rfl
      · rw [List.map_cons, List.map_cons, hm, hf]
    · cases h
theorem pcs_map : ∀ (r acc : List Int), r.all cv = true → pcs acc (r.map fun a => ofL (fcost a)) = (acc ++ r, true)
  | [], acc, _ => by rw [List.append_nil]; rfl
  | a :: r, acc, h => by
    rw [List.all_cons, Bool.and_eq_true] at h
    have hc := cv_iff.1 h.1
    have e : pcost (ofL (fcost a)).data.toList = (a, true) := pcost_f hc.1 hc.2
    rw [List.map_cons]
    unfold pcs
    rw [e, if_pos rfl, pcs_map r _ h.2]
    simp
/-- Texts that go through are the texts of what they say. -/
theorem pcosts_yes {p : ByteArray} {v : List Int} (h : pcosts p = (v, true)) : v.all cv = true ∧ fcosts v = p.data.toList := by
  unfold pcosts at h
  split at h
  · rename_i e
    have hv : [] = v := congrArg Prod.fst h
    subst hv
    rw [e]
    exact ⟨rfl, rfl⟩
  · obtain ⟨r, hv, ha, hm⟩ := pcs_all _ _ _ h
    rw [List.nil_append] at hv
    subst hv
    refine ⟨ha, ?_⟩
    unfold fcosts
    rw [if_pos ha, hm]
    unfold cutB
    rw [List.map_map]
    show joinL 32 (List.map (fun x => x) _) = _
    rw [List.map_id', join_cutL]
/-- .. and back. -/
theorem pcosts_f {v : List Int} (h : v.all cv = true) : pcosts (ofL (fcosts v)) = (v, true) := by
  have e : fcosts v = joinL 32 (v.map fcost) := by
    unfold fcosts
    rw [if_pos h]
  unfold pcosts
  rw [ofL_toL]
  by_cases h0 : v = []
  · subst h0
    rfl
  · have hne : v.map fcost ≠ [] := fun q => h0 (List.map_eq_nil_iff.1 q)
    have hn : fcosts v ≠ [] := by
      rw [e]
      refine joinL_ne hne fun p hp => ?_
      obtain ⟨a, ha, rfl⟩ := List.mem_map.1 hp
      exact fcost_ne (List.all_eq_true.1 h a ha)
    have hno : ∀ p ∈ v.map fcost, (32 : UInt8) ∉ p := fun p hp => by
      obtain ⟨a, _, rfl⟩ := List.mem_map.1 hp
      exact no32 a
    rw [if_neg hn]
    have e2 : cutB 32 (ofL (fcosts v)) = v.map fun a => ofL (fcost a) := by
      unfold cutB
      rw [ofL_toL, e, cutL_join hne hno, List.map_map]
      rfl
    rw [e2, pcs_map v [] h]
    rfl
/-- The sum of two costs, at most 1000000. -/
def addc (s a : Int) : Int := min (s + a) 1000000
theorem addc_bd {s a : Int} (h0 : 0 ≤ s) (h1 : 0 ≤ a) : 0 ≤ addc s a ∧ addc s a ≤ 1000000 := by unfold addc; omega
/-- A matrix: 1 to 4 rows, as many costs in each. -/
def mv (n : Int) (l : List Int) : Bool := decide (1 ≤ n ∧ n ≤ 4 ∧ (l.length : Int) = n * n) && l.all cv
theorem mv_iff {n : Int} {l : List Int} : mv n l = true ↔ (1 ≤ n ∧ n ≤ 4 ∧ (l.length : Int) = n * n) ∧ l.all cv = true := by simp [mv]
theorem sq_le {n : Int} (h1 : 1 ≤ n) (h2 : n ≤ 4) : 1 ≤ n * n ∧ n * n ≤ 16 := by
  obtain h | h | h | h : n = 1 ∨ n = 2 ∨ n = 3 ∨ n = 4 := by omega
  all_goals subst h; omega
/-- The cost in row i, column j. -/
def ent (n : Nat) (l : List Int) (i j : Nat) : Int := l.getD (i * n + j) 0
theorem rd_ent (n : Nat) (l : List Int) (i j : Nat) : rd l ((i * n + j : Nat) : Int) = ent n l i j := by
  show l.getD ((i * n + j : Nat) : Int).toNat 0 = _
  rw [Int.toNat_natCast]
  rfl
theorem idx_lt {n i j : Nat} (hi : i < n) (hj : j < n) : i * n + j < n * n := by
  have := Nat.mul_le_mul_right n (show i + 1 ≤ n from hi)
  rw [Nat.add_mul] at this
  omega
theorem sq16 {n : Nat} (h : n ≤ 4) : n * n ≤ 16 := Nat.mul_le_mul h h
theorem idx_wrap {n i j : Nat} (hn : n ≤ 4) (hi : i < n) (hj : j < n) : wrap64 ((wrap64 ((i : Int) * (n : Int))) + (j : Int)) = ((i * n + j : Nat) : Int) := by
  have h1 := idx_lt hi hj
  have h2 := sq16 hn
  have e : ((i * n + j : Nat) : Int) = (i : Int) * (n : Int) + (j : Int) := by rw [Int.natCast_add, Int.natCast_mul]
  have e2 : ((i * n : Nat) : Int) = (i : Int) * (n : Int) := Int.natCast_mul _ _
  rw [w64 (x := (i : Int) * (n : Int)) (by omega) (by omega), w64 (by omega) (by omega), e]
theorem div_idx {n i k : Nat} (hk : k < n) : (i * n + k) / n = i ∧ (i * n + k) % n = k := by
  constructor
  · rw [Nat.mul_comm, Nat.mul_add_div (by omega), Nat.div_eq_of_lt hk]; omega
  · rw [Nat.mul_comm, Nat.mul_add_mod, Nat.mod_eq_of_lt hk]
/-- The cells of a matrix, of what a function tells for each place. -/
def cells (n : Nat) (f : Nat → Nat → Int) : List Int := (List.range (n * n)).map fun t => f (t / n) (t % n)
/-- The first so many of them. -/
def cellsTo (n : Nat) (f : Nat → Nat → Int) (m : Nat) : List Int := (List.range m).map fun t => f (t / n) (t % n)
theorem cellsTo_len (n : Nat) (f : Nat → Nat → Int) (m : Nat) : (cellsTo n f m).length = m := by simp [cellsTo]
theorem cells_len (n : Nat) (f : Nat → Nat → Int) : (cells n f).length = n * n := by simp [cells]
theorem cellsTo_next (n : Nat) (f : Nat → Nat → Int) (m : Nat) : cellsTo n f m ++ [f (m / n) (m % n)] = cellsTo n f (m + 1) := by simp [cellsTo, List.range_succ]
theorem ent_cells {n : Nat} (f : Nat → Nat → Int) {i j : Nat} (hi : i < n) (hj : j < n) : ent n (cells n f) i j = f i j := by
  have h := idx_lt hi hj
  have hd := div_idx (i := i) hj
  rw [ent, cells, List.getD_eq_getElem?_getD, List.getElem?_map, List.getElem?_range h]
  simp [hd.1, hd.2]
theorem cells_ent {n : Nat} {l : List Int} (h : l.length = n * n) : cells n (ent n l) = l := by
  apply List.ext_getElem
  · rw [cells_len, h]
  · intro i h1 h2
    have e : i / n * n + i % n = i := by rw [Nat.mul_comm]; exact Nat.div_add_mod i n
    simp [cells, ent, e, h2]
theorem cells_congr {n : Nat} {f g : Nat → Nat → Int} (h : ∀ i j, i < n → j < n → f i j = g i j) : cells n f = cells n g := by
  apply List.map_congr_left
  intro t ht
  have ht : t < n * n := by simpa using ht
  have hn : 0 < n := by
    cases n with
    | zero => simp at ht
    | succ n => omega
  exact h _ _ (Nat.div_lt_of_lt_mul ht) (Nat.mod_lt _ hn)
theorem cells_all {n : Nat} {f : Nat → Nat → Int} (h : ∀ i j, i < n → j < n → cv (f i j) = true) : (cells n f).all cv = true := by
  rw [List.all_eq_true]
  intro x hx
  obtain ⟨t, ht, rfl⟩ := List.mem_map.1 hx
  have ht : t < n * n := by simpa using ht
  have hn : 0 < n := by
    cases n with
    | zero => simp at ht
    | succ n => omega
  exact h _ _ (Nat.div_lt_of_lt_mul ht) (Nat.mod_lt _ hn)
theorem mv_cells {n : Nat} (h0 : 1 ≤ n) (h1 : n ≤ 4) {f : Nat → Nat → Int} (h : ∀ i j, i < n → j < n → cv (f i j) = true) : mv (n : Int) (cells n f) = true := by
  rw [mv_iff]
  refine ⟨⟨by omega, by omega, ?_⟩, cells_all h⟩
  rw [cells_len, Int.natCast_mul]
theorem mv_nat {n : Int} {l : List Int} (h : mv n l = true) : ∃ m : Nat, n = (m : Int) ∧ 1 ≤ m ∧ m ≤ 4 ∧ l.length = m * m ∧ ∀ x ∈ l, cv x = true := by
  rw [mv_iff] at h
  obtain ⟨m, rfl⟩ := Int.eq_ofNat_of_zero_le (show 0 ≤ n by omega)
  have e := Int.natCast_mul m m
  exact ⟨m, rfl, by omega, by omega, by omega, by simpa using h.2⟩
theorem cv_ent {n : Nat} {l : List Int} (hl : l.length = n * n) (h : ∀ x ∈ l, cv x = true) {i j : Nat} (hi : i < n) (hj : j < n) : cv (ent n l i j) = true := by
  have hb := idx_lt hi hj
  have : ent n l i j = l[i * n + j]'(by omega) := by
    rw [ent, List.getD_eq_getElem?_getD, List.getElem?_eq_getElem (by omega)]
    rfl
  rw [this]
  exact h _ (List.getElem_mem _)
theorem impl_IndexValid_ev (l : List Int) (hl : l.length < 9223372036854775807) : ∃ r, Ev (fun k => slices_IndexFunc_int_int_at_impl_MatrixValid_1.f k l) r ∧ decide (r ≥ 0) = !(l.all cv) := by
  have h := down l.length (P := fun i => ∃ r, Ev (fun k => slices_IndexFunc_int_int_at_impl_MatrixValid_1.l0 k l (l.length : Int) (i : Int)) r ∧ decide (r ≥ 0) = !((l.drop i).all cv)) ?_ ?_ 0 (by omega)
  · simpa only [slices_IndexFunc_int_int_at_impl_MatrixValid_1.f, List.drop_zero, cast0] using h
  · refine ⟨-1, Ev.step (fun k => rfl) ?_, by rw [dropn]; rfl⟩
    simp only [slices_IndexFunc_int_int_at_impl_MatrixValid_1.l0, if_neg (show ¬ (l.length : Int) < (l.length : Int) by omega)]
    exact Ev.now _
  · intro i hi ih
    obtain ⟨r, hr, hd⟩ := ih
    cases hc : cv l[i] with
    | true =>
      refine ⟨r, Ev.step (fun k => rfl) ?_, by rw [hd, dropc hi, List.all_cons, hc, Bool.true_and]⟩
      simp only [slices_IndexFunc_int_int_at_impl_MatrixValid_1.l0, if_pos (show (i : Int) < (l.length : Int) by omega), if_pos (show (0 : Int) ≤ (i : Int) by omega), rd_nat hi, impl_MatrixValid_1.f, impl_CostValid_eq, hc, Option.bind_some, Bool.not_true, Bool.false_eq_true, if_false, w64n (show i < 9223372036854775807 by omega)]
      exact hr
    | false =>
      refine ⟨(i : Int), Ev.step (fun k => rfl) ?_, by rw [dropc hi, List.all_cons, hc, decide_eq_true (by omega)]; rfl⟩
      simp only [slices_IndexFunc_int_int_at_impl_MatrixValid_1.l0, if_pos (show (i : Int) < (l.length : Int) by omega), if_pos (show (0 : Int) ≤ (i : Int) by omega), rd_nat hi, impl_MatrixValid_1.f, impl_CostValid_eq, hc, Option.bind_some, Bool.not_false, if_true]
      exact Ev.now _
theorem impl_MatrixValid_ev (n : Int) (l : List Int) (hl : l.length < 9223372036854775807) : Ev (fun k => impl_MatrixValid.f k n l) (mv n l) := by
  simp only [impl_MatrixValid.f]
  by_cases h1 : n < 1
  · simp only [if_pos h1]
    exact ev_to (Ev.now _) (by rw [mv, decide_eq_false (fun q => by omega)]; rfl)
  · simp only [if_neg h1]
    by_cases h4 : n > 4
    · simp only [if_pos h4]
      exact ev_to (Ev.now _) (by rw [mv, decide_eq_false (fun q => by omega)]; rfl)
    · have hs := sq_le (show 1 ≤ n by omega) (show n ≤ 4 by omega)
      simp only [if_neg h4, w64 (show -9223372036854775808 ≤ n * n by omega) (show n * n ≤ 9223372036854775807 by omega)]
      by_cases e : (l.length : Int) = n * n
      · obtain ⟨r, hr, hd⟩ := impl_IndexValid_ev l hl
        simp only [if_pos e, slices_ContainsFunc_int_int_at_impl_MatrixValid_1.f]
        refine Ev.bind (Ev.bind hr (Ev.now _)) ?_
        refine ev_to (Ev.now _) ?_
        rw [hd, Bool.not_not, mv, decide_eq_true ⟨by omega, by omega, e⟩, Bool.true_and]
      · simp only [if_neg e]
        exact ev_to (Ev.now _) (by rw [mv, decide_eq_false (fun q => e q.2.2)]; rfl)
/-- A matrix' row. -/
def mrow (n : Nat) (l : List Int) (i : Nat) : List Int := (l.take ((i + 1) * n)).drop (i * n)
/-- The texts of the first rows. -/
def mrows (n : Nat) (l : List Int) (i : Nat) : List (List UInt8) := (List.range i).map fun j => fcosts (mrow n l j)
def fmatrix (n : Int) (l : List Int) : List UInt8 := if mv n l = true then joinL 47 (mrows n.toNat l n.toNat) else []
theorem mrows_ne {n : Nat} {l : List Int} {i : Nat} (h : i ≠ 0) : mrows n l i ≠ [] := fun e => h (by
  have := congrArg List.length e
  simpa [mrows] using this)
theorem mrow_len (n : Nat) (l : List Int) (i : Nat) : (mrow n l i).length ≤ n := by
  unfold mrow
  rw [List.length_drop, List.length_take, Nat.add_mul]
  omega
theorem mrows_next (n : Nat) (l : List Int) (i : Nat) : mrows n l (i + 1) = mrows n l i ++ [fcosts (mrow n l i)] := by simp [mrows, List.range_succ]
theorem fcosts_short (l : List Int) : (fcosts l).length ≤ 7 * l.length := by
  unfold fcosts
  split
  · exact fcosts_len l
  · simp
theorem mrows_len {n : Nat} (h4 : n ≤ 4) (l : List Int) (i : Nat) (hi : i ≤ 4) : (joinL 47 (mrows n l i)).length ≤ 200 := by
  have h := joinL_len (c := 47) (n := 28) (mrows n l i) (fun p hp => by
    obtain ⟨j, _, rfl⟩ := List.mem_map.1 hp
    have h1 := fcosts_short (mrow n l j)
    have h2 := mrow_len n l j
    omega)
  have : (mrows n l i).length = i := by simp [mrows]
  rw [this] at h
  omega
theorem row_wrap {n i : Nat} (hn : n ≤ 4) (hi : i ≤ 4) : wrap64 ((i : Int) * (n : Int)) = ((i * n : Nat) : Int) := by
  have : i * n ≤ 4 * 4 := Nat.mul_le_mul hi hn
  have e : (i : Int) * (n : Int) = ((i * n : Nat) : Int) := by simp
  rw [e]
  unfold wrap64
  omega
theorem row_in {n i : Nat} {l : List Int} (h4 : n ≤ 4) (hl : l.length = n * n) (hi : i < n) : i * n ≤ (i + 1) * n ∧ (i + 1) * n ≤ l.length := by
  refine ⟨Nat.mul_le_mul_right _ (Nat.le_succ _), ?_⟩
  rw [hl]
  exact Nat.mul_le_mul_right _ hi
theorem impl_rows_ev {m : Nat} {l : List Int} (m1 : 1 ≤ m) (m4 : m ≤ 4) (hlen : l.length = m * m) : Ev (fun k => impl_rows_at_impl_FormatCosts.f k (m : Int) l) (ofL (joinL 47 (mrows m l m))) := by
  have h := down m (P := fun i => Ev (fun k => impl_rows_at_impl_FormatCosts.l0 k ((mrows m l i).map ofL) (m : Int) (i : Int) (m : Int) l) (ofL (joinL 47 (mrows m l m)))) ?_ ?_ 0 (by omega)
  · simpa only [impl_rows_at_impl_FormatCosts.f, cast0, mrows, List.range_zero, List.map_nil] using h
  · refine Ev.step (fun k => rfl) ?_
    have e : ((mrows m l m).map ofL).map (·.data.toList) = mrows m l m := by
      rw [List.map_map]
      exact List.map_id _
    have e2 : (⟨#[47]⟩ : ByteArray).data.toList = [47] := rfl
    have hsl := mrows_len m4 l m m4
    have hl : (mrows m l m).length = m := by simp [mrows]
    simp only [impl_rows_at_impl_FormatCosts.l0, if_neg (show ¬ (m : Int) < (m : Int) by omega), strings_Join.f, e, e2, joinL_lib, List.length_map, hl]
    rw [if_pos ⟨by omega, by omega⟩]
    exact Ev.now _
  · intro i hi ih
    refine Ev.step (fun k => rfl) ?_
    obtain ⟨r1, r2⟩ := row_in m4 hlen hi
    have hi4 : i + 1 ≤ 4 := Nat.le_trans hi m4
    have hi9 : i < 9223372036854775807 := by omega
    have hrl := mrow_len m l i
    have er : (l.take ((((i + 1) * m : Nat) : Int)).toNat).drop ((((i * m : Nat) : Int)).toNat) = mrow m l i := by
      rw [Int.toNat_natCast, Int.toNat_natCast]
      rfl
    have hl : (mrows m l i).length = i := by simp [mrows]
    have z5 : i < 8796093022208 := by omega
    have z4 : (mrow m l i).length ≤ 1000000000 := by omega
    have w1 : wrap64 ((i : Int) * (m : Int)) = ((i * m : Nat) : Int) := row_wrap m4 (Nat.le_of_succ_le hi4)
    have w2 : wrap64 ((i : Int) + 1) = ((i + 1 : Nat) : Int) := w64n hi9
    have w3 : wrap64 (((i + 1 : Nat) : Int) * (m : Int)) = (((i + 1) * m : Nat) : Int) := row_wrap (n := m) (i := i + 1) m4 hi4
    rw [mrows_next, List.map_append, List.map_cons, List.map_nil] at ih
    simp only [impl_rows_at_impl_FormatCosts.l0, if_pos (ltc hi), w2, w1, w3, er, if_pos (nnc (i * m)), if_pos (show ((i * m : Nat) : Int) ≤ (((i + 1) * m : Nat) : Int) from Int.ofNat_le.2 r1), if_pos (show (((i + 1) * m : Nat) : Int) ≤ (l.length : Int) from Int.ofNat_le.2 r2), List.length_map, hl, if_pos z5]
    exact Ev.bind (impl_FormatCosts_ev (mrow m l i) z4) ih
theorem impl_FormatMatrix_ev (n : Int) (l : List Int) (hl : l.length < 9223372036854775807) : Ev (fun k => impl_FormatMatrix.f k n l) (ofL (fmatrix n l)) := by
  simp only [impl_FormatMatrix.f]
  refine Ev.bind (impl_MatrixValid_ev n l hl) ?_
  cases hv : mv n l with
  | false =>
    simp only [Bool.false_eq_true, if_false]
    refine ev_to (Ev.now _) ?_
    unfold fmatrix
    rw [hv]
    rfl
  | true =>
    obtain ⟨m, rfl, m1, m4, hlen, hall⟩ := mv_nat hv
    simp only [if_true]
    refine ev_to (Ev.bind (impl_rows_ev m1 m4 hlen) (Ev.now _)) ?_
    unfold fmatrix
    rw [hv, Int.toNat_natCast]
    rfl
/-- What the rows' texts say, one behind another. -/
def cellsP (ps : List ByteArray) : List Int := (ps.map fun p => (pcosts p).1).flatten
/-- The reference's reading of a matrix. -/
def pmS (m : Int) : List Int → List ByteArray → Int × List Int × Bool
  | acc, [] => if mv m acc = true then (m, acc, true) else (0, [], false)
  | acc, p :: r => if (pcosts p).2 = true then (if ((pcosts p).1.length : Int) = m then pmS m (acc ++ (pcosts p).1) r else (0, [], false)) else (0, [], false)
def pmI (l : List UInt8) : Nat → List Int → List ByteArray → Int × List Int × Bool
  | n, acc, [] => if l = [] then (0, [], false) else if fmatrix (n : Int) acc = l then ((n : Int), acc, true) else (0, [], false)
  | n, acc, p :: r => if (pcosts p).2 = true then pmI l (n + 1) (acc ++ (pcosts p).1) r else (0, [], false)
theorem pmS_eq (m : Int) : ∀ (ps : List ByteArray) (acc : List Int), pmS m acc ps = if (∀ p ∈ ps, (pcosts p).2 = true ∧ ((pcosts p).1.length : Int) = m) ∧ mv m (acc ++ cellsP ps) = true then (m, acc ++ cellsP ps, true) else (0, [], false)
  | [], acc => by
    have e : acc ++ cellsP [] = acc := List.append_nil acc
    rw [e]
    unfold pmS
    by_cases h : mv m acc = true
    · rw [if_pos h, if_pos ⟨fun p hp => (List.not_mem_nil hp).elim, h⟩]
    · rw [if_neg h, if_neg fun q => h q.2]
  | p :: r, acc => by
    have e : acc ++ cellsP (p :: r) = (acc ++ (pcosts p).1) ++ cellsP r := by
      rw [List.append_assoc]
      rfl
    rw [e]
    unfold pmS
    by_cases h1 : (pcosts p).2 = true
    · rw [if_pos h1]
      by_cases h2 : ((pcosts p).1.length : Int) = m
      · rw [if_pos h2, pmS_eq m r]
        by_cases h3 : (∀ p ∈ r, (pcosts p).2 = true ∧ ((pcosts p).1.length : Int) = m) ∧ mv m (acc ++ (pcosts p).1 ++ cellsP r) = true
        · rw [if_pos h3, if_pos ⟨fun q hq => by
            rcases List.mem_cons.1 hq with rfl | hq
            · exact ⟨h1, h2⟩
            · exact h3.1 q hq, h3.2⟩]
        · rw [if_neg h3, if_neg fun q => h3 ⟨fun x hx => q.1 x (List.mem_cons_of_mem _ hx), q.2⟩]
      · rw [if_neg h2, if_neg fun q => h2 (q.1 p List.mem_cons_self).2]
    · rw [if_neg h1, if_neg fun q => h1 (q.1 p List.mem_cons_self).1]
theorem pmI_eq (l : List UInt8) : ∀ (ps : List ByteArray) (n : Nat) (acc : List Int), pmI l n acc ps = if (∀ p ∈ ps, (pcosts p).2 = true) ∧ l ≠ [] ∧ fmatrix ((n + ps.length : Nat) : Int) (acc ++ cellsP ps) = l then (((n + ps.length : Nat) : Int), acc ++ cellsP ps, true) else (0, [], false)
  | [], n, acc => by
    have e : acc ++ cellsP [] = acc := List.append_nil acc
    rw [e]
    unfold pmI
    by_cases h0 : l = []
    · rw [if_pos h0, if_neg fun q => q.2.1 h0]
    · rw [if_neg h0]
      by_cases h : fmatrix (n : Int) acc = l
      · rw [if_pos h, if_pos ⟨fun p hp => (List.not_mem_nil hp).elim, h0, h⟩]
        rfl
      · rw [if_neg h, if_neg fun q => h q.2.2]
  | p :: r, n, acc => by
    have e : acc ++ cellsP (p :: r) = (acc ++ (pcosts p).1) ++ cellsP r := by
      rw [List.append_assoc]
      rfl
    have en : n + (p :: r).length = n + 1 + r.length := by
      rw [List.length_cons]
      omega
    rw [e, en]
    unfold pmI
    by_cases h1 : (pcosts p).2 = true
    · rw [if_pos h1, pmI_eq l r]
      by_cases h3 : (∀ p ∈ r, (pcosts p).2 = true) ∧ l ≠ [] ∧ fmatrix ((n + 1 + r.length : Nat) : Int) (acc ++ (pcosts p).1 ++ cellsP r) = l
      · rw [if_pos h3, if_pos ⟨fun q hq => by
          rcases List.mem_cons.1 hq with rfl | hq
          · exact h1
          · exact h3.1 q hq, h3.2⟩]
      · rw [if_neg h3, if_neg fun q => h3 ⟨fun x hx => q.1 x (List.mem_cons_of_mem _ hx), q.2⟩]
    · rw [if_neg h1, if_neg fun q => h1 (q.1 p List.mem_cons_self)]
theorem flat_row {n : Nat} : ∀ (vs : List (List Int)) (i : Nat) (hi : i < vs.length), (∀ v ∈ vs, v.length = n) → mrow n vs.flatten i = vs[i]
  | [], i, hi, _ => by simp at hi
  | v :: vs, i, hi, h => by
    have hv : v.length = n := h v List.mem_cons_self
    unfold mrow
    rw [List.flatten_cons]
    cases i with
    | zero =>
      rw [Nat.zero_mul, Nat.zero_add, Nat.one_mul, List.drop_zero, ← hv, List.take_left]
      rfl
    | succ i =>
      have ih := flat_row vs i (by simpa using hi) (fun x hx => h x (List.mem_cons_of_mem _ hx))
      unfold mrow at ih
      have e1 : (i + 1 + 1) * n = v.length + (i + 1) * n := by rw [Nat.add_mul (i + 1) 1 n, hv]; omega
      have e2 : (i + 1) * n = v.length + i * n := by rw [Nat.add_mul i 1 n, hv]; omega
      rw [e1, List.take_length_add_append, e2, List.drop_length_add_append, ← e2, ih]
      rfl
theorem flat_len {n : Nat} : ∀ (vs : List (List Int)), (∀ v ∈ vs, v.length = n) → vs.flatten.length = vs.length * n
  | [], _ => by simp
  | v :: vs, h => by
    rw [List.flatten_cons, List.length_append, flat_len vs (fun x hx => h x (List.mem_cons_of_mem _ hx)), h v List.mem_cons_self, List.length_cons, Nat.add_mul]
    omega
theorem mrows_get {n : Nat} {l : List Int} {i j : Nat} (h : j < (mrows n l i).length) : (mrows n l i)[j] = fcosts (mrow n l j) := by simp [mrows]
/-- Both read alike. -/
theorem pm_same (s : ByteArray) : pmI s.data.toList 0 [] (cutB 47 s) = pmS ((cutB 47 s).length : Int) [] (cutB 47 s) := by
  rw [pmI_eq, pmS_eq, Nat.zero_add, List.nil_append]
  have hb : cutB 47 s = (cutL 47 s.data.toList).map ofL := rfl
  have hlen : (cutB 47 s).length = (cutL 47 s.data.toList).length := by rw [hb, List.length_map]
  by_cases hok : ∀ p ∈ cutB 47 s, (pcosts p).2 = true
  · by_cases hR : (∀ p ∈ cutB 47 s, (pcosts p).2 = true ∧ ((pcosts p).1.length : Int) = ((cutB 47 s).length : Int)) ∧ mv ((cutB 47 s).length : Int) (cellsP (cutB 47 s)) = true
    · rw [if_pos hR, if_pos]
      refine ⟨hok, ?_, ?_⟩
      · intro h0
        have h1 : cutB 47 s = [ofL []] := by
          rw [hb, h0]
          rfl
        have := (hR.1 (ofL []) (by rw [h1]; exact List.mem_cons_self)).2
        rw [h1] at this
        have h2 : (pcosts (ofL [])).1 = [] := rfl
        rw [h2] at this
        exact absurd this (by simp)
      · unfold fmatrix
        rw [if_pos hR.2, Int.toNat_natCast]
        have : mrows (cutB 47 s).length (cellsP (cutB 47 s)) (cutB 47 s).length = cutL 47 s.data.toList := by
          refine List.ext_getElem (by rw [← hlen]; simp [mrows]) fun i h1 h2 => ?_
          have hi : i < (cutB 47 s).length := by rw [hlen]; exact h2
          rw [mrows_get]
          have hl : ∀ v ∈ (cutB 47 s).map fun p => (pcosts p).1, v.length = (cutB 47 s).length := fun v hv => by
            obtain ⟨p, hp, rfl⟩ := List.mem_map.1 hv
            have := (hR.1 p hp).2
            omega
          unfold cellsP
          rw [flat_row _ i (by rw [List.length_map]; exact hi) hl, List.getElem_map]
          have hp := hR.1 _ (List.getElem_mem hi)
          have := (pcosts_yes (p := (cutB 47 s)[i]) (Prod.ext rfl hp.1)).2
          rw [this]
          have e3 : (cutB 47 s)[i] = ofL ((cutL 47 s.data.toList)[i]) := List.getElem_map _
          rw [e3]
          rfl
        rw [this, join_cutL]
    · rw [if_neg hR, if_neg]
      rintro ⟨_, h0, hf⟩
      apply hR
      have hm : mv ((cutB 47 s).length : Int) (cellsP (cutB 47 s)) = true := by
        cases hv : mv ((cutB 47 s).length : Int) (cellsP (cutB 47 s)) with
        | true => rfl
        | false =>
          unfold fmatrix at hf
          rw [hv] at hf
          exact absurd hf.symm h0
      refine ⟨fun p hp => ⟨hok p hp, ?_⟩, hm⟩
      obtain ⟨m, em, m1, m4, hl, hall⟩ := mv_nat hm
      have em : (cutB 47 s).length = m := by omega
      unfold fmatrix at hf
      rw [if_pos hm, Int.toNat_natCast, em] at hf
      have hne : mrows m (cellsP (cutB 47 s)) m ≠ [] := mrows_ne (by omega)
      have hc : cutL 47 s.data.toList = mrows m (cellsP (cutB 47 s)) m := by
        rw [← hf, cutL_join hne]
        intro q hq
        obtain ⟨j, _, rfl⟩ := List.mem_map.1 hq
        exact fcosts_no47 _
      rw [hb, hc] at hp
      obtain ⟨q, hq, rfl⟩ := List.mem_map.1 hp
      obtain ⟨j, hj, rfl⟩ := List.mem_map.1 hq
      have hjm : j < m := List.mem_range.1 hj
      obtain ⟨r1, r2⟩ := row_in m4 hl hjm
      have hrow : (mrow m (cellsP (cutB 47 s)) j).length = m := by
        unfold mrow
        rw [List.length_drop, List.length_take, Nat.min_eq_left r2, Nat.add_mul]
        omega
      have hcv : (mrow m (cellsP (cutB 47 s)) j).all cv = true := List.all_eq_true.2 fun x hx => hall x (List.mem_of_mem_take (List.mem_of_mem_drop hx))
      rw [pcosts_f hcv, em]
      show ((mrow m (cellsP (cutB 47 s)) j).length : Int) = _
      rw [hrow]
  · rw [if_neg fun q => hok q.1, if_neg fun q => hok fun p hp => (q.1 p hp).1]
theorem pmS_len (m : Int) (ps : List ByteArray) : (pmS m [] ps).2.1.length ≤ 16 := by
  rw [pmS_eq, List.nil_append]
  split
  · rename_i h
    obtain ⟨n, _, _, h4, hl, _⟩ := mv_nat h.2
    have := sq16 h4
    show (cellsP ps).length ≤ 16
    omega
  · exact Nat.zero_le _
/-- What a text says of a matrix. -/
def pmatrix (s : ByteArray) : Int × List Int × Bool := pmS ((cutB 47 s).length : Int) [] (cutB 47 s)
theorem spec_CostValid_eq (a : Int) : spec_CostValid.f a = some (cv a) := by
  unfold spec_CostValid.f
  rw [spec_l1In_eq]
  rfl
theorem spec_l1All_ev (l : List Int) (hl : l.length < 9223372036854775807) : Ev (fun k => spec_l1All.f k l) (l.all cv) := by
  have h := down l.length (P := fun i => Ev (fun k => spec_l1All.l0 k l (l.length : Int) (i : Int)) ((l.drop i).all cv)) ?_ ?_ 0 (by omega)
  · exact h
  · refine Ev.step (fun k => rfl) ?_
    simp only [spec_l1All.l0, if_neg (show ¬ (l.length : Int) < (l.length : Int) by omega), dropn, List.all_nil]
    exact Ev.now _
  · intro i hi ih
    refine Ev.step (fun k => rfl) ?_
    simp only [spec_l1All.l0, if_pos (show (i : Int) < (l.length : Int) by omega), if_pos (show (0 : Int) ≤ (i : Int) by omega), rd_nat hi, spec_CostValid_eq, Option.bind_some, dropc hi, List.all_cons, w64n (show i < 9223372036854775807 by omega)]
    cases cv l[i] with
    | false => simpa using Ev.now _
    | true => simpa using ih
theorem spec_MatrixValid_ev (n : Int) (l : List Int) (hl : l.length < 9223372036854775807) : Ev (fun k => spec_MatrixValid.f k n l) (mv n l) := by
  simp only [spec_MatrixValid.f, spec_l1In_eq, Option.bind_some]
  by_cases h : 1 ≤ n ∧ n ≤ 4
  · have hs := sq_le h.1 h.2
    simp only [h, and_self, decide_true, if_true, w64 (show -9223372036854775808 ≤ n * n by omega) (show n * n ≤ 9223372036854775807 by omega)]
    by_cases e : (l.length : Int) = n * n
    · simp only [if_pos e]
      refine Ev.bind (spec_l1All_ev l hl) ?_
      exact ev_to (Ev.now _) (by simp [mv, h, e])
    · simp only [if_neg e]
      exact ev_to (Ev.now _) (by simp [mv, e])
  · simp only [h, decide_false, Bool.false_eq_true, if_false]
    refine ev_to (Ev.now false) ?_
    rw [mv, decide_eq_false (fun q => h ⟨q.1, q.2.1⟩)]
    rfl
theorem spec_pm (t : List ByteArray) (ht : t.length ≤ 1048577) (hp : ∀ p ∈ t, p.size ≤ 1048576) : ∀ i, i ≤ t.length → ∀ (acc : List Int), acc.length ≤ i * 1048577 → Ev (fun k => spec_ParseMatrix.l0 k t t (t.length : Int) (i : Int) 0 acc) (pmS (t.length : Int) acc (t.drop i)) := by
  refine down t.length ?_ ?_
  · intro acc ha
    refine Ev.step (fun k => rfl) ?_
    simp only [spec_ParseMatrix.l0, if_neg (show ¬ (t.length : Int) < (t.length : Int) by omega), dropn, pmS]
    refine Ev.bind (spec_MatrixValid_ev _ acc (by omega)) ?_
    split
    · exact Ev.now _
    · exact Ev.now _
  · intro i hi ih acc ha
    have hq := hp _ (List.getElem_mem hi)
    have hn := pcosts_len t[i]
    refine Ev.step (fun k => rfl) ?_
    simp only [spec_ParseMatrix.l0, if_pos (ltc hi), if_pos (nnc i), rdOfB hi, dropc hi, pmS, w64n (show i < 9223372036854775807 by omega)]
    refine Ev.bind (spec_ParseCosts_ev (by omega)) ?_
    cases h : (pcosts t[i]).2 with
    | true =>
      simp only [if_true]
      by_cases h2 : ((pcosts t[i]).1.length : Int) = (t.length : Int)
      · simp only [if_pos h2, if_pos (show acc.length + (pcosts t[i]).1.length < 17592186044416 by omega)]
        exact ih _ (by simp only [List.length_append]; omega)
      · simp only [if_neg h2]
        exact Ev.now _
    | false =>
      simp only [Bool.false_eq_true, if_false]
      exact Ev.now _
theorem impl_pm (s : ByteArray) (t : List ByteArray) (ht : t.length ≤ 1048577) (hp : ∀ p ∈ t, p.size ≤ 1048576) : ∀ i, i ≤ t.length → ∀ (acc : List Int), acc.length ≤ i * 1048577 → Ev (fun k => impl_ParseMatrix.l0 k s t (t.length : Int) (i : Int) (i : Int) acc) (pmI s.data.toList i acc (t.drop i)) := by
  refine down t.length ?_ ?_
  · intro acc ha
    refine Ev.step (fun k => rfl) ?_
    simp only [impl_ParseMatrix.l0, if_neg (show ¬ (t.length : Int) < (t.length : Int) by omega), dropn, pmI, ba_toL]
    split
    · exact Ev.now _
    · refine Ev.bind (impl_FormatMatrix_ev _ acc (by omega)) ?_
      rw [ofL_toL]
      split
      · exact Ev.now _
      · exact Ev.now _
  · intro i hi ih acc ha
    have hq := hp _ (List.getElem_mem hi)
    have hn := pcosts_len t[i]
    refine Ev.step (fun k => rfl) ?_
    simp only [impl_ParseMatrix.l0, if_pos (ltc hi), if_pos (nnc i), rdOfB hi, dropc hi, pmI, w64n (show i < 9223372036854775807 by omega)]
    refine Ev.bind (impl_ParseCosts_ev (by omega)) ?_
    cases h : (pcosts t[i]).2 with
    | true =>
      simp only [if_true, if_pos (show acc.length + (pcosts t[i]).1.length < 17592186044416 by omega)]
      exact ih _ (by simp only [List.length_append]; omega)
    | false =>
      simp only [Bool.false_eq_true, if_false]
      exact Ev.now _
theorem spec_ParseMatrix_ev {s : ByteArray} (hs : s.size ≤ 1048576) : Ev (fun k => spec_ParseMatrix.f k s) (pmatrix s) := by
  have hc := cutB_len 47 s
  simp only [spec_ParseMatrix.f]
  refine Ev.bind (spec_l13Cut_ev (47 : UInt8) (by omega)) ?_
  have := spec_pm (cutB 47 s) (by omega) (fun p hp => by have := cutB_piece hp; omega) 0 (by omega) [] (Nat.zero_le _)
  unfold pmatrix
  simpa only [cast0, List.drop_zero] using this
theorem impl_ParseMatrix_ev {s : ByteArray} (hs : s.size ≤ 1048576) : Ev (fun k => impl_ParseMatrix.f k s) (pmatrix s) := by
  have hc := cutB_len 47 s
  simp only [impl_ParseMatrix.f, strings_Split_eq 47 (show s.size < 4294967281 by omega), Option.bind_some]
  have := impl_pm s (cutB 47 s) (by omega) (fun p hp => by have := cutB_piece hp; omega) 0 (by omega) [] (Nat.zero_le _)
  rw [List.drop_zero, pm_same] at this
  unfold pmatrix
  simpa only [cast0] using this
theorem one_byte {n : Nat} (h : n < 10) : strOfNums [(wrap64 (48 + (n : Int))) % 256] = ofL [UInt8.ofNat (48 + n)] := by
  have e : (wrap64 (48 + (n : Int))) % 256 = ((48 + n : Nat) : Int) := by
    unfold wrap64
    omega
  rw [e]
  show ofL [UInt8.ofNat (((48 + n : Nat) : Int)).toNat] = _
  rw [Int.toNat_natCast]
theorem l13Dec_l0 : ∀ (n : Nat) (out : List UInt8), out.length + n ≤ 1000000000000000000 → Ev (fun k => spec_l13Dec.l0 k (n : Int) (ofL out)) (ofL (Lib.decDigits n ++ out)) := by
  intro n
  induction n using Nat.strongRecOn with
  | _ n ih =>
    intro out ho
    refine Ev.step (fun k => rfl) ?_
    by_cases c : n < 10
    · simp only [spec_l13Dec.l0, if_neg (show ¬ (n : Int) > 9 by omega), Option.bind_some, one_byte c, ofL_size, ofL_app, List.length_singleton, if_pos (show 1 + out.length ≤ 9223372036854775807 by omega), dec_one c]
      exact Ev.now _
    · have e : Int.tmod (n : Int) 10 = ((n % 10 : Nat) : Int) := by rw [Int.tmod_eq_emod_of_nonneg (by omega)]; rfl
      have e2 : Int.tdiv (n : Int) 10 = ((n / 10 : Nat) : Int) := by rw [Int.tdiv_eq_ediv_of_nonneg (by omega)]; rfl
      simp only [spec_l13Dec.l0, if_pos (show (n : Int) > 9 by omega), Option.bind_some, e, e2, one_byte (Nat.mod_lt n (show 0 < 10 by omega)), ofL_size, ofL_app, List.length_singleton, if_pos (show 1 + out.length ≤ 9223372036854775807 by omega), w64 (show -9223372036854775808 ≤ ((n / 10 : Nat) : Int) by omega) (by omega), dec_step c, List.append_assoc]
      exact ih (n / 10) (by omega) _ (by simp only [List.length_append, List.length_singleton]; omega)
theorem spec_FormatCost_ev (a : Int) : Ev (fun k => spec_FormatCost.f k a) (fc a) := by
  simp only [spec_FormatCost.f, spec_CostValid_eq, Option.bind_some]
  by_cases h : 0 ≤ a ∧ a ≤ 1000000
  · simp only [show cv a = true from cv_iff.2 h, if_true]
    by_cases c : a = 1000000
    · simp only [if_pos c]
      refine ev_to (Ev.now _) ?_
      rw [c]
      rfl
    · simp only [if_neg c]
      obtain ⟨n, rfl⟩ : ∃ n : Nat, a = (n : Int) := ⟨a.toNat, by omega⟩
      have hd : Ev (fun k => spec_l13Dec.f k (n : Int)) (ofL (Lib.decDigits n ++ [])) := by
        refine Ev.step (fun k => rfl) ?_
        simp only [spec_l13Dec.f, if_neg (show ¬ (n : Int) < -9223372036854775807 by omega), if_neg (show ¬ (n : Int) < 0 by omega)]
        exact l13Dec_l0 n [] (by simp only [List.length_nil]; omega)
      refine ev_to (Ev.bind hd (Ev.now _)) ?_
      unfold fc fcost
      rw [if_pos h, if_neg c, List.append_nil, Int.toNat_natCast]
  · simp only [if_neg (show ¬ cv a = true from fun q => h (cv_iff.1 q))]
    refine ev_to (Ev.now _) ?_
    unfold fc fcost
    rw [if_neg h]
    rfl
theorem spec_FormatCosts_ev (l : List Int) (hl : l.length ≤ 1000000000000) : Ev (fun k => spec_FormatCosts.f k l) (fcs l) := by
  have h := down l.length (P := fun i => (l.take i).all cv = true → Ev (fun k => spec_FormatCosts.l0 k (ofL (joinL 32 ((l.take i).map fcost))) l (l.length : Int) (i : Int)) (fcs l)) ?_ ?_ 0 (by omega) (by simp)
  · simp only [List.take_zero, List.map_nil, joinL, cast0] at h
    exact h
  · intro ha
    refine Ev.step (fun k => rfl) ?_
    simp only [spec_FormatCosts.l0, if_neg (show ¬ (l.length : Int) < (l.length : Int) by omega)]
    refine ev_to (Ev.now _) ?_
    rw [List.take_length] at ha ⊢
    unfold fcs fcosts
    rw [if_pos ha]
  · intro i hi ih ha
    refine Ev.step (fun k => rfl) ?_
    simp only [spec_FormatCosts.l0, if_pos (ltc hi), if_pos (nnc i), rd_nat hi, spec_CostValid_eq, Option.bind_some, w64n (show i < 9223372036854775807 by omega)]
    cases hc : cv l[i] with
    | false =>
      simp only [Bool.false_eq_true, if_false]
      exact ev_to (Ev.now _) (fcs_no hi hc).symm
    | true =>
      simp only [if_true]
      have ih := ih (take_all hi ha hc)
      have hlen := fcosts_len (l.take i)
      have hfl := fcost_len l[i]
      have htl : (l.take i).length ≤ i := List.length_take_le _ _
      rw [List.take_succ_eq_append_getElem hi, List.map_append, List.map_cons, List.map_nil] at ih
      by_cases h0 : i = 0
      · subst h0
        simp only [show ¬ ((0 : Nat) : Int) > 0 by omega, if_false]
        refine Ev.bind (spec_FormatCost_ev _) ?_
        simp only [fc, ofL_size, ofL_app, List.take_zero, List.map_nil, joinL, List.length_nil, List.nil_append, if_pos (show 0 + (fcost l[0]).length ≤ 9223372036854775807 by omega)] at ih ⊢
        exact ih
      · simp only [if_pos (show (i : Int) > 0 by omega), ofL_size, if_pos (show (joinL 32 ((l.take i).map fcost)).length + 1 ≤ 9223372036854775807 by omega)]
        refine Ev.bind (spec_FormatCost_ev _) ?_
        have e : (⟨#[32]⟩ : ByteArray) = ofL [32] := rfl
        have hne : (l.take i).map fcost ≠ [] := fun h => by
          have := congrArg List.length h
          rw [List.length_map, List.length_take] at this
          simp only [List.length_nil] at this
          omega
        simp only [fc, e, ofL_size, ofL_app, List.length_append, List.length_singleton, if_pos (show (joinL 32 ((l.take i).map fcost)).length + 1 + (fcost l[i]).length ≤ 9223372036854775807 by omega)]
        rw [joinL_snoc 32 _ _ hne] at ih
        simpa only [List.append_assoc, List.singleton_append] using ih
theorem spec_FormatMatrix_ev (n : Int) (l : List Int) (hl : l.length < 9223372036854775807) : Ev (fun k => spec_FormatMatrix.f k n l) (ofL (fmatrix n l)) := by
  simp only [spec_FormatMatrix.f]
  cases hv : mv n l with
  | false =>
    refine Ev.step (fun k => rfl) ?_
    simp only [spec_FormatMatrix.l0]
    refine Ev.bind (spec_MatrixValid_ev n l hl) ?_
    simp only [hv, Bool.false_eq_true, if_false]
    refine Ev.step (fun k => rfl) ?_
    simp only [spec_FormatMatrix.j1, Bool.false_eq_true, if_false]
    refine ev_to (Ev.now _) ?_
    unfold fmatrix
    rw [hv]
    rfl
  | true =>
    obtain ⟨m, rfl, m1, m4, hlen, hall⟩ := mv_nat hv
    have h := down m (P := fun i => Ev (fun k => spec_FormatMatrix.l0 k (ofL (joinL 47 (mrows m l i))) (i : Int) (m : Int) l) (ofL (fmatrix (m : Int) l))) ?_ ?_ 0 (by omega)
    · simp only [cast0, mrows, List.range_zero, List.map_nil, joinL] at h
      exact h
    · refine Ev.step (fun k => rfl) ?_
      simp only [spec_FormatMatrix.l0]
      refine Ev.bind (spec_MatrixValid_ev _ l hl) ?_
      simp only [hv, if_true, show decide ((m : Int) < (m : Int)) = false from decide_eq_false (by omega)]
      refine Ev.step (fun k => rfl) ?_
      simp only [spec_FormatMatrix.j1, Bool.false_eq_true, if_false]
      refine ev_to (Ev.now _) ?_
      unfold fmatrix
      rw [hv, Int.toNat_natCast]
      rfl
    · intro i hi ih
      refine Ev.step (fun k => rfl) ?_
      simp only [spec_FormatMatrix.l0]
      refine Ev.bind (spec_MatrixValid_ev _ l hl) ?_
      simp only [hv, if_true, show decide ((i : Int) < (m : Int)) = true from decide_eq_true (by omega)]
      refine Ev.step (fun k => rfl) ?_
      obtain ⟨r1, r2⟩ := row_in m4 hlen hi
      have hi4 : i + 1 ≤ 4 := Nat.le_trans hi m4
      have hi9 : i < 9223372036854775807 := by omega
      have hrl := mrow_len m l i
      have hsl := mrows_len m4 l i (by omega)
      have hfl := fcosts_short (mrow m l i)
      have z1 : (joinL 47 (mrows m l i)).length + 1 ≤ 9223372036854775807 := by omega
      have z2 : (joinL 47 (mrows m l i)).length + 1 + (fcosts (mrow m l i)).length ≤ 9223372036854775807 := by omega
      have z3 : 0 + (fcosts (mrow m l i)).length ≤ 9223372036854775807 := by omega
      have z4 : (mrow m l i).length ≤ 1000000000000 := by omega
      have w1 : wrap64 ((i : Int) * (m : Int)) = ((i * m : Nat) : Int) := row_wrap m4 (Nat.le_of_succ_le hi4)
      have w2 : wrap64 ((i : Int) + 1) = ((i + 1 : Nat) : Int) := w64n hi9
      have w3 : wrap64 (((i + 1 : Nat) : Int) * (m : Int)) = (((i + 1) * m : Nat) : Int) := row_wrap (n := m) (i := i + 1) m4 hi4
      have er : (l.take ((((i + 1) * m : Nat) : Int)).toNat).drop ((((i * m : Nat) : Int)).toNat) = mrow m l i := by
        rw [Int.toNat_natCast, Int.toNat_natCast]
        rfl
      have e47 : (⟨#[47]⟩ : ByteArray) = ofL [47] := rfl
      have hf := spec_FormatCosts_ev (mrow m l i) z4
      rw [mrows_next] at ih
      simp only [spec_FormatMatrix.j1, if_true, w2, w1, w3, er, if_pos (nnc (i * m)), if_pos (show ((i * m : Nat) : Int) ≤ (((i + 1) * m : Nat) : Int) from Int.ofNat_le.2 r1), if_pos (show (((i + 1) * m : Nat) : Int) ≤ (l.length : Int) from Int.ofNat_le.2 r2)]
      by_cases h0 : i = 0
      · subst h0
        simp only [show ¬ ((0 : Nat) : Int) > 0 from by decide, if_false]
        refine Ev.bind hf ?_
        simp only [fcs, ofL_size, ofL_app, mrows, List.range_zero, List.map_nil, joinL, List.length_nil, List.nil_append, if_pos z3] at ih ⊢
        exact ih
      · have hne : mrows m l i ≠ [] := mrows_ne h0
        simp only [if_pos (show (i : Int) > 0 from Int.ofNat_lt.2 (Nat.pos_of_ne_zero h0)), ofL_size, if_pos z1]
        refine Ev.bind hf ?_
        simp only [fcs, e47, ofL_size, ofL_app, List.length_append, List.length_singleton, if_pos z2]
        rw [joinL_snoc 47 _ _ hne] at ih
        simpa only [List.append_assoc, List.singleton_append] using ih
/-- A reader's bytes: at most 2000 numbers between 0 and 255. -/
def Rdr (s : List Int) : Prop := s.length ≤ 2000 ∧ ∀ x ∈ s, 0 ≤ x ∧ x ≤ 255
theorem i64_wrap_nat (n : Nat) (h : n < 9223372036854775808) : IntKind.i64.wrap (n : Int) = (n : Int) := by
  simp [IntKind.wrap, IntKind.bits, IntKind.signed]; omega
theorem xor_i64_nat (a b : Nat) (ha : a < 9223372036854775808) (hb : b < 9223372036854775808) : bits .xor .i64 (a : Int) (b : Int) = ((a ^^^ b : Nat) : Int) := by
  have hx : a ^^^ b < 2 ^ 63 := Nat.xor_lt_two_pow (by omega) (by omega)
  have h1 : (BitVec.ofInt 64 (a : Int)).toNat = a := by
    rw [BitVec.ofInt_natCast, BitVec.toNat_ofNat]; exact Nat.mod_eq_of_lt (by omega)
  have h2 : (BitVec.ofInt 64 (b : Int)).toNat = b := by
    rw [BitVec.ofInt_natCast, BitVec.toNat_ofNat]; exact Nat.mod_eq_of_lt (by omega)
  show IntKind.i64.wrap ((BitVec.ofInt 64 (a : Int) ^^^ BitVec.ofInt 64 (b : Int)).toNat : Int) = _
  rw [BitVec.toNat_xor, h1, h2, i64_wrap_nat _ (by omega)]
theorem xor_nn {x y : Int} (h0 : 0 ≤ x) (h1 : x < 9223372036854775808) (h2 : 0 ≤ y) (h3 : y < 9223372036854775808) : 0 ≤ bits .xor .i64 x y := by
  obtain ⟨a, rfl⟩ := Int.eq_ofNat_of_zero_le h0
  obtain ⟨b, rfl⟩ := Int.eq_ofNat_of_zero_le h2
  rw [xor_i64_nat a b (by omega) (by omega)]
  omega
theorem tm_nn {x n : Int} (h : 0 ≤ x) : 0 ≤ Int.tmod x n := Int.tmod_nonneg _ h
theorem tm_lt {x n : Int} (h : 0 < n) : Int.tmod x n < n := Int.tmod_lt_of_pos _ h
theorem rd_bd {s : List Int} (hs : Rdr s) (i : Int) : 0 ≤ rd s i ∧ rd s i ≤ 255 := by
  unfold rd
  rw [List.getD_eq_getElem?_getD]
  by_cases h : i.toNat < s.length
  · rw [List.getElem?_eq_getElem h]
    exact hs.2 _ (List.getElem_mem h)
  · rw [List.getElem?_eq_none (by omega)]
    simp
theorem mix_bd {a b p q : Int} (ha : 0 ≤ a ∧ a ≤ 255) (hb : 0 ≤ b ∧ b ≤ 255) (hp : 0 ≤ p ∧ p ≤ 1000000) (hq : 0 ≤ q ∧ q ≤ 1000000) :
    0 ≤ wrap64 ((wrap64 ((wrap64 ((wrap64 ((wrap64 a) * 131)) + (wrap64 ((wrap64 b) * 1117)))) + (wrap64 (p * 29)))) + (wrap64 ((wrap64 q) * 53))) ∧ wrap64 ((wrap64 ((wrap64 ((wrap64 ((wrap64 a) * 131)) + (wrap64 ((wrap64 b) * 1117)))) + (wrap64 (p * 29)))) + (wrap64 ((wrap64 q) * 53))) ≤ 1000000000 := by
  rw [w64 (x := a) (by omega) (by omega), w64 (x := b) (by omega) (by omega), w64 (x := q) (by omega) (by omega), w64 (x := a * 131) (by omega) (by omega), w64 (x := b * 1117) (by omega) (by omega), w64 (x := p * 29) (by omega) (by omega), w64 (x := q * 53) (by omega) (by omega), w64 (x := a * 131 + b * 1117) (by omega) (by omega), w64 (x := a * 131 + b * 1117 + p * 29) (by omega) (by omega), w64 (by omega) (by omega)]
  omega
theorem mixed_bd {x n : Int} (h0 : 0 ≤ x) (h1 : x ≤ 1000000000) (hn : 0 < n) : 0 ≤ Int.tmod (bits .xor .i64 x (wrap64 (Int.tdiv x 64))) n ∧ Int.tmod (bits .xor .i64 x (wrap64 (Int.tdiv x 64))) n < n := by
  refine ⟨tm_nn (xor_nn h0 (by omega) ?_ ?_), tm_lt hn⟩
  all_goals rw [Int.tdiv_eq_ediv_of_nonneg h0, w64 (by omega) (by omega)]; omega
theorem spec_l13Rd_pick_ev {s : List Int} (hs : Rdr s) {p : Int} (hp : 0 ≤ p ∧ p ≤ 1000000) (n : Int) : ∃ v, Ev (fun k => spec_l13Rd_pick.f k s p n) (v, p + 1) ∧ 0 ≤ v ∧ (1 ≤ n → v < n) := by
  have e1 : wrap64 (p + 1) = p + 1 := w64 (by omega) (by omega)
  have e2 : wrap64 (p + 1 - 1) = p := by rw [w64 (by omega) (by omega)]; omega
  by_cases hn : n < 1
  · refine ⟨0, ?_, by omega, by omega⟩
    simp only [spec_l13Rd_pick.f, if_pos hn, e1]
    refine Ev.step (fun k => rfl) ?_
    simp only [spec_l13Rd_pick.j0, if_true]
    exact Ev.now _
  · by_cases hl : s.length = 0
    · refine ⟨0, ?_, by omega, by omega⟩
      simp only [spec_l13Rd_pick.f, if_neg hn, e1]
      refine Ev.step (fun k => rfl) ?_
      simp only [spec_l13Rd_pick.j0, hl]
      exact Ev.now _
    · have hlb : ((s.length : Int) == 0) = false := by rw [beq_eq_false_iff_ne]; omega
      have key : ∃ v, (∀ k, spec_l13Rd_pick.j0 (k + 1) n false s (p + 1) = some (v, p + 1)) ∧ 0 ≤ v ∧ v < n := by
        simp only [spec_l13Rd_pick.j0, Bool.false_eq_true, if_false, e2, if_neg (show ¬ n = 0 by omega), if_pos hp.1, if_neg (show ¬ (s.length : Int) = 0 by omega)]
        by_cases hlt : p < (s.length : Int)
        · have hb := rd_bd hs p
          simp only [if_pos hlt]
          exact ⟨_, fun k => rfl, tm_nn (by rw [w64 (by omega) (by omega)]; omega), tm_lt (by omega)⟩
        · have t1 : 0 ≤ Int.tmod p (s.length : Int) := tm_nn hp.1
          have t2 : Int.tmod p (s.length : Int) < (s.length : Int) := tm_lt (by omega)
          have e3 : wrap64 (wrap64 (p * 7) + 3) = p * 7 + 3 := by rw [w64 (x := p * 7) (by omega) (by omega), w64 (by omega) (by omega)]
          have t3 : 0 ≤ Int.tmod (p * 7 + 3) (s.length : Int) := tm_nn (by omega)
          have t4 : Int.tmod (p * 7 + 3) (s.length : Int) < (s.length : Int) := tm_lt (by omega)
          simp only [if_neg hlt, e3, if_pos t1, if_pos t2, if_pos t3, if_pos t4]
          have hq : 0 ≤ Int.tdiv p (s.length : Int) ∧ Int.tdiv p (s.length : Int) ≤ 1000000 := by
            rw [Int.tdiv_eq_ediv_of_nonneg hp.1]
            have a1 := Int.ediv_nonneg hp.1 (show (0 : Int) ≤ (s.length : Int) by omega)
            have a2 := Int.ediv_le_self (s.length : Int) hp.1
            omega
          have hm := mix_bd (rd_bd hs (Int.tmod p (s.length : Int))) (rd_bd hs (Int.tmod (p * 7 + 3) (s.length : Int))) hp hq
          have hf := mixed_bd hm.1 hm.2 (show 0 < n by omega)
          exact ⟨_, fun k => rfl, hf.1, hf.2⟩
      obtain ⟨v, hv, h0, h1⟩ := key
      refine ⟨v, ?_, h0, fun _ => h1⟩
      simp only [spec_l13Rd_pick.f, if_neg hn, e1, hlb]
      exact Ev.step hv (Ev.now _)
theorem rd_mem {l : List Int} {i : Int} (h0 : 0 ≤ i) (h1 : i < (l.length : Int)) : rd l i ∈ l := by
  obtain ⟨n, rfl⟩ := Int.eq_ofNat_of_zero_le h0
  rw [rd_nat (by omega)]
  exact List.getElem_mem _
theorem spec_l13Open_ev (l : List Int) (hl : ∀ x ∈ l, (Lit.int .u8 x).wf = true) : ∃ s, spec_l13Open.f l = some (s, 0) ∧ Rdr s := by
  have hb : ∀ x ∈ l, 0 ≤ x ∧ x ≤ 255 := fun x hx => wf8 (hl x hx)
  by_cases h : (l.length : Int) > 2000
  · exact ⟨l.take 2000, by simp only [spec_l13Open.f, if_pos h, if_pos (show (2000 : Int) ≤ (l.length : Int) by omega)], by simp; omega, fun x hx => hb x (List.mem_of_mem_take hx)⟩
  · exact ⟨l, by simp only [spec_l13Open.f, if_neg h], by omega, hb⟩
theorem spec_l13Rd_num_ev {s : List Int} (hs : Rdr s) {p : Int} (hp : 0 ≤ p ∧ p ≤ 1000000) (l : List Int) (hl : 0 < l.length) : ∃ v, Ev (fun k => spec_l13Rd_num.f k s p l) (v, p + 1) ∧ v ∈ l := by
  obtain ⟨v, hv, h0, h1⟩ := spec_l13Rd_pick_ev hs hp (l.length : Int)
  have h1 := h1 (by omega)
  refine ⟨rd l v, ?_, rd_mem h0 h1⟩
  simp only [spec_l13Rd_num.f]
  refine Ev.bind hv ?_
  simp only [if_pos h0, if_pos h1]
  exact Ev.now _
theorem tdiv_nat (t n : Nat) (h : t < 1000) : wrap64 (Int.tdiv (t : Int) (n : Int)) = ((t / n : Nat) : Int) := by
  have e : Int.tdiv (t : Int) (n : Int) = ((t / n : Nat) : Int) := rfl
  have h2 := Nat.div_le_self t n
  rw [e]
  generalize t / n = q at h2 ⊢
  exact w64 (by omega) (by omega)
theorem tmod_nat (t n : Nat) : Int.tmod (t : Int) (n : Int) = ((t % n : Nat) : Int) := rfl
theorem sq_wrap {n : Nat} (h : n ≤ 4) : wrap64 ((n : Int) * (n : Int)) = ((n * n : Nat) : Int) := by
  have := sq16 h
  have e : ((n * n : Nat) : Int) = (n : Int) * (n : Int) := Int.natCast_mul _ _
  rw [w64 (by omega) (by omega), e]
theorem div_lt {n t : Nat} (h : t < n * n) : 0 < n ∧ t / n < n ∧ t % n < n := by
  have hn : 0 < n := by
    cases n with
    | zero => simp at h
    | succ n => omega
  exact ⟨hn, Nat.div_lt_of_lt_mul h, Nat.mod_lt _ hn⟩
theorem divmod (t n : Nat) : t / n * n + t % n = t := by rw [Nat.mul_comm]; exact Nat.div_add_mod t n
theorem l2Draw_cv {s : List Int} (hs : Rdr s) {n : Nat} (h4 : n ≤ 4) {p : Int} (hp : 0 ≤ p ∧ p ≤ 900000) : ∃ l q, Ev (fun k => spec_l2Draw.f k s p (n : Int)) ((n : Int), l, q) ∧ l.length = n * n ∧ (∀ x ∈ l, cv x = true) ∧ p ≤ q ∧ q ≤ p + 16 := by
  have h16 := sq16 h4
  have h := down (n * n) (P := fun t => ∀ (l : List Int) (q : Int), l.length = t → (∀ x ∈ l, cv x = true) → q = p + t → ∃ r q', Ev (fun k => spec_l2Draw.l0 k ((n * n : Nat) : Int) (t : Int) s q (n : Int) l) ((n : Int), r, q') ∧ r.length = n * n ∧ (∀ x ∈ r, cv x = true) ∧ p ≤ q' ∧ q' ≤ p + 16) ?_ ?_ 0 (by omega) [] p rfl (fun _ h => (List.not_mem_nil h).elim) (by omega)
  · simpa only [spec_l2Draw.f, sq_wrap h4, cast0] using h
  · intro l q hl hv hq
    refine ⟨l, q, Ev.step (fun k => rfl) ?_, hl, hv, by omega, by omega⟩
    simp only [spec_l2Draw.l0, if_neg (show ¬ ((n * n : Nat) : Int) < ((n * n : Nat) : Int) by omega)]
    exact Ev.now _
  · intro t ht ih l q hl hc hq
    obtain ⟨v, hv, hm⟩ := spec_l13Rd_num_ev hs (p := q) (by omega) [1000000, 0, 1, 1000000, 2, 1, 0, 5, 700000] (by simp)
    have hvc : cv v = true := by
      rw [cv_iff]
      simp only [List.mem_cons, List.not_mem_nil, or_false] at hm
      omega
    obtain ⟨r, q', hr, h1, h2, h3⟩ := ih (l ++ [v]) (q + 1) (by simp; omega) (fun x hx => by
      rcases List.mem_append.1 hx with hx | hx
      · exact hc x hx
      · rw [List.mem_singleton.1 hx]
        exact hvc) (by omega)
    refine ⟨r, q', Ev.step (fun k => rfl) ?_, h1, h2, h3⟩
    simp only [spec_l2Draw.l0, if_pos (show (t : Int) < ((n * n : Nat) : Int) by omega)]
    refine Ev.bind hv ?_
    simp only [if_pos (show l.length < 17592186044416 by omega), w64n (show t < 9223372036854775807 by omega)]
    exact hr
theorem l2Bad_g {s : List Int} (hs : Rdr s) (n : Int) {l : List Int} (h1 : 1 ≤ l.length) (h20 : l.length ≤ 20) {p : Int} (hp : 0 ≤ p ∧ p ≤ 900000) : ∃ n' l' q, Ev (fun k => spec_l2Bad.f k s p n l) (n', l', q) ∧ 1 ≤ l'.length ∧ l'.length ≤ l.length + 1 ∧ p ≤ q ∧ q ≤ p + 2 := by
  obtain ⟨c, hc, c0, c1⟩ := spec_l13Rd_pick_ev hs (p := p) (by omega) 24
  by_cases e0 : c = 0
  · obtain ⟨v, hv, -⟩ := spec_l13Rd_num_ev hs (p := p + 1) (by omega) [0, 5, (-1), 1, 9223372036854775807] (by simp)
    refine ⟨v, l, p + 1 + 1, ?_, by omega, by omega, by omega, by omega⟩
    simp only [spec_l2Bad.f]
    refine Ev.bind hc ?_
    simp only [if_pos e0]
    exact Ev.bind hv (Ev.now _)
  · by_cases e1 : c = 1
    · refine ⟨n, l ++ [0], p + 1, ?_, by simp, by simp, by omega, by omega⟩
      simp only [spec_l2Bad.f]
      refine Ev.bind hc ?_
      simp only [if_neg e0, if_pos e1, Option.bind_some, List.nil_append, List.length_nil, Nat.zero_add, if_pos (show l.length < 17592186044416 by omega)]
      exact Ev.now _
    · by_cases e2 : c = 2
      · obtain ⟨v, hv, -⟩ := spec_l13Rd_num_ev hs (p := p + 1) (by omega) [(-1), 1000001] (by simp)
        refine ⟨n, [v] ++ l.drop 1, p + 1 + 1, ?_, by simp, by simp, by omega, by omega⟩
        simp only [spec_l2Bad.f]
        refine Ev.bind hc ?_
        simp only [if_neg e0, if_neg e1, if_pos e2]
        refine Ev.bind hv ?_
        simp only [Option.bind_some, if_pos (show (1 : Int) ≤ (l.length : Int) by omega), List.length_drop, List.length_cons, List.length_nil, if_pos (show 0 + 1 + (l.length - 1) < 17592186044416 by omega)]
        exact Ev.now _
      · refine ⟨n, l, p + 1, ?_, by omega, by omega, by omega, by omega⟩
        simp only [spec_l2Bad.f]
        refine Ev.bind hc ?_
        simp only [if_neg e0, if_neg e1, if_neg e2]
        exact Ev.now _
theorem l2Some_g {s : List Int} (hs : Rdr s) {p : Int} (hp : 0 ≤ p ∧ p ≤ 800000) : ∃ n l q, Ev (fun k => spec_l2Some.f k s p) (n, l, q) ∧ 1 ≤ l.length ∧ l.length ≤ 17 ∧ p ≤ q ∧ q ≤ p + 20 := by
  obtain ⟨c, hc, c0, c1⟩ := spec_l13Rd_pick_ev hs (p := p) (by omega) 4
  have c1 := c1 (by omega)
  obtain ⟨m, hm⟩ := Int.eq_ofNat_of_zero_le (show 0 ≤ 1 + c by omega)
  have hw : wrap64 (1 + c) = (m : Int) := by rw [w64 (by omega) (by omega)]; exact hm
  obtain ⟨l, q, hl, h1, hcv, h2, h3⟩ := l2Draw_cv hs (n := m) (by omega) (p := p + 1) (by omega)
  have hpos : 1 ≤ m * m := Nat.mul_pos (by omega) (by omega)
  have h16 := sq16 (n := m) (by omega)
  obtain ⟨n', l', q', hb, h0, h4, h5, h6⟩ := l2Bad_g hs (m : Int) (l := l) (by omega) (by omega) (p := q) (by omega)
  refine ⟨n', l', q', ?_, h0, by omega, by omega, by omega⟩
  simp only [spec_l2Some.f]
  refine Ev.bind hc ?_
  simp only [hw]
  exact Ev.bind hl (Ev.bind hb (Ev.now _))
theorem spec_l13Rd_of_mem {s : List Int} (hs : Rdr s) {p : Int} (hp : 0 ≤ p ∧ p ≤ 1000000) (l : List ByteArray) (hl : 0 < l.length) : ∃ v, Ev (fun k => spec_l13Rd_of.f k s p l) (v, p + 1) ∧ v ∈ l := by
  obtain ⟨v, hv, h0, h1⟩ := spec_l13Rd_pick_ev hs hp (l.length : Int)
  have h1 := h1 (by omega)
  obtain ⟨n, rfl⟩ := Int.eq_ofNat_of_zero_le h0
  have hn : n < l.length := by omega
  refine ⟨rdOf ByteArray.empty l (n : Int), ?_, ?_⟩
  · simp only [spec_l13Rd_of.f]
    refine Ev.bind hv ?_
    simp only [if_pos h0, if_pos h1]
    exact Ev.now _
  · have : rdOf ByteArray.empty l (n : Int) = l[n] := by simp [rdOf, List.getD_eq_getElem?_getD, hn]
    rw [this]
    exact List.getElem_mem hn
/-- The least of so many costs. -/
def dotTo (f : Nat → Int) (m : Nat) : Int := (List.range m).foldl (fun acc x => min acc (f x)) 1000000
theorem dotTo_next (f : Nat → Int) (m : Nat) : dotTo f (m + 1) = min (dotTo f m) (f m) := by simp [dotTo, List.range_succ]
theorem dotTo_zero (f : Nat → Int) : dotTo f 0 = 1000000 := rfl
theorem dotTo_bd {f : Nat → Int} : ∀ {m : Nat}, (∀ l, l < m → 0 ≤ f l) → 0 ≤ dotTo f m ∧ dotTo f m ≤ 1000000 := by
  intro m
  induction m with
  | zero => intro _; rw [dotTo_zero]; omega
  | succ m ih =>
    intro h
    have h1 := ih (fun l hl => h l (by omega))
    have h2 := h m (by omega)
    rw [dotTo_next]
    omega
def unitm (n : Nat) : List Int := cells n fun i j => if i = j then 0 else 1000000
def turnm (n : Nat) (a : List Int) : List Int := cells n fun i j => ent n a j i
def minm (n : Nat) (a b : List Int) : List Int := cells n fun i j => min (ent n a i j) (ent n b i j)
def mulm (n : Nat) (a b : List Int) : List Int := cells n fun i j => dotTo (fun l => addc (ent n a i l) (ent n b l j)) n
def two (n : Int) (a : List Int) (m : Int) (b : List Int) : Bool := mv n a && (mv m b && decide (n = m))
def unitR (n : Int) : Int × List Int × Bool := if 1 ≤ n ∧ n ≤ 4 then (n, unitm n.toNat, true) else (0, [], false)
def turnR (n : Int) (a : List Int) : Int × List Int × Bool := if mv n a then (n, turnm n.toNat a, true) else (0, [], false)
def minR (n : Int) (a : List Int) (m : Int) (b : List Int) : Int × List Int × Bool := if two n a m b then (n, minm n.toNat a b, true) else (0, [], false)
def mulR (n : Int) (a : List Int) (m : Int) (b : List Int) : Int × List Int × Bool := if two n a m b then (n, mulm n.toNat a b, true) else (0, [], false)
theorem two_iff {n m : Int} {a b : List Int} : two n a m b = true ↔ mv n a = true ∧ mv m b = true ∧ n = m := by simp [two]
theorem cv_bd {a : Int} (h : cv a = true) : 0 ≤ a ∧ a ≤ 1000000 := cv_iff.1 h
theorem cv_dot {n : Nat} {f : Nat → Int} (h : ∀ l, l < n → 0 ≤ f l) : cv (dotTo f n) = true := cv_iff.2 (dotTo_bd h)
theorem mv_mulm {n : Nat} (h1 : 1 ≤ n) (h4 : n ≤ 4) {a b : List Int} (hla : a.length = n * n) (hlb : b.length = n * n) (hca : ∀ x ∈ a, cv x = true) (hcb : ∀ x ∈ b, cv x = true) : mv (n : Int) (mulm n a b) = true :=
  mv_cells h1 h4 fun i j hi hj => cv_dot fun l hl => (addc_bd (cv_iff.1 (cv_ent hla hca hi hl)).1 (cv_iff.1 (cv_ent hlb hcb hl hj)).1).1
theorem mv_minm {n : Nat} (h1 : 1 ≤ n) (h4 : n ≤ 4) {a b : List Int} (hla : a.length = n * n) (hlb : b.length = n * n) (hca : ∀ x ∈ a, cv x = true) (hcb : ∀ x ∈ b, cv x = true) : mv (n : Int) (minm n a b) = true :=
  mv_cells h1 h4 fun i j hi hj => by
    have c1 := cv_iff.1 (cv_ent hla hca hi hj)
    have c2 := cv_iff.1 (cv_ent hlb hcb hi hj)
    rw [cv_iff]
    omega
theorem mv_turnm {n : Nat} (h1 : 1 ≤ n) (h4 : n ≤ 4) {a : List Int} (hla : a.length = n * n) (hca : ∀ x ∈ a, cv x = true) : mv (n : Int) (turnm n a) = true :=
  mv_cells h1 h4 fun i j hi hj => cv_ent hla hca hj hi
theorem mv_unitm {n : Nat} (h1 : 1 ≤ n) (h4 : n ≤ 4) : mv (n : Int) (unitm n) = true :=
  mv_cells h1 h4 fun i j hi hj => by
    by_cases e : i = j <;> simp [e, cv]
/-- A matrix of so many rows that is valid. -/
structure Ok (n : Nat) (l : List Int) : Prop where
  h1 : 1 ≤ n
  h4 : n ≤ 4
  len : l.length = n * n
  all : ∀ x ∈ l, cv x = true
theorem ok_of {n : Nat} {l : List Int} (h : mv (n : Int) l = true) : Ok n l := by
  obtain ⟨m, hm, h1, h4, hl, hc⟩ := mv_nat h
  obtain rfl : n = m := by omega
  exact ⟨h1, h4, hl, hc⟩
theorem Ok.mv {n : Nat} {l : List Int} (h : Ok n l) : mv (n : Int) l = true := by
  rw [mv_iff]
  refine ⟨⟨by have := h.h1; omega, by have := h.h4; omega, ?_⟩, by simpa using h.all⟩
  rw [h.len, Int.natCast_mul]
theorem Ok.two {n : Nat} {a b : List Int} (ha : Ok n a) (hb : Ok n b) : two (n : Int) a (n : Int) b = true := two_iff.2 ⟨ha.mv, hb.mv, rfl⟩
theorem Ok.mul {n : Nat} {a b : List Int} (ha : Ok n a) (hb : Ok n b) : Ok n (mulm n a b) := ok_of (mv_mulm ha.h1 ha.h4 ha.len hb.len ha.all hb.all)
theorem Ok.min {n : Nat} {a b : List Int} (ha : Ok n a) (hb : Ok n b) : Ok n (minm n a b) := ok_of (mv_minm ha.h1 ha.h4 ha.len hb.len ha.all hb.all)
theorem Ok.turn {n : Nat} {a : List Int} (ha : Ok n a) : Ok n (turnm n a) := ok_of (mv_turnm ha.h1 ha.h4 ha.len ha.all)
theorem Ok.unit {n : Nat} (h1 : 1 ≤ n) (h4 : n ≤ 4) : Ok n (unitm n) := ok_of (mv_unitm h1 h4)
theorem Ok.short {n : Nat} {a : List Int} (ha : Ok n a) : a.length ≤ 16 := by rw [ha.len]; exact sq16 ha.h4
theorem mulR_ok {n : Nat} {a b : List Int} (ha : Ok n a) (hb : Ok n b) : mulR (n : Int) a (n : Int) b = ((n : Int), mulm n a b, true) := by rw [mulR, if_pos (ha.two hb), Int.toNat_natCast]
theorem minR_ok {n : Nat} {a b : List Int} (ha : Ok n a) (hb : Ok n b) : minR (n : Int) a (n : Int) b = ((n : Int), minm n a b, true) := by rw [minR, if_pos (ha.two hb), Int.toNat_natCast]
theorem turnR_ok {n : Nat} {a : List Int} (ha : Ok n a) : turnR (n : Int) a = ((n : Int), turnm n a, true) := by rw [turnR, if_pos ha.mv, Int.toNat_natCast]
theorem unitR_ok {n : Nat} (h1 : 1 ≤ n) (h4 : n ≤ 4) : unitR (n : Int) = ((n : Int), unitm n, true) := by rw [unitR, if_pos (by omega), Int.toNat_natCast]
theorem mv_ok {n : Int} {l : List Int} (h : _root_.Go.Proofs.YtmnfbnpclanafaaDoor.Pure.mv n l = true) : ∃ m : Nat, n = (m : Int) ∧ Ok m l := by
  obtain ⟨m, hm, h1, h4, hl, hc⟩ := mv_nat h
  exact ⟨m, hm, h1, h4, hl, hc⟩
theorem le_dot {f : Nat → Int} {x : Int} : ∀ {m : Nat}, x ≤ dotTo f m ↔ x ≤ 1000000 ∧ ∀ l, l < m → x ≤ f l := by
  intro m
  induction m with
  | zero => simp [dotTo_zero]
  | succ m ih =>
    rw [dotTo_next]
    constructor
    · intro h
      have h1 := ih.1 (by omega)
      refine ⟨h1.1, fun l hl => ?_⟩
      by_cases e : l = m
      · subst e; omega
      · exact h1.2 l (by omega)
    · intro h
      have h1 := ih.2 ⟨h.1, fun l hl => h.2 l (by omega)⟩
      have h2 := h.2 m (by omega)
      omega
theorem eq_le {a b : Int} (h : ∀ x, x ≤ a ↔ x ≤ b) : a = b := by
  have h1 := (h a).1 (by omega)
  have h2 := (h b).2 (by omega)
  omega
theorem addc_comm (a b : Int) : addc a b = addc b a := by unfold addc; omega
theorem addc_assoc {a c : Int} (b : Int) (ha : 0 ≤ a) (hc : 0 ≤ c) : addc (addc a b) c = addc a (addc b c) := by unfold addc; omega
theorem addc_dot {f : Nat → Int} {c : Int} (hc : 0 ≤ c) : ∀ {m : Nat}, addc (dotTo f m) c = dotTo (fun l => addc (f l) c) m := by
  intro m
  induction m with
  | zero => rw [dotTo_zero, dotTo_zero]; unfold addc; omega
  | succ m ih => rw [dotTo_next, dotTo_next, ← ih]; unfold addc; omega
theorem dot_addc {f : Nat → Int} {c : Int} (hc : 0 ≤ c) {m : Nat} : addc c (dotTo f m) = dotTo (fun l => addc c (f l)) m := by
  rw [addc_comm, addc_dot hc]
  congr 1
  funext l
  exact addc_comm _ _
theorem dot_swap {f : Nat → Nat → Int} {m k : Nat} : dotTo (fun l => dotTo (fun j => f l j) k) m = dotTo (fun j => dotTo (fun l => f l j) m) k := by
  apply eq_le
  intro x
  simp only [le_dot]
  constructor
  · rintro ⟨h0, h⟩
    exact ⟨h0, fun j hj => ⟨h0, fun l hl => (h l hl).2 j hj⟩⟩
  · rintro ⟨h0, h⟩
    exact ⟨h0, fun j hj => ⟨h0, fun l hl => (h l hl).2 j hj⟩⟩
theorem dot_congr {f g : Nat → Int} {m : Nat} (h : ∀ l, l < m → f l = g l) : dotTo f m = dotTo g m := by
  apply eq_le
  intro x
  simp only [le_dot]
  constructor
  · rintro ⟨h0, h1⟩; exact ⟨h0, fun l hl => by rw [← h l hl]; exact h1 l hl⟩
  · rintro ⟨h0, h1⟩; exact ⟨h0, fun l hl => by rw [h l hl]; exact h1 l hl⟩
theorem ent_mul {n : Nat} (a b : List Int) {i j : Nat} (hi : i < n) (hj : j < n) : ent n (mulm n a b) i j = dotTo (fun l => addc (ent n a i l) (ent n b l j)) n := ent_cells _ hi hj
theorem ent_min {n : Nat} (a b : List Int) {i j : Nat} (hi : i < n) (hj : j < n) : ent n (minm n a b) i j = min (ent n a i j) (ent n b i j) := ent_cells _ hi hj
theorem ent_turn {n : Nat} (a : List Int) {i j : Nat} (hi : i < n) (hj : j < n) : ent n (turnm n a) i j = ent n a j i := ent_cells _ hi hj
theorem ent_unit {n : Nat} {i j : Nat} (hi : i < n) (hj : j < n) : ent n (unitm n) i j = if i = j then 0 else 1000000 := ent_cells _ hi hj
theorem Ok.ext {n : Nat} {a b : List Int} (ha : Ok n a) (hb : Ok n b) (h : ∀ i j, i < n → j < n → ent n a i j = ent n b i j) : a = b := by
  rw [← cells_ent ha.len, ← cells_ent hb.len]
  exact cells_congr h
theorem Ok.bd {n : Nat} {a : List Int} (ha : Ok n a) {i j : Nat} (hi : i < n) (hj : j < n) : 0 ≤ ent n a i j ∧ ent n a i j ≤ 1000000 := cv_iff.1 (cv_ent ha.len ha.all hi hj)
theorem mul_assoc {n : Nat} {a b c : List Int} (ha : Ok n a) (hb : Ok n b) (hc : Ok n c) : mulm n (mulm n a b) c = mulm n a (mulm n b c) := by
  refine ((ha.mul hb).mul hc).ext (ha.mul (hb.mul hc)) fun i j hi hj => ?_
  rw [ent_mul _ _ hi hj, ent_mul _ _ hi hj]
  have h1 : dotTo (fun l => addc (ent n (mulm n a b) i l) (ent n c l j)) n = dotTo (fun l => dotTo (fun k => addc (ent n a i k) (addc (ent n b k l) (ent n c l j))) n) n := by
    refine dot_congr fun l hl => ?_
    rw [ent_mul _ _ hi hl, addc_dot (hc.bd hl hj).1]
    refine dot_congr fun k hk => ?_
    exact addc_assoc _ (ha.bd hi hk).1 (hc.bd hl hj).1
  have h2 : dotTo (fun k => addc (ent n a i k) (ent n (mulm n b c) k j)) n = dotTo (fun k => dotTo (fun l => addc (ent n a i k) (addc (ent n b k l) (ent n c l j))) n) n := by
    refine dot_congr fun k hk => ?_
    rw [ent_mul _ _ hk hj, dot_addc (ha.bd hi hk).1]
  rw [h1, h2, dot_swap]
theorem mul_unit {n : Nat} {a : List Int} (ha : Ok n a) : mulm n a (unitm n) = a := by
  refine (ha.mul (Ok.unit ha.h1 ha.h4)).ext ha fun i j hi hj => ?_
  rw [ent_mul _ _ hi hj]
  apply eq_le
  intro x
  rw [le_dot]
  have hb := ha.bd hi hj
  constructor
  · rintro ⟨-, h⟩
    have := h j hj
    rw [ent_unit hj hj, if_pos rfl] at this
    unfold addc at this
    omega
  · intro h
    refine ⟨by omega, fun l hl => ?_⟩
    rw [ent_unit hl hj]
    have hc := ha.bd hi hl
    by_cases e : l = j
    · subst e; rw [if_pos rfl]; unfold addc; omega
    · rw [if_neg e]; unfold addc; omega
theorem unit_mul {n : Nat} {a : List Int} (ha : Ok n a) : mulm n (unitm n) a = a := by
  refine ((Ok.unit ha.h1 ha.h4).mul ha).ext ha fun i j hi hj => ?_
  rw [ent_mul _ _ hi hj]
  apply eq_le
  intro x
  rw [le_dot]
  have hb := ha.bd hi hj
  constructor
  · rintro ⟨-, h⟩
    have := h i hi
    rw [ent_unit hi hi, if_pos rfl] at this
    unfold addc at this
    omega
  · intro h
    refine ⟨by omega, fun l hl => ?_⟩
    rw [ent_unit hi hl]
    have hc := ha.bd hl hj
    by_cases e : i = l
    · subst e; rw [if_pos rfl]; unfold addc; omega
    · rw [if_neg e]; unfold addc; omega
theorem turn_mul {n : Nat} {a b : List Int} (ha : Ok n a) (hb : Ok n b) : mulm n (turnm n b) (turnm n a) = turnm n (mulm n a b) := by
  refine (hb.turn.mul ha.turn).ext (ha.mul hb).turn fun i j hi hj => ?_
  rw [ent_mul _ _ hi hj, ent_turn _ hi hj, ent_mul _ _ hj hi]
  refine dot_congr fun l hl => ?_
  rw [ent_turn _ hi hl, ent_turn _ hl hj, addc_comm]
theorem turn_turn {n : Nat} {a : List Int} (ha : Ok n a) : turnm n (turnm n a) = a := by
  refine ha.turn.turn.ext ha fun i j hi hj => ?_
  rw [ent_turn _ hi hj, ent_turn _ hj hi]
theorem addc_min (a b c : Int) : addc (min a b) c = min (addc a c) (addc b c) := by unfold addc; omega
theorem dot_min {f g : Nat → Int} {m : Nat} : dotTo (fun l => min (f l) (g l)) m = min (dotTo f m) (dotTo g m) := by
  apply eq_le
  intro x
  rw [le_dot]
  have h1 := @le_dot f x m
  have h2 := @le_dot g x m
  constructor
  · rintro ⟨h0, h⟩
    have a1 := h1.2 ⟨h0, fun l hl => by have := h l hl; omega⟩
    have a2 := h2.2 ⟨h0, fun l hl => by have := h l hl; omega⟩
    omega
  · intro h
    have a1 := h1.1 (by omega)
    have a2 := h2.1 (by omega)
    exact ⟨a1.1, fun l hl => by have := a1.2 l hl; have := a2.2 l hl; omega⟩
theorem min_mul {n : Nat} {a b c : List Int} (ha : Ok n a) (hb : Ok n b) (hc : Ok n c) : mulm n (minm n a b) c = minm n (mulm n a c) (mulm n b c) := by
  refine ((ha.min hb).mul hc).ext ((ha.mul hc).min (hb.mul hc)) fun i j hi hj => ?_
  rw [ent_mul _ _ hi hj, ent_min _ _ hi hj, ent_mul _ _ hi hj, ent_mul _ _ hi hj, ← dot_min]
  refine dot_congr fun l hl => ?_
  rw [ent_min _ _ hi hl, addc_min]
theorem mul_min {n : Nat} {a b c : List Int} (ha : Ok n a) (hb : Ok n b) (hc : Ok n c) : mulm n c (minm n a b) = minm n (mulm n c a) (mulm n c b) := by
  refine (hc.mul (ha.min hb)).ext ((hc.mul ha).min (hc.mul hb)) fun i j hi hj => ?_
  rw [ent_mul _ _ hi hj, ent_min _ _ hi hj, ent_mul _ _ hi hj, ent_mul _ _ hi hj, ← dot_min]
  refine dot_congr fun l hl => ?_
  rw [ent_min _ _ hl hj, addc_comm, addc_min, addc_comm, addc_comm _ (ent n c i l)]
theorem min_comm' {n : Nat} {a b : List Int} (ha : Ok n a) (hb : Ok n b) : minm n b a = minm n a b := by
  refine (hb.min ha).ext (ha.min hb) fun i j hi hj => ?_
  rw [ent_min _ _ hi hj, ent_min _ _ hi hj]
  omega
theorem min_assoc' {n : Nat} {a b c : List Int} (ha : Ok n a) (hb : Ok n b) (hc : Ok n c) : minm n (minm n a b) c = minm n a (minm n b c) := by
  refine ((ha.min hb).min hc).ext (ha.min (hb.min hc)) fun i j hi hj => ?_
  rw [ent_min _ _ hi hj, ent_min _ _ hi hj, ent_min _ _ hi hj, ent_min _ _ hi hj]
  omega
theorem min_self' {n : Nat} {a : List Int} (ha : Ok n a) : minm n a a = a := by
  refine (ha.min ha).ext ha fun i j hi hj => ?_
  rw [ent_min _ _ hi hj]
  omega
theorem laws_daSame_ev (a b : List Int) (ha : a.length < 9223372036854775807) : Ev (fun k => laws_daSame.f k a b) (decide (a = b)) := by
  have hm : mn (a.length : Int) (b.length : Int) = ((min a.length b.length : Nat) : Int) := by rw [mn_eq]; omega
  have h := down (min a.length b.length) (P := fun i => Ev (fun k => laws_daSame.l0 k a b ((min a.length b.length : Nat) : Int) (i : Int)) (decide (a.drop i = b.drop i))) ?_ ?_ 0 (by omega)
  · simpa only [laws_daSame.f, hm, List.drop_zero, cast0] using h
  · refine Ev.step (fun k => rfl) ?_
    simp only [laws_daSame.l0, if_neg (show ¬ ((min a.length b.length : Nat) : Int) < ((min a.length b.length : Nat) : Int) by omega)]
    refine ev_to (Ev.now _) ?_
    by_cases e : a.length = b.length
    · have e1 : min a.length b.length = a.length := by omega
      rw [e1, dropn, e, dropn]
      simp
    · rw [beq_eq_false_iff_ne.2 (by omega)]
      symm
      rw [decide_eq_false_iff_not]
      intro h
      have := congrArg List.length h
      simp at this
      omega
  · intro i hi ih
    have h1 : i < a.length := by omega
    have h2 : i < b.length := by omega
    refine Ev.step (fun k => rfl) ?_
    simp only [laws_daSame.l0, if_pos (show (i : Int) < ((min a.length b.length : Nat) : Int) by omega), if_pos (show (0 : Int) ≤ (i : Int) by omega), if_pos (show (i : Int) < (a.length : Int) by omega), if_pos (show (i : Int) < (b.length : Int) by omega), rd_nat h1, rd_nat h2, w64n (show i < 9223372036854775807 by omega)]
    by_cases e : a[i] = b[i]
    · simp only [if_pos e]
      exact ev_to ih (by rw [dropc h1, dropc h2]; simp only [List.cons.injEq, e, true_and])
    · simp only [if_neg e]
      exact ev_to (Ev.now false) (by rw [dropc h1, dropc h2]; simp only [List.cons.injEq, e, false_and, decide_false])
theorem laws_daMatrix_ev (n : Int) (a : List Int) (m : Int) (b : List Int) (ha : a.length < 9223372036854775807) : Ev (fun k => laws_daMatrix.f k n a m b) (decide (n = m ∧ a = b)) := by
  simp only [laws_daMatrix.f]
  by_cases e : n = m
  · simp only [if_pos e]
    refine Ev.bind (laws_daSame_ev a b ha) ?_
    exact ev_to (Ev.now _) (by simp [e])
  · simp only [if_neg e]
    exact ev_to (Ev.now _) (by simp [e])
theorem laws_daMatrix_self (n : Int) (a : List Int) (ha : a.length < 9223372036854775807) : Ev (fun k => laws_daMatrix.f k n a n a) true :=
  ev_to (laws_daMatrix_ev n a n a ha) (by simp)
theorem slices_Equal_ev (a b : List Int) (ha : a.length < 9223372036854775807) : Ev (fun k => slices_Equal_int_int.f k a b) (decide (a = b)) := by
  by_cases hab : a.length = b.length
  · have h := down a.length (P := fun i => Ev (fun k => slices_Equal_int_int.l0 k a b (a.length : Int) (i : Int)) (decide (a.drop i = b.drop i))) ?_ ?_ 0 (by omega)
    · simpa only [slices_Equal_int_int.f, if_pos (show (a.length : Int) = (b.length : Int) by omega), List.drop_zero, cast0] using h
    · refine Ev.step (fun k => rfl) ?_
      simp only [slices_Equal_int_int.l0, if_neg (show ¬ (a.length : Int) < (a.length : Int) by omega)]
      exact ev_to (Ev.now _) (by rw [dropn, hab, dropn]; rfl)
    · intro i hi ih
      have hi' : i < b.length := by omega
      refine Ev.step (fun k => rfl) ?_
      simp only [slices_Equal_int_int.l0, if_pos (show (i : Int) < (a.length : Int) by omega), if_pos (show (0 : Int) ≤ (i : Int) by omega), if_pos (show (i : Int) < (b.length : Int) by omega), rd_nat hi, rd_nat hi', w64n (show i < 9223372036854775807 by omega)]
      by_cases e : a[i] = b[i]
      · simp only [if_pos e]
        exact ev_to ih (by rw [dropc hi, dropc hi']; simp only [List.cons.injEq, e, true_and])
      · simp only [if_neg e]
        exact ev_to (Ev.now false) (by rw [dropc hi, dropc hi']; simp only [List.cons.injEq, e, false_and, decide_false])
  · simp only [slices_Equal_int_int.f, if_neg (show ¬ (a.length : Int) = (b.length : Int) by omega)]
    exact ev_to (Ev.now _) (by symm; rw [decide_eq_false_iff_not]; exact fun e => hab (by rw [e]))
theorem impl_Matrix_at_eq {n : Nat} (h4 : n ≤ 4) {l : List Int} (hl : l.length = n * n) {i j : Nat} (hi : i < n) (hj : j < n) : impl_Matrix_at.f (n : Int) l (i : Int) (j : Int) = some (ent n l i j) := by
  have hb := idx_lt hi hj
  have hlc : (l.length : Int) = ((n * n : Nat) : Int) := by rw [hl]
  simp only [impl_Matrix_at.f, idx_wrap h4 hi hj, if_pos (show (0 : Int) ≤ ((i * n + j : Nat) : Int) by omega), if_pos (show ((i * n + j : Nat) : Int) < (l.length : Int) by omega), rd_ent]
theorem filled_TurnMatrix_1_l1 {n : Nat} (hn : n ≤ 4) (c0 : Int) (c1 : List Int) (g : Nat → Nat → Int) (hg : ∀ i j : Nat, i < n → j < n → impl_TurnMatrix_1.f (i : Int) (j : Int) c0 c1 = some (g i j)) (i : Nat) (hi : i < n)
    (ho : Ev (fun k => impl_filled_at_impl_TurnMatrix_1.l0 k (n : Int) (n : Int) ((i + 1 : Nat) : Int) c0 c1 (n : Int) (cellsTo n g ((i + 1) * n))) ((n : Int), cells n g)) :
    ∀ j, j ≤ n → Ev (fun k => impl_filled_at_impl_TurnMatrix_1.l1 k (n : Int) (i : Int) (n : Int) (i : Int) (n : Int) (j : Int) c0 c1 (n : Int) (cellsTo n g (i * n + j))) ((n : Int), cells n g) := by
  have e1 : i * n + n = (i + 1) * n := by rw [Nat.add_mul]; omega
  refine down n ?_ ?_
  · refine Ev.step (fun k => rfl) ?_
    simp only [impl_filled_at_impl_TurnMatrix_1.l1, if_neg (show ¬ (n : Int) < (n : Int) by omega), w64n (show i < 9223372036854775807 by omega), e1]
    exact ho
  · intro j hj ih
    have hl := idx_lt hi hj
    have hs := sq16 hn
    have hd := div_idx (i := i) hj
    have hnx := cellsTo_next n g (i * n + j)
    rw [hd.1, hd.2] at hnx
    refine Ev.step (fun k => rfl) ?_
    simp only [impl_filled_at_impl_TurnMatrix_1.l1, if_pos (show (j : Int) < (n : Int) by omega)]
    simp only [hg i j hi hj, Option.bind_some]
    simp only [cellsTo_len, if_pos (show i * n + j < 17592186044416 by omega), hnx, w64n (show j < 9223372036854775807 by omega)]
    exact ih
theorem filled_TurnMatrix_1_ev {n : Nat} (hn : n ≤ 4) (c0 : Int) (c1 : List Int) (g : Nat → Nat → Int) (hg : ∀ i j : Nat, i < n → j < n → impl_TurnMatrix_1.f (i : Int) (j : Int) c0 c1 = some (g i j)) :
    Ev (fun k => impl_filled_at_impl_TurnMatrix_1.f k (n : Int) c0 c1) ((n : Int), cells n g) := by
  have h := down n (P := fun i => Ev (fun k => impl_filled_at_impl_TurnMatrix_1.l0 k (n : Int) (n : Int) (i : Int) c0 c1 (n : Int) (cellsTo n g (i * n))) ((n : Int), cells n g)) ?_ ?_ 0 (by omega)
  · simpa only [impl_filled_at_impl_TurnMatrix_1.f, Nat.zero_mul, cast0, cellsTo, List.range_zero, List.map_nil] using h
  · refine Ev.step (fun k => rfl) ?_
    simp only [impl_filled_at_impl_TurnMatrix_1.l0, if_neg (show ¬ (n : Int) < (n : Int) by omega)]
    exact Ev.now _
  · intro i hi ih
    refine Ev.step (fun k => rfl) ?_
    simp only [impl_filled_at_impl_TurnMatrix_1.l0, if_pos (show (i : Int) < (n : Int) by omega)]
    exact filled_TurnMatrix_1_l1 hn c0 c1 g hg i hi ih 0 (by omega)
theorem impl_TurnMatrix_ev (n : Int) (l : List Int) (hl : l.length < 9223372036854775807) : Ev (fun k => impl_TurnMatrix.f k n l) (turnR n l) := by
  simp only [impl_TurnMatrix.f]
  refine Ev.bind (impl_MatrixValid_ev n l hl) ?_
  cases hv : mv n l with
  | false => simpa only [turnR, hv, Bool.false_eq_true, if_false] using Ev.now _
  | true =>
    obtain ⟨m, rfl, h1, h4, hlen, hc⟩ := mv_nat hv
    have hf := filled_TurnMatrix_1_ev (n := m) h4 (m : Int) l (fun i j => ent m l j i) (fun i j hi hj => by simp only [impl_TurnMatrix_1.f, impl_Matrix_at_eq h4 hlen hj hi, Option.bind_some])
    simp only [if_true]
    refine Ev.bind hf ?_
    exact ev_to (Ev.now _) (by rw [turnR, if_pos hv, Int.toNat_natCast]; rfl)
theorem rows_flat {n : Nat} {l : List Int} : ∀ i : Nat, ((List.range i).map fun j => mrow n l j).flatten = l.take (i * n)
  | 0 => by simp
  | i + 1 => by
    rw [List.range_succ, List.map_append, List.flatten_append, rows_flat i]
    simp only [List.map_cons, List.map_nil, List.flatten_cons, List.flatten_nil, List.append_nil]
    unfold mrow
    have h := List.take_append_drop (i * n) (l.take ((i + 1) * n))
    rw [List.take_take, Nat.min_eq_left (Nat.mul_le_mul_right _ (Nat.le_succ i))] at h
    exact h
theorem pm_is (s : ByteArray) : pmatrix s = if (∀ p ∈ cutB 47 s, (pcosts p).2 = true) ∧ s.data.toList ≠ [] ∧ fmatrix ((cutB 47 s).length : Int) (cellsP (cutB 47 s)) = s.data.toList then (((cutB 47 s).length : Int), cellsP (cutB 47 s), true) else (0, [], false) := by
  unfold pmatrix
  rw [← pm_same, pmI_eq, Nat.zero_add, List.nil_append]
theorem pm_yes {s : ByteArray} (h : (pmatrix s).2.2 = true) : fmatrix (pmatrix s).1 (pmatrix s).2.1 = s.data.toList := by
  rw [pm_is] at h ⊢
  split
  · rename_i hh
    exact hh.2.2
  · rename_i hh
    rw [if_neg hh] at h
    cases h
theorem pm_none : pmatrix (ofL []) = (0, [], false) := by
  rw [pm_is, if_neg fun h => h.2.1 rfl]
theorem pm_f {n : Nat} {l : List Int} (hm : mv (n : Int) l = true) : pmatrix (ofL (fmatrix (n : Int) l)) = ((n : Int), l, true) ∧ fmatrix (n : Int) l ≠ [] := by
  obtain ⟨m, em, m1, m4, hl, hall⟩ := mv_nat hm
  obtain rfl : n = m := by omega
  have ef : fmatrix (n : Int) l = joinL 47 (mrows n l n) := by
    unfold fmatrix
    rw [if_pos hm, Int.toNat_natCast]
  have hne : mrows n l n ≠ [] := mrows_ne (by omega)
  have hcv : ∀ j, (mrow n l j).all cv = true := fun j => List.all_eq_true.2 fun x hx => hall x (List.mem_of_mem_take (List.mem_of_mem_drop hx))
  have hrow : ∀ j, j < n → (mrow n l j).length = n := fun j hj => by
    obtain ⟨r1, r2⟩ := row_in m4 hl hj
    unfold mrow
    rw [List.length_drop, List.length_take, Nat.min_eq_left r2, Nat.add_mul]
    omega
  have hn47 : ∀ p ∈ mrows n l n, (47 : UInt8) ∉ p := fun p hp => by
    obtain ⟨j, _, rfl⟩ := List.mem_map.1 hp
    exact fcosts_no47 _
  have hfne : fmatrix (n : Int) l ≠ [] := by
    rw [ef]
    refine joinL_ne hne fun p hp => ?_
    obtain ⟨j, hj, rfl⟩ := List.mem_map.1 hp
    have hjn := List.mem_range.1 hj
    unfold fcosts
    rw [if_pos (hcv j)]
    refine joinL_ne (fun q => ?_) fun y hy => ?_
    · have := congrArg List.length q
      rw [List.length_map, hrow j hjn] at this
      simp only [List.length_nil] at this
      omega
    · obtain ⟨a, ha, rfl⟩ := List.mem_map.1 hy
      exact fcost_ne (List.all_eq_true.1 (hcv j) a ha)
  have hb : cutB 47 (ofL (fmatrix (n : Int) l)) = (List.range n).map fun j => ofL (fcosts (mrow n l j)) := by
    unfold cutB
    rw [ofL_toL, ef, cutL_join hne hn47]
    unfold mrows
    rw [List.map_map]
    rfl
  have hlen : ((List.range n).map fun j => ofL (fcosts (mrow n l j))).length = n := by simp
  have hcells : cellsP ((List.range n).map fun j => ofL (fcosts (mrow n l j))) = l := by
    unfold cellsP
    rw [List.map_map]
    have : ((fun p => (pcosts p).1) ∘ fun j => ofL (fcosts (mrow n l j))) = fun j => mrow n l j := by
      funext j
      show (pcosts (ofL (fcosts (mrow n l j)))).1 = _
      rw [pcosts_f (hcv j)]
    rw [this, rows_flat, List.take_of_length_le (by omega)]
  refine ⟨?_, hfne⟩
  rw [pm_is, hb, hlen, hcells, ofL_toL, if_pos]
  refine ⟨fun p hp => ?_, hfne, rfl⟩
  obtain ⟨j, _, rfl⟩ := List.mem_map.1 hp
  rw [pcosts_f (hcv j)]
theorem fmatrix_len (n : Int) (l : List Int) : (fmatrix n l).length ≤ 200 := by
  unfold fmatrix
  split
  · rename_i h
    obtain ⟨m, rfl, m1, m4, _, _⟩ := mv_nat h
    rw [Int.toNat_natCast]
    exact mrows_len m4 l m m4
  · simp
theorem DrawFormatMatrix_ev (l : List Int) (hl : ∀ x ∈ l, (Lit.int .u8 x).wf = true) : ∃ n r, Ev (fun k => spec_DrawFormatMatrix.f k l) (n, r) ∧ r.length ≤ 17 := by
  obtain ⟨s, e, hs⟩ := spec_l13Open_ev l hl
  obtain ⟨n, r, q, hr, h1, h2, -⟩ := l2Some_g hs (p := 0) (by omega)
  refine ⟨n, r, ?_, h2⟩
  simp only [spec_DrawFormatMatrix.f, e, Option.bind_some]
  exact Ev.bind hr (Ev.now _)
theorem DrawSameMatrix_ev (l : List Int) (hl : ∀ x ∈ l, (Lit.int .u8 x).wf = true) : ∃ n a m b, Ev (fun k => spec_DrawSameMatrix.f k l) (n, a, m, b) ∧ a.length ≤ 18 ∧ b.length ≤ 18 := by
  obtain ⟨s, e, hs⟩ := spec_l13Open_ev l hl
  obtain ⟨n, a, q, hr, h1, h2, q0, q1⟩ := l2Some_g hs (p := 0) (by omega)
  obtain ⟨v, hv, -⟩ := spec_l13Rd_pick_ev hs (p := q) (by omega) 2
  by_cases c : v = 0
  · obtain ⟨m, b, q', hb, b1, b2, -⟩ := l2Bad_g hs n h1 (by omega) (p := q + 1) (by omega)
    refine ⟨n, a, m, b, ?_, by omega, by omega⟩
    simp only [spec_DrawSameMatrix.f, e, Option.bind_some]
    refine Ev.bind hr (Ev.bind hv ?_)
    simp only [if_pos c]
    exact Ev.bind hb (Ev.now _)
  · obtain ⟨m, b, q', hb, b1, b2, -⟩ := l2Some_g hs (p := q + 1) (by omega)
    refine ⟨n, a, m, b, ?_, by omega, by omega⟩
    simp only [spec_DrawSameMatrix.f, e, Option.bind_some]
    refine Ev.bind hr (Ev.bind hv ?_)
    simp only [if_neg c]
    exact Ev.bind hb (Ev.now _)
theorem DrawParseMatrix_ev (l : List Int) (hl : ∀ x ∈ l, (Lit.int .u8 x).wf = true) : ∃ t, Ev (fun k => spec_DrawParseMatrix.f k l) t ∧ t.size ≤ 1000 := by
  obtain ⟨s, e, hs⟩ := spec_l13Open_ev l hl
  obtain ⟨c, hc, c0, c1⟩ := spec_l13Rd_pick_ev hs (p := 0) (by omega) 4
  have c1 := c1 (by omega)
  obtain ⟨m, hm⟩ := Int.eq_ofNat_of_zero_le (show 0 ≤ 1 + c by omega)
  have hw : wrap64 (1 + c) = (m : Int) := by rw [w64 (by omega) (by omega)]; exact hm
  obtain ⟨r, q, hr, hlen, hcv, q0, q1⟩ := l2Draw_cv hs (n := m) (by omega) (p := 0 + 1) (by omega)
  have h16 := sq16 (n := m) (by omega)
  have hmv : mv (m : Int) r = true := by
    rw [mv_iff]
    exact ⟨⟨by omega, by omega, by rw [hlen, Int.natCast_mul]⟩, List.all_eq_true.2 hcv⟩
  obtain ⟨t, ht⟩ : ∃ t, t = ofL (fmatrix (m : Int) r) := ⟨_, rfl⟩
  have hf := spec_FormatMatrix_ev (m : Int) r (by omega)
  rw [← ht] at hf
  have hz : t.size ≤ 200 := by
    rw [ht, ofL_size]
    exact fmatrix_len _ _
  have hz1 : 1 ≤ t.size := by
    rw [ht, ofL_size]
    have := (pm_f hmv).2
    cases ef : fmatrix (m : Int) r with
    | nil => exact absurd ef this
    | cons a b =>
      rw [List.length_cons]
      omega
  clear ht
  obtain ⟨v, hv, -⟩ := spec_l13Rd_pick_ev hs (p := q) (by omega) 2
  by_cases cz : v = 0
  · refine ⟨t, ?_, by omega⟩
    simp only [spec_DrawParseMatrix.f, e, Option.bind_some]
    refine Ev.bind hc ?_
    simp only [hw]
    refine Ev.bind hr (Ev.bind hf (Ev.bind hv ?_))
    simp only [if_pos cz]
    exact Ev.now _
  · obtain ⟨a, ha, a0, a1⟩ := spec_l13Rd_pick_ev hs (p := q + 1) (by omega) (t.size : Int)
    have a1 := a1 (by omega)
    obtain ⟨u, hu, hmu⟩ := spec_l13Rd_of_mem hs (p := q + 1 + 1) (by omega) [(⟨#[]⟩ : ByteArray), (⟨#[32]⟩ : ByteArray), (⟨#[47]⟩ : ByteArray), (⟨#[48]⟩ : ByteArray), (⟨#[45]⟩ : ByteArray)] (by simp)
    obtain ⟨b, hb, b0, b1⟩ := spec_l13Rd_pick_ev hs (p := q + 1 + 1 + 1) (by omega) 2
    have b1 := b1 (by omega)
    have hus : u.size ≤ 1 := by
      simp only [List.mem_cons, List.not_mem_nil, or_false] at hmu
      rcases hmu with rfl | rfl | rfl | rfl | rfl <;> decide
    have e1 : wrap64 (a + b) = a + b := w64 (by omega) (by omega)
    have z1 : (t.extract 0 a.toNat).size ≤ 200 := by
      rw [ByteArray.size_extract]
      omega
    have z2 : (t.extract (a + b).toNat t.size).size ≤ 200 := by
      rw [ByteArray.size_extract]
      omega
    have z3 : (t.extract 0 a.toNat ++ u).size ≤ 201 := by
      rw [ByteArray.size_append]
      omega
    refine ⟨(t.extract 0 a.toNat ++ u) ++ t.extract (a + b).toNat t.size, ?_, by rw [ByteArray.size_append]; omega⟩
    simp only [spec_DrawParseMatrix.f, e, Option.bind_some]
    refine Ev.bind hc ?_
    simp only [hw]
    refine Ev.bind hr (Ev.bind hf (Ev.bind hv ?_))
    simp only [if_neg cz]
    refine Ev.bind ha ?_
    simp only [if_pos a0, if_pos (show a ≤ (t.size : Int) by omega)]
    refine Ev.bind hu ?_
    simp only [if_pos (show (t.extract 0 a.toNat).size + u.size ≤ 9223372036854775807 by omega)]
    refine Ev.bind hb ?_
    simp only [e1, if_pos (show 0 ≤ a + b by omega), if_pos (show a + b ≤ (t.size : Int) by omega), if_pos (show (t.extract 0 a.toNat ++ u).size + (t.extract (a + b).toNat t.size).size ≤ 9223372036854775807 by omega)]
    exact Ev.now _
theorem SameMatrix_ev' (n : Int) (a : List Int) (m : Int) (b : List Int) (ha : a.length < 9223372036854775807) : Ev (fun k => impl_SameMatrix.f k n a m b) (decide (n = m ∧ a = b)) := by
  simp only [impl_SameMatrix.f]
  by_cases e : n = m
  · simp only [if_pos e]
    refine Ev.bind (slices_Equal_ev a b ha) ?_
    exact ev_to (Ev.now _) (by simp [e])
  · simp only [if_neg e]
    exact ev_to (Ev.now _) (by simp [e])
theorem turnR_flag (n : Int) (l : List Int) : (turnR n l).2.2 = mv n l := by
  unfold turnR
  cases h : mv n l <;> simp
theorem turnR_len (n : Int) (l : List Int) : (turnR n l).2.1.length ≤ 16 := by
  cases h : mv n l with
  | true =>
    obtain ⟨m, rfl, hok⟩ := mv_ok h
    rw [turnR_ok hok]
    exact hok.turn.short
  | false =>
    unfold turnR
    rw [h]
    simp
theorem MatrixText_j1 (l1 : List Int) (h1 : ∀ x ∈ l1, (Lit.int .u8 x).wf = true) (n : Int) (l : List Int) (hl : l.length ≤ 17) : Ev (fun k => laws_FnMatrixText.j1 k l1 (mv n l) false n l) true := by
  obtain ⟨t, ht, hz⟩ := DrawParseMatrix_ev l1 h1
  obtain ⟨n', a, m', b, hs, ha, hb⟩ := DrawSameMatrix_ev l1 h1
  have hT := impl_TurnMatrix_ev n l (by omega)
  have hlen := turnR_len n l
  have hT2 := impl_TurnMatrix_ev (turnR n l).1 (turnR n l).2.1 (by omega)
  have hpl : (pmatrix t).2.1.length ≤ 16 := pmS_len _ _
  have hD := laws_daMatrix_self (pmatrix t).1 (pmatrix t).2.1 (by omega)
  have hE := SameMatrix_ev' n' a m' b (by omega)
  have hE2 := laws_daMatrix_ev n' a m' b (by omega)
  have last : Ev (fun k => if ((turnR n l).2.2 == mv n l) = true then (if mv n l = true then (laws_daMatrix.f k (turnR (turnR n l).1 (turnR n l).2.1).1 (turnR (turnR n l).1 (turnR n l).2.1).2.1 n l).bind fun t => some t else some true) else none) true := by
    rw [turnR_flag]
    simp only [BEq.rfl, if_true]
    cases h : mv n l with
    | false => exact Ev.now _
    | true =>
      obtain ⟨m, rfl, hok⟩ := mv_ok h
      simp only [if_true]
      rw [turnR_ok hok]
      show Ev (fun k => (laws_daMatrix.f k (turnR (m : Int) (turnm m l)).1 (turnR (m : Int) (turnm m l)).2.1 (m : Int) l).bind fun t => some t) true
      rw [turnR_ok hok.turn, turn_turn hok]
      exact Ev.bind (laws_daMatrix_self (m : Int) l (by omega)) (Ev.now _)
  refine Ev.step (fun k => rfl) ?_
  simp only [laws_FnMatrixText.j1, Bool.false_eq_true, if_false]
  refine Ev.bind ht (Ev.bind (impl_ParseMatrix_ev (by omega)) (Ev.bind (spec_ParseMatrix_ev (by omega)) (Ev.bind hs (Ev.bind hT (Ev.bind hT2 (Ev.bind hD ?_))))))
  simp only [if_true, BEq.rfl]
  cases h : (pmatrix t).2.2 with
  | true =>
    simp only [if_true]
    refine Ev.bind (impl_FormatMatrix_ev _ _ (by omega)) ?_
    simp only [ba_toL, ofL_toL, pm_yes h, if_true]
    refine Ev.bind hE (Ev.bind hE2 ?_)
    simp only [BEq.rfl, if_true]
    exact last
  | false =>
    simp only [Bool.false_eq_true, if_false]
    refine Ev.bind hE (Ev.bind hE2 ?_)
    simp only [BEq.rfl, if_true]
    exact last
theorem MatrixText_main (l0 l1 : List Int) (h0 : ∀ x ∈ l0, (Lit.int .u8 x).wf = true) (h1 : ∀ x ∈ l1, (Lit.int .u8 x).wf = true) : Ev (fun k => laws_FnMatrixText.j0 k l0 l1 false) true := by
  obtain ⟨n, l, hr, hl⟩ := DrawFormatMatrix_ev l0 h0
  have hj := MatrixText_j1 l1 h1 n l hl
  have hz : (ofL (fmatrix n l)).size ≤ 200 := by
    rw [ofL_size]
    exact fmatrix_len _ _
  have hv := impl_MatrixValid_ev n l (by omega)
  refine Ev.step (fun k => rfl) ?_
  simp only [laws_FnMatrixText.j0, Bool.false_eq_true, if_false]
  refine Ev.bind hr (Ev.bind (impl_FormatMatrix_ev n l (by omega)) (Ev.bind (impl_ParseMatrix_ev (by omega)) (Ev.bind (spec_FormatMatrix_ev n l (by omega)) ?_)))
  simp only [if_true]
  refine Ev.bind hv (Ev.bind (spec_MatrixValid_ev n l (by omega)) ?_)
  simp only [bne_self_eq_false, Bool.false_eq_true, if_false]
  refine Ev.bind hv ?_
  cases h : mv n l with
  | true =>
    obtain ⟨m, rfl, hok⟩ := mv_ok h
    rw [h] at hj
    simp only [(pm_f h).1, bne_self_eq_false, Bool.false_eq_true, if_false, if_true]
    refine Ev.bind (laws_daMatrix_self _ l (by omega)) ?_
    exact hj
  | false =>
    have e : fmatrix n l = [] := by
      unfold fmatrix
      rw [h]
      rfl
    rw [h] at hj
    simp only [e, pm_none, bne_self_eq_false, Bool.false_eq_true, if_false]
    exact hj
theorem FnMatrixText : laws_FnMatrixText.Pure := by
  intro l0 l1 _ _ h0 _ _ h1
  refine Ev.rounds ?_
  simp only [laws_FnMatrixText.f]
  have ht : Ev (fun k => laws_FnMatrixText.j0 k l0 l1 true) true := by
    refine Ev.step (fun k => rfl) ?_
    simp only [laws_FnMatrixText.j0, if_true]
    exact Ev.now _
  by_cases c0 : (l0.length : Int) > 1048576
  · simp only [if_pos c0]; exact ht
  · simp only [if_neg c0]
    by_cases c1 : (l1.length : Int) > 1048576
    · simp only [c1, decide_true]; exact ht
    · simp only [c1, decide_false]; exact MatrixText_main l0 l1 h0 h1

end Go.Proofs.YtmnfbnpclanafaaDoor.Pure
