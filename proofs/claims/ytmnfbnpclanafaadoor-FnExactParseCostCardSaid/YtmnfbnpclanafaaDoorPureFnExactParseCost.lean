/- The pure statement of FnExactParseCost: the printed functions answer true at every input that can be read. -/
import Derived.Test.YtmnfbnpclanafaaDoorPGPx7
set_option linter.unusedVariables false
set_option linter.unusedSimpArgs false
namespace Go.Proofs.YtmnfbnpclanafaaDoor.Pure
open Go.RowKit Go.Proofs.YtmnfbnpclanafaaDoor.PGP Go.Proofs.YtmnfbnpclanafaaDoorW.PrintWords Go.Proofs.YtmnfbnpclanafaaDoorW.PrintLast Go.Proofs.YtmnfbnpclanafaaDoorW.PrintMore

theorem w64 {x : Int} (h0 : -9223372036854775808 ≤ x) (h1 : x ≤ 9223372036854775807) : wrap64 x = x := by unfold wrap64; omega
theorem cast0 : ((0 : Nat) : Int) = 0 := rfl
theorem w64n {i : Nat} (h : i < 9223372036854775807) : wrap64 ((i : Int) + 1) = ((i + 1 : Nat) : Int) := by rw [w64 (by omega) (by omega)]; omega
theorem rd_nat {l : List Int} {i : Nat} (h : i < l.length) : rd l (i : Int) = l[i] := by simp [rd, List.getD_eq_getElem?_getD, h]
theorem mn_eq (a b : Int) : mn a b = min a b := by unfold mn; split <;> omega
theorem mx_eq (a b : Int) : mx a b = max a b := by unfold mx; split <;> omega
theorem down (n : Nat) {P : Nat → Prop} (h0 : P n) (hs : ∀ i, i < n → P (i + 1) → P i) : ∀ i, i ≤ n → P i := by
  have h : ∀ d i, i + d = n → P i := by
    intro d
    induction d with
    | zero => intro i hi; obtain rfl : i = n := by omega
              exact h0
    | succ d ih => intro i hi; exact hs i (by omega) (ih (i + 1) (by omega))
  exact fun i hi => h (n - i) i (by omega)
theorem ev_to {α : Type} {g : Nat → Option α} {r r' : α} (h : Ev g r) (e : r = r') : Ev g r' := e ▸ h
theorem dropc {α : Type} {l : List α} {i : Nat} (h : i < l.length) : l.drop i = l[i] :: l.drop (i + 1) := List.drop_eq_getElem_cons h
theorem dropn {α : Type} (l : List α) : l.drop l.length = [] := List.drop_eq_nil_of_le (Nat.le_refl _)
theorem wf64 {x : Int} (h : (Lit.int .i64 x).wf = true) : -9223372036854775808 ≤ x ∧ x ≤ 9223372036854775807 := by
  simp [Lit.wf, IntKind.min, IntKind.max, IntKind.signed, IntKind.bits] at h
  omega
theorem wf8 {x : Int} (h : (Lit.int .u8 x).wf = true) : 0 ≤ x ∧ x ≤ 255 := by
  simp [Lit.wf, IntKind.min, IntKind.max, IntKind.signed, IntKind.bits] at h
  omega
theorem nnc (q : Nat) : (0 : Int) ≤ (q : Int) := Int.natCast_nonneg q
theorem ltc {a b : Nat} (h : a < b) : (a : Int) < (b : Int) := Int.ofNat_lt.2 h
theorem dec_step {u : Nat} (h : ¬ u < 10) : Lib.decDigits u = Lib.decDigits (u / 10) ++ [UInt8.ofNat (48 + u % 10)] := by rw [Lib.decDigits, dif_neg h]
theorem dec_one {u : Nat} (h : u < 10) : Lib.decDigits u = [UInt8.ofNat (48 + u)] := by rw [Lib.decDigits, dif_pos h]
theorem digit_nat {d : Nat} (h : d < 10) : (UInt8.ofNat (48 + d)).toNat = 48 + d := by
  have : (UInt8.ofNat (48 + d)).toNat = (48 + d) % 256 := UInt8.toNat_ofNat'
  omega
/-- What digits spell. -/
def dstep (a : Nat) (c : UInt8) : Nat := a * 10 + (c.toNat - 48)
def numv (l : List UInt8) : Nat := l.foldl dstep 0
theorem numv_snoc (l : List UInt8) (c : UInt8) : numv (l ++ [c]) = numv l * 10 + (c.toNat - 48) := by simp [numv, List.foldl_append, dstep]
theorem numv_dec (u : Nat) : numv (Lib.decDigits u) = u := by
  induction u using Nat.strongRecOn with
  | _ u ih =>
    by_cases h : u < 10
    · have e : numv [UInt8.ofNat (48 + u)] = 0 * 10 + ((UInt8.ofNat (48 + u)).toNat - 48) := rfl
      rw [dec_one h, e, digit_nat h]
      omega
    · rw [dec_step h, numv_snoc, ih (u / 10) (by omega), digit_nat (Nat.mod_lt _ (by omega))]
      omega
def isd (c : UInt8) : Prop := 48 ≤ c.toNat ∧ c.toNat ≤ 57
def digs (l : List UInt8) : Prop := ∀ c ∈ l, isd c
theorem dec_digs (u : Nat) : digs (Lib.decDigits u) := by
  induction u using Nat.strongRecOn with
  | _ u ih =>
    intro c hc
    by_cases h : u < 10
    · rw [dec_one h, List.mem_singleton] at hc
      subst hc
      unfold isd
      rw [digit_nat h]
      omega
    · rw [dec_step h, List.mem_append, List.mem_singleton] at hc
      rcases hc with hc | rfl
      · exact ih (u / 10) (by omega) c hc
      · unfold isd
        rw [digit_nat (Nat.mod_lt _ (by omega))]
        omega
theorem dec_ne (u : Nat) : Lib.decDigits u ≠ [] := by
  by_cases h : u < 10
  · rw [dec_one h]
    exact List.cons_ne_nil _ _
  · rw [dec_step h]
    simp
theorem dec_len : ∀ (k u : Nat), u < 10 ^ (k + 1) → (Lib.decDigits u).length ≤ k + 1
  | 0, u, h => by rw [dec_one (by simpa using h)]; exact Nat.le_refl _
  | k + 1, u, h => by
    by_cases c : u < 10
    · rw [dec_one c]
      exact Nat.succ_le_succ (Nat.zero_le _)
    · rw [dec_step c, List.length_append]
      have := dec_len k (u / 10) (by rw [Nat.pow_succ] at h; omega)
      simp only [List.length_singleton]
      omega
theorem fold_ge : ∀ (l : List UInt8) (a : Nat), a ≤ l.foldl dstep a
  | [], a => Nat.le_refl _
  | c :: r, a => by
    have := fold_ge r (dstep a c)
    have e : dstep a c = a * 10 + (c.toNat - 48) := rfl
    simp only [List.foldl_cons]
    omega
theorem parse_ok : ∀ (l : List UInt8) (a : Nat), digs l → l.foldl dstep a < 1000000000 → Lib.parseUint10 a l = .ok (l.foldl dstep a)
  | [], a, _, _ => rfl
  | c :: r, a, hd, h => by
    have hc : isd c := hd c List.mem_cons_self
    have hge := fold_ge r (dstep a c)
    have e : dstep a c = a * 10 + (c.toNat - 48) := rfl
    simp only [List.foldl_cons] at h ⊢
    unfold Lib.parseUint10
    rw [if_pos (show 48 ≤ c.toNat ∧ c.toNat ≤ 57 from hc), if_neg (by omega), if_neg (by omega)]
    exact parse_ok r _ (fun x hx => hd x (List.mem_cons_of_mem _ hx)) h
theorem atoi_dec {u : Nat} (h : u ≤ 999999) : Lib.atoiAll (Lib.decDigits u) = .ok (u : Int) := by
  obtain ⟨c, r, e⟩ : ∃ c r, Lib.decDigits u = c :: r := by
    cases e : Lib.decDigits u with
    | nil => exact absurd e (dec_ne u)
    | cons c r => exact ⟨c, r, rfl⟩
  have hd := dec_digs u
  have hv := numv_dec u
  rw [e] at hd hv ⊢
  have hc : isd c := hd c List.mem_cons_self
  unfold isd at hc
  have hp : Lib.parseUint10 0 (c :: r) = .ok u := by
    have := parse_ok (c :: r) 0 hd (by show numv (c :: r) < _; rw [hv]; omega)
    rw [this]
    exact congrArg _ hv
  rw [Lib.atoiAll_plain c r (by omega) (by omega)]
  unfold Lib.parseMag
  rw [if_neg (List.cons_ne_nil _ _), hp]
  show (if 9223372036854775808 ≤ u then Lib.NumEnd.range else Lib.NumEnd.ok (u : Int)) = _
  rw [if_neg (by omega)]
/-- What a text of a cost says. -/
def pcost (l : List UInt8) : Int × Bool := if l = [45] then (1000000, true) else if numv l ≤ 999999 ∧ l = Lib.decDigits (numv l) then ((numv l : Int), true) else (0, false)
/-- The text of a cost. -/
def fcost (a : Int) : List UInt8 := if 0 ≤ a ∧ a ≤ 1000000 then (if a = 1000000 then [45] else Lib.decDigits a.toNat) else []
theorem dec_minus (u : Nat) : Lib.decDigits u ≠ [45] := fun h => by
  have := dec_digs u 45 (by rw [h]; exact List.mem_cons_self)
  unfold isd at this
  have e : (45 : UInt8).toNat = 45 := rfl
  omega
theorem pcost_dec {u : Nat} (h : u ≤ 999999) : pcost (Lib.decDigits u) = ((u : Int), true) := by
  unfold pcost
  rw [if_neg (dec_minus u), numv_dec, if_pos ⟨h, rfl⟩]
theorem pcost_no {l : List UInt8} (h1 : l ≠ [45]) (h2 : ∀ u, u ≤ 999999 → l ≠ Lib.decDigits u) : pcost l = (0, false) := by
  unfold pcost
  rw [if_neg h1, if_neg fun h => h2 _ h.1 h.2]
theorem pcost_f {a : Int} (h0 : 0 ≤ a) (h1 : a ≤ 1000000) : pcost (fcost a) = (a, true) := by
  unfold fcost
  rw [if_pos ⟨h0, h1⟩]
  by_cases c : a = 1000000
  · rw [if_pos c, c]
    rfl
  · rw [if_neg c, pcost_dec (by omega)]
    congr 1
    omega
theorem pcost_yes {l : List UInt8} {a : Int} (h : pcost l = (a, true)) : 0 ≤ a ∧ a ≤ 1000000 ∧ fcost a = l := by
  unfold pcost at h
  split at h
  · rename_i e
    injection h with h _
    subst h
    exact ⟨by omega, by omega, e.symm⟩
  · split at h
    · rename_i hh
      injection h with h _
      subst h
      refine ⟨by omega, by omega, ?_⟩
      unfold fcost
      rw [if_pos ⟨by omega, by omega⟩, if_neg (by omega), Int.toNat_natCast]
      exact hh.2.symm
    · injection h with _ h
      cases h
theorem pcost_cases (l : List UInt8) : (∃ a, pcost l = (a, true)) ∨ pcost l = (0, false) := by
  unfold pcost
  split
  · exact .inl ⟨_, rfl⟩
  · split
    · exact .inl ⟨_, rfl⟩
    · exact .inr rfl
/-- A text cut at every such sign. -/
def cutL (c : UInt8) : List UInt8 → List (List UInt8)
  | [] => [[]]
  | x :: r => if x = c then [] :: cutL c r else
    match cutL c r with
    | [] => [[x]]
    | h :: t => (x :: h) :: t
theorem cutL_ne (c : UInt8) : ∀ l, cutL c l ≠ []
  | [] => List.cons_ne_nil _ _
  | x :: r => by
    unfold cutL
    split
    · exact List.cons_ne_nil _ _
    · split <;> exact List.cons_ne_nil _ _
theorem cutL_cons {c x : UInt8} {r h : List UInt8} {t : List (List UInt8)} (hx : ¬ x = c) (e : cutL c r = h :: t) : cutL c (x :: r) = (x :: h) :: t := by rw [cutL, if_neg hx, e]
theorem cutL_no {c : UInt8} : ∀ {p : List UInt8}, c ∉ p → ∀ l, cutL c (p ++ l) = (p ++ (cutL c l).head (cutL_ne c l)) :: (cutL c l).tail
  | [], _, l => by
    show cutL c l = (cutL c l).head _ :: _
    exact (List.cons_head_tail (cutL_ne c l)).symm
  | x :: p, h, l => by
    have hx : ¬ x = c := fun e => h (by rw [e]; exact List.mem_cons_self)
    exact cutL_cons hx (cutL_no (fun hh => h (List.mem_cons_of_mem _ hh)) l)
theorem cutL_alone {c : UInt8} {p : List UInt8} (h : c ∉ p) : cutL c p = [p] := by
  have := cutL_no h []
  rw [List.append_nil] at this
  rw [this]
  simp [cutL]
theorem cutL_sep {c : UInt8} {p : List UInt8} (h : c ∉ p) (l : List UInt8) : cutL c (p ++ c :: l) = p :: cutL c l := by
  rw [cutL_no h]
  have e : cutL c (c :: l) = [] :: cutL c l := by
    rw [cutL, if_pos rfl]
  simp only [e, List.head_cons, List.tail_cons, List.append_nil]
/-- Parts with a sign between. -/
def joinL (c : UInt8) : List (List UInt8) → List UInt8
  | [] => []
  | [p] => p
  | p :: q :: r => p ++ c :: joinL c (q :: r)
theorem cutL_join {c : UInt8} : ∀ {ps : List (List UInt8)}, ps ≠ [] → (∀ p ∈ ps, c ∉ p) → cutL c (joinL c ps) = ps
  | [], h, _ => absurd rfl h
  | [p], _, h => cutL_alone (h p List.mem_cons_self)
  | p :: q :: r, _, h => by
    show cutL c (p ++ c :: joinL c (q :: r)) = _
    rw [cutL_sep (h p List.mem_cons_self), cutL_join (List.cons_ne_nil _ _) (fun x hx => h x (List.mem_cons_of_mem _ hx))]
theorem cutL_none (c : UInt8) : ∀ (l : List UInt8), ∀ p ∈ cutL c l, c ∉ p
  | [], p, hp => by
    have : p = [] := by simpa [cutL] using hp
    rw [this]
    exact List.not_mem_nil
  | x :: r, p, hp => by
    unfold cutL at hp
    split at hp
    · rcases List.mem_cons.1 hp with rfl | hp
      · exact List.not_mem_nil
      · exact cutL_none c r p hp
    · rename_i hx
      split at hp
      · rename_i e
        exact absurd e (cutL_ne c r)
      · rename_i h t e
        rcases List.mem_cons.1 hp with rfl | hp
        · intro hc
          rcases List.mem_cons.1 hc with e2 | hc
          · exact hx e2.symm
          · exact cutL_none c r h (by rw [e]; exact List.mem_cons_self) hc
        · exact cutL_none c r p (by rw [e]; exact List.mem_cons_of_mem _ hp)
theorem join_cutL (c : UInt8) : ∀ (l : List UInt8), joinL c (cutL c l) = l
  | [] => rfl
  | x :: r => by
    have ih := join_cutL c r
    unfold cutL
    split
    · rename_i hx
      cases e : cutL c r with
      | nil => exact absurd e (cutL_ne c r)
      | cons h t =>
        show [] ++ c :: joinL c (h :: t) = _
        rw [← e, ih, hx]
        rfl
    · cases e : cutL c r with
      | nil => exact absurd e (cutL_ne c r)
      | cons h t =>
        rw [e] at ih
        cases t with
        | nil => show x :: h = _; rw [show h = r from ih]
        | cons q t =>
          show (x :: h) ++ c :: joinL c (q :: t) = _
          rw [← ih]
          rfl
theorem joinL_lib (c : UInt8) : ∀ (ps : List (List UInt8)), Lib.join ps [c] = joinL c ps
  | [] => rfl
  | [p] => Lib.join_one p [c]
  | p :: q :: r => by
    have ih := joinL_lib c (q :: r)
    rw [Lib.join_cons, joinL, ← ih, Lib.join_cons]
    simp [Lib.joinTail]
/-- A cost: between 0 and 1000000. -/
def cv (a : Int) : Bool := decide (0 ≤ a ∧ a ≤ 1000000)
theorem cv_iff {a : Int} : cv a = true ↔ 0 ≤ a ∧ a ≤ 1000000 := by simp [cv]
theorem impl_CostValid_eq (a : Int) : impl_CostValid.f a = some (cv a) := by
  unfold impl_CostValid.f cv
  split <;> simp <;> omega
theorem ba_ext {a b : ByteArray} (h : a.data.toList = b.data.toList) : a = b := by
  cases a with
  | mk a => cases b with
    | mk b => exact congrArg ByteArray.mk (Array.toList_inj.1 h)
def ofL (l : List UInt8) : ByteArray := ⟨l.toArray⟩
theorem ofL_toL (l : List UInt8) : (ofL l).data.toList = l := rfl
theorem ofL_self (s : ByteArray) : ofL s.data.toList = s := ba_ext rfl
theorem ofL_app (a b : List UInt8) : ofL a ++ ofL b = ofL (a ++ b) := ba_ext (by simp [ofL])
theorem ofL_size (l : List UInt8) : (ofL l).size = l.length := by simp [ofL, ByteArray.size]
/-- The text of a cost, as a string. -/
def fc (a : Int) : ByteArray := ofL (fcost a)
theorem fcost_len (a : Int) : (fcost a).length ≤ 6 := by
  unfold fcost
  split
  · split
    · simp
    · exact dec_len 5 _ (by omega)
  · simp
theorem impl_FormatCost_eq (a : Int) : impl_FormatCost.f a = some (fc a) := by
  simp only [impl_FormatCost.f, impl_CostValid_eq, Option.bind_some]
  by_cases h : 0 ≤ a ∧ a ≤ 1000000
  · rw [if_pos (show cv a = true from cv_iff.2 h)]
    by_cases c : a = 1000000
    · rw [if_pos c, c]
      rfl
    · rw [if_neg c]
      unfold strconv_Itoa_48.f
      rw [if_pos ⟨by omega, by omega⟩]
      show some (some _ |>.get rfl) = _
      unfold fc fcost Lib.itoa
      rw [if_pos h, if_neg c, if_neg (by omega)]
      rfl
  · rw [if_neg (show ¬ cv a = true from fun q => h (cv_iff.1 q))]
    unfold fc fcost
    rw [if_neg h]
    rfl
theorem ba_toL (s : ByteArray) : s.toList = s.data.toList := ByteArray.toList_eq s
theorem at_eq (s : ByteArray) (a : Int) : impl_ParseCost.at_ s a = some (if cv a = true ∧ fcost a = s.data.toList then (a, true) else (0, false)) := by
  simp only [impl_ParseCost.at_, impl_CostValid_eq, impl_FormatCost_eq, Option.bind_some, ba_toL]
  cases h : cv a with
  | false => simp
  | true =>
    simp only [if_true, true_and]
    show (if fcost a = s.data.toList then _ else _) = _
    split <;> rfl
theorem impl_ParseCost_eq {s : ByteArray} (hs : s.size ≤ 140737488351232) : impl_ParseCost.f s = some (pcost s.data.toList) := by
  unfold impl_ParseCost.f
  rw [if_pos hs, ba_toL]
  by_cases c : s.data.toList = [45]
  · rw [if_pos c, at_eq, c]
    rfl
  · rw [if_neg c]
    by_cases hex : ∃ u, u ≤ 999999 ∧ s.data.toList = Lib.decDigits u
    · obtain ⟨u, hu, e⟩ := hex
      rw [e, atoi_dec hu]
      show impl_ParseCost.at_ s (u : Int) = _
      have hf : fcost (u : Int) = Lib.decDigits u := by
        unfold fcost
        rw [if_pos ⟨by omega, by omega⟩, if_neg (by omega), Int.toNat_natCast]
      rw [at_eq, pcost_dec hu, if_pos ⟨cv_iff.2 ⟨by omega, by omega⟩, by rw [hf, e]⟩]
    · rw [pcost_no c fun u hu e => hex ⟨u, hu, e⟩]
      split
      · rename_i v _
        rw [at_eq, if_neg]
        rintro ⟨h1, h2⟩
        have hv := cv_iff.1 h1
        unfold fcost at h2
        rw [if_pos hv] at h2
        split at h2
        · exact c h2.symm
        · exact hex ⟨v.toNat, by omega, h2.symm⟩
      · rfl
theorem bt_nat {s : ByteArray} {i : Nat} (h : i < s.size) : bt s (i : Int) = (s[i].toNat : Int) := by simp [bt, h]
def wordv (s : ByteArray) : Bool := s.data.toList.all (fun c => c == 97 || c == 98) && decide (s.size ≤ 1000)
def wordfrom (s : ByteArray) (i : Nat) : Bool := (s.data.toList.drop i).all (fun c => c == 97 || c == 98) && decide (s.size ≤ 1000)
theorem wordfrom_end (s : ByteArray) : wordfrom s s.size = decide ((s.size : Int) ≤ 1000) := by
  have : s.data.toList.drop s.size = [] := List.drop_eq_nil_of_le (by simp)
  simp only [wordfrom, this, List.all_nil, Bool.true_and]
  by_cases h : s.size ≤ 1000
  · rw [decide_eq_true h, decide_eq_true (by omega)]
  · rw [decide_eq_false h, decide_eq_false (by omega)]
theorem wordfrom_step {s : ByteArray} {i : Nat} (h : i < s.size) : wordfrom s i = ((s[i] == 97 || s[i] == 98) && wordfrom s (i + 1)) := by
  have : s.data.toList.drop i = s[i] :: s.data.toList.drop (i + 1) := List.drop_eq_getElem_cons (by simpa using h)
  simp only [wordfrom, this, List.all_cons, Bool.and_assoc]
theorem byte_is (c : UInt8) (n : Nat) (hn : n < 256) : ((c.toNat : Int) = (n : Int)) ↔ c = UInt8.ofNat n := by
  constructor
  · intro h
    apply UInt8.toNat_inj.1
    have : (UInt8.ofNat n).toNat = n % 256 := UInt8.toNat_ofNat'
    omega
  · intro h
    have : (UInt8.ofNat n).toNat = n % 256 := UInt8.toNat_ofNat'
    rw [h]
    omega
theorem byte97 (c : UInt8) : ((c.toNat : Int) = 97) ↔ c = 97 := byte_is c 97 (by decide)
theorem byte98 (c : UInt8) : ((c.toNat : Int) = 98) ↔ c = 98 := byte_is c 98 (by decide)
/-- What digits spell behind a number, or none if there is another sign. -/
def decs : Nat → List UInt8 → Option Nat
  | a, [] => some a
  | a, c :: r => if 48 ≤ c.toNat ∧ c.toNat ≤ 57 then decs (a * 10 + (c.toNat - 48)) r else none
theorem decs_digs : ∀ (l : List UInt8) (a : Nat), digs l → decs a l = some (l.foldl dstep a)
  | [], a, _ => rfl
  | c :: r, a, h => by
    have hc : isd c := h c List.mem_cons_self
    unfold decs
    rw [if_pos (show 48 ≤ c.toNat ∧ c.toNat ≤ 57 from hc)]
    exact decs_digs r _ (fun x hx => h x (List.mem_cons_of_mem _ hx))
theorem decs_some : ∀ (l : List UInt8) (a v : Nat), decs a l = some v → digs l ∧ v = l.foldl dstep a
  | [], a, v, h => ⟨fun _ hc => (List.not_mem_nil hc).elim, (Option.some.inj h).symm⟩
  | c :: r, a, v, h => by
    unfold decs at h
    split at h
    · rename_i hc
      obtain ⟨h1, h2⟩ := decs_some r _ v h
      refine ⟨fun x hx => ?_, h2⟩
      rcases List.mem_cons.1 hx with rfl | hx
      · exact hc
      · exact h1 x hx
    · cases h
/-- What the reference reads as a number. -/
def numS (l : List UInt8) : Int × Bool :=
  let neg := l.head? == some 45
  let r := if neg = true then l.tail else l
  if r = [] ∨ 17 < r.length ∨ (r.head? = some 48 ∧ (1 < r.length ∨ neg = true)) then (0, false) else
    match decs 0 r with
    | none => (0, false)
    | some v => (if neg = true then -(v : Int) else (v : Int), true)
theorem canon : ∀ (n : Nat) (l : List UInt8), l.length = n → digs l → l ≠ [] → (l.head? ≠ some 48 ∨ l.length = 1) → l = Lib.decDigits (numv l) := by
  intro n
  induction n with
  | zero => intro l h _ hn; exact absurd (List.eq_nil_of_length_eq_zero h) hn
  | succ n ih =>
    intro l hl hd hn hc
    obtain ⟨l', c, rfl⟩ : ∃ l' c, l = l' ++ [c] := ⟨l.dropLast, l.getLast hn, (List.dropLast_concat_getLast hn).symm⟩
    have hcd : isd c := hd c (by simp)
    unfold isd at hcd
    have hb : UInt8.ofNat (48 + (c.toNat - 48)) = c := by
      apply UInt8.toNat_inj.1
      rw [digit_nat (by omega)]
      omega
    cases l' with
    | nil =>
      have e : numv ([] ++ [c]) = c.toNat - 48 := by
        rw [numv_snoc]
        show 0 * 10 + _ = _
        omega
      rw [e, dec_one (by omega), hb]
      rfl
    | cons b r =>
      have hb0 : b.toNat ≠ 48 := by
        rcases hc with hc | hc
        · intro h
          refine hc ?_
          have : b = 48 := UInt8.toNat_inj.1 h
          rw [this]
          rfl
        · simp at hc
      have hbd : isd b := hd b (by simp)
      unfold isd at hbd
      have hd' : digs (b :: r) := fun x hx => hd x (List.mem_append_left _ hx)
      have hrec := ih (b :: r) (by simp at hl ⊢; omega) hd' (List.cons_ne_nil _ _) (.inl fun h => hb0 (by have := Option.some.inj h; rw [this]; rfl))
      have hpos : 1 ≤ numv (b :: r) := by
        have := fold_ge r (dstep 0 b)
        have e : dstep 0 b = 0 * 10 + (b.toNat - 48) := rfl
        show 1 ≤ List.foldl dstep (dstep 0 b) r
        omega
      rw [numv_snoc, dec_step (by omega)]
      have e1 : (numv (b :: r) * 10 + (c.toNat - 48)) / 10 = numv (b :: r) := by omega
      have e2 : (numv (b :: r) * 10 + (c.toNat - 48)) % 10 = c.toNat - 48 := by omega
      rw [e1, e2, hb, ← hrec]
theorem dec_head (u : Nat) (h : (Lib.decDigits u).head? = some 48) : (Lib.decDigits u).length = 1 := by
  induction u using Nat.strongRecOn with
  | _ u ih =>
    by_cases c : u < 10
    · rw [dec_one c]
      rfl
    · exfalso
      rw [dec_step c] at h
      have hne := dec_ne (u / 10)
      have hh : (Lib.decDigits (u / 10)).head? = some 48 := by
        cases e : Lib.decDigits (u / 10) with
        | nil => exact absurd e hne
        | cons b r => rw [e] at h; exact h
      have h1 := ih (u / 10) (by omega) hh
      by_cases d : u / 10 < 10
      · rw [dec_one d] at hh
        have e := congrArg UInt8.toNat (Option.some.inj hh)
        rw [digit_nat d] at e
        have e48 : (48 : UInt8).toNat = 48 := rfl
        omega
      · rw [dec_step d, List.length_append, List.length_singleton] at h1
        exact dec_ne (u / 10 / 10) (List.eq_nil_of_length_eq_zero (by omega))
/-- The reference's reading of a cost is the same. -/
theorem numS_cost (l : List UInt8) : (if l = [45] then ((1000000 : Int), true) else if (numS l).2 = true ∧ 0 ≤ (numS l).1 ∧ (numS l).1 ≤ 999999 then ((numS l).1, true) else (0, false)) = pcost l := by
  by_cases h45 : l = [45]
  · rw [if_pos h45, h45]
    rfl
  rw [if_neg h45]
  by_cases hex : ∃ u, u ≤ 999999 ∧ l = Lib.decDigits u
  · obtain ⟨u, hu, rfl⟩ := hex
    have hs : numS (Lib.decDigits u) = ((u : Int), true) := by
      have hneg : ((Lib.decDigits u).head? == some 45) = false := by
        cases e : Lib.decDigits u with
        | nil => exact absurd e (dec_ne u)
        | cons b r =>
          have hb := dec_digs u b (by rw [e]; exact List.mem_cons_self)
          unfold isd at hb
          have hbn : b ≠ 45 := fun hh => by
            have e45 : (45 : UInt8).toNat = 45 := rfl
            rw [hh] at hb
            omega
          simpa using hbn
      have hlen := dec_len 5 u (by omega)
      unfold numS
      simp only [hneg, Bool.false_eq_true, if_false, or_false]
      rw [if_neg, decs_digs _ _ (dec_digs u)]
      · show ((numv (Lib.decDigits u) : Int), true) = _
        rw [numv_dec]
      · rintro (h | h | ⟨h, h1⟩)
        · exact dec_ne u h
        · omega
        · have := dec_head u h
          omega
    rw [hs, if_pos ⟨rfl, by show (0 : Int) ≤ u; omega, by show (u : Int) ≤ 999999; omega⟩, pcost_dec hu]
  · rw [pcost_no h45 fun u hu e => hex ⟨u, hu, e⟩, if_neg]
    rintro ⟨h1, h2, h3⟩
    apply hex
    unfold numS at h1 h2 h3
    by_cases hneg : (l.head? == some 45) = true
    · simp only [hneg, if_true, or_true, and_true] at h1 h2 h3
      split at h1
      · cases h1
      · rename_i hc
        rw [if_neg hc] at h2 h3
        cases hd : decs 0 l.tail with
        | none => rw [hd] at h1; cases h1
        | some v =>
          rw [hd] at h2 h3
          simp only at h2 h3
          obtain ⟨hdg, hv⟩ := decs_some _ _ _ hd
          cases ht : l.tail with
          | nil => exact absurd (.inl ht) hc
          | cons b r =>
            exfalso
            rw [ht] at hdg hv
            have hb := hdg b List.mem_cons_self
            unfold isd at hb
            have hb0 : b.toNat ≠ 48 := fun h => hc (.inr (.inr (by
              have : b = 48 := UInt8.toNat_inj.1 h
              rw [ht, this]
              rfl)))
            have := fold_ge r (dstep 0 b)
            have e : dstep 0 b = 0 * 10 + (b.toNat - 48) := rfl
            have e2 : v = List.foldl dstep (dstep 0 b) r := hv
            omega
    · have hneg : (l.head? == some 45) = false := Bool.eq_false_iff.2 hneg
      simp only [hneg, Bool.false_eq_true, if_false, or_false] at h1 h2 h3
      split at h1
      · cases h1
      · rename_i hc
        rw [if_neg hc] at h2 h3
        cases hd : decs 0 l with
        | none => rw [hd] at h1; cases h1
        | some v =>
          rw [hd] at h2 h3
          simp only at h2 h3
          obtain ⟨hdg, hv⟩ := decs_some _ _ _ hd
          have hl : l ≠ [] := fun h => hc (.inl h)
          refine ⟨v, by omega, ?_⟩
          have hcan : l.head? ≠ some 48 ∨ l.length = 1 := by
            by_cases h48 : l.head? = some 48
            · right
              have : ¬ 1 < l.length := fun h => hc (.inr (.inr ⟨h48, h⟩))
              have : l.length ≠ 0 := fun h => hl (List.eq_nil_of_length_eq_zero h)
              omega
            · exact .inl h48
          rw [hv]
          exact canon _ l rfl hdg hl hcan
/-- A number behind its sign. -/
def signd (neg : Bool) : Option Nat → Int × Bool
  | none => (0, false)
  | some v => (if neg = true then -(v : Int) else (v : Int), true)
theorem l13Num_l0 (s : ByteArray) (neg : Bool) (hs : s.size ≤ 17) : ∀ i, i ≤ s.size → ∀ v : Nat, v < 10 ^ i → Ev (fun k => spec_l13Num.l0 k s neg (v : Int) (i : Int)) (signd neg (decs v (s.data.toList.drop i))) := by
  refine down s.size ?_ ?_
  · intro v hv
    have hp : 10 ^ s.size ≤ 10 ^ 17 := Nat.pow_le_pow_right (by omega) hs
    refine Ev.step (fun k => rfl) ?_
    rw [List.drop_eq_nil_of_le (by simp : s.data.toList.length ≤ s.size)]
    simp only [spec_l13Num.l0, if_neg (show ¬ (s.size : Int) < (s.size : Int) by omega), w64 (show -9223372036854775808 ≤ -(v : Int) by omega) (by omega)]
    cases neg with
    | true => exact Ev.now _
    | false => exact Ev.now _
  · intro i hi ih v hv
    have hp : 10 ^ (i + 1) ≤ 10 ^ 17 := Nat.pow_le_pow_right (by omega) (by omega)
    rw [Nat.pow_succ] at hp
    have hd : s.data.toList.drop i = s[i] :: s.data.toList.drop (i + 1) := List.drop_eq_getElem_cons (by simpa using hi)
    refine Ev.step (fun k => rfl) ?_
    rw [hd]
    unfold decs
    simp only [spec_l13Num.l0, if_pos (ltc hi), if_pos (nnc i), bt_nat hi]
    by_cases h1 : (s[i].toNat : Int) < 48
    · simp only [if_pos h1]
      rw [if_neg (by omega)]
      exact Ev.now _
    · simp only [if_neg h1]
      by_cases h2 : (s[i].toNat : Int) > 57
      · simp only [if_pos h2]
        rw [if_neg (by omega)]
        exact Ev.now _
      · have e : wrap64 (wrap64 ((v : Int) * 10) + ((s[i].toNat : Int) - 48) % 256) = ((v * 10 + (s[i].toNat - 48) : Nat) : Int) := by
          rw [w64 (show -9223372036854775808 ≤ (v : Int) * 10 by omega) (by omega), w64 (by omega) (by omega)]
          omega
        simp only [if_neg h2, e, w64n (show i < 9223372036854775807 by omega)]
        rw [if_pos (by omega)]
        exact ih _ (by rw [Nat.pow_succ]; omega)
theorem ext_tail (s : ByteArray) : (s.extract 1 s.size).data.toList = s.data.toList.tail := by
  rw [ByteArray.data_extract, Array.toList_extract]
  simp only [List.extract, List.drop_one]
  exact List.take_of_length_le (by simp)
theorem l13Num_j1 (s : ByteArray) (neg : Bool) : Ev (fun k => spec_l13Num.j1 k s neg) (if s.data.toList = [] ∨ 17 < s.data.toList.length ∨ (s.data.toList.head? = some 48 ∧ (1 < s.data.toList.length ∨ neg = true)) then (0, false) else signd neg (decs 0 s.data.toList)) := by
  have hl : s.data.toList.length = s.size := by simp
  have hbad : Ev (fun k => spec_l13Num.j2 k s neg true) (0, false) := by
    refine Ev.step (fun k => rfl) ?_
    simp only [spec_l13Num.j2, if_true]
    exact Ev.now _
  have hgood : s.size ≤ 17 → Ev (fun k => spec_l13Num.j2 k s neg false) (signd neg (decs 0 s.data.toList)) := fun hs => by
    refine Ev.step (fun k => rfl) ?_
    simp only [spec_l13Num.j2, Bool.false_eq_true, if_false]
    have := l13Num_l0 s neg hs 0 (by omega) 0 (by omega)
    simpa only [cast0, List.drop_zero] using this
  refine Ev.step (fun k => rfl) ?_
  simp only [spec_l13Num.j1]
  by_cases h0 : (s.size : Int) = 0
  · simp only [if_pos h0]
    rw [if_pos (.inl (List.eq_nil_of_length_eq_zero (by omega)))]
    exact hbad
  have hne : s.data.toList ≠ [] := fun h => by
    rw [h] at hl
    simp only [List.length_nil] at hl
    omega
  simp only [if_neg h0]
  by_cases h1 : (s.size : Int) > 17
  · simp only [if_pos h1]
    rw [if_pos (.inr (.inl (by omega)))]
    exact hbad
  have hpos : 0 < s.size := by omega
  have hh : s.data.toList.head? = some s[0] := by
    have : s.data.toList.drop 0 = s[0] :: s.data.toList.drop 1 := List.drop_eq_getElem_cons (by simpa using hpos)
    rw [List.drop_zero] at this
    rw [this]
    rfl
  have hb := bt_nat hpos
  rw [cast0] at hb
  simp only [if_neg h1, if_pos (show 0 < (s.size : Int) by omega), hb]
  have h48 : ((s[0].toNat : Int) = 48) ↔ s[0] = 48 := byte_is _ 48 (by decide)
  by_cases h2 : (s[0].toNat : Int) = 48
  · have e48 : s.data.toList.head? = some 48 := by rw [hh, h48.1 h2]
    simp only [if_pos h2]
    by_cases h3 : (s.size : Int) > 1
    · simp only [if_pos h3]
      rw [if_pos (.inr (.inr ⟨e48, .inl (by omega)⟩))]
      exact hbad
    · simp only [if_neg h3]
      cases neg with
      | true =>
        rw [if_pos (.inr (.inr ⟨e48, .inr rfl⟩))]
        exact hbad
      | false =>
        rw [if_neg]
        · exact hgood (by omega)
        · rintro (h | h | ⟨_, h | h⟩)
          · exact hne h
          · omega
          · omega
          · cases h
  · simp only [if_neg h2]
    rw [if_neg]
    · exact hgood (by omega)
    · rintro (h | h | ⟨h, _⟩)
      · exact hne h
      · omega
      · rw [hh] at h
        exact h2 (h48.2 (Option.some.inj h))
theorem numS_eq (l : List UInt8) (neg : Bool) (r : List UInt8) (hn : (l.head? == some 45) = neg) (hr : (if neg = true then l.tail else l) = r) : numS l = (if r = [] ∨ 17 < r.length ∨ (r.head? = some 48 ∧ (1 < r.length ∨ neg = true)) then (0, false) else signd neg (decs 0 r)) := by
  subst hn
  subst hr
  unfold numS signd
  rfl
theorem spec_l13Num_ev (s : ByteArray) : Ev (fun k => spec_l13Num.f k s) (numS s.data.toList) := by
  have hl : s.data.toList.length = s.size := by simp
  simp only [spec_l13Num.f]
  by_cases h0 : (s.size : Int) > 0
  · have hpos : 0 < s.size := by omega
    have hh : s.data.toList.head? = some s[0] := by
      have : s.data.toList.drop 0 = s[0] :: s.data.toList.drop 1 := List.drop_eq_getElem_cons (by simpa using hpos)
      rw [List.drop_zero] at this
      rw [this]
      rfl
    have hb := bt_nat hpos
    rw [cast0] at hb
    have h45 : ((s[0].toNat : Int) = 45) ↔ s[0] = 45 := byte_is _ 45 (by decide)
    simp only [if_pos h0, if_pos (show 0 < (s.size : Int) by omega), hb]
    by_cases h : s[0] = 45
    · have e : ((s[0].toNat : Int) == 45) = true := beq_iff_eq.2 (h45.2 h)
      rw [e, numS_eq s.data.toList true (s.extract 1 s.size).data.toList (by rw [hh, h]; rfl) (by rw [if_pos rfl, ext_tail])]
      refine Ev.step (fun k => rfl) ?_
      simp only [spec_l13Num.j0, if_true, if_pos (show 1 ≤ (s.size : Int) by omega)]
      have := l13Num_j1 (s.extract 1 s.size) true
      simpa only [if_true] using this
    · have e : ((s[0].toNat : Int) == 45) = false := beq_eq_false_iff_ne.2 fun q => h (h45.1 q)
      rw [e, numS_eq s.data.toList false s.data.toList (by rw [hh]; simpa using h) (by rw [if_neg (by simp)])]
      refine Ev.step (fun k => rfl) ?_
      simp only [spec_l13Num.j0, Bool.false_eq_true, if_false]
      have := l13Num_j1 s false
      simpa only [Bool.false_eq_true] using this
  · simp only [if_neg h0]
    have hnil : s.data.toList = [] := List.eq_nil_of_length_eq_zero (by omega)
    rw [numS_eq s.data.toList false s.data.toList (by rw [hnil]; rfl) (by rw [if_neg (by simp)])]
    refine Ev.step (fun k => rfl) ?_
    simp only [spec_l13Num.j0, Bool.false_eq_true, if_false]
    have := l13Num_j1 s false
    simpa only [Bool.false_eq_true] using this
theorem spec_l1In_eq (a b c : Int) : spec_l1In.f a b c = some (decide (b ≤ a ∧ a ≤ c)) := by
  unfold spec_l1In.f
  split <;> simp <;> omega
theorem spec_ParseCost_ev (s : ByteArray) : Ev (fun k => spec_ParseCost.f k s) (pcost s.data.toList) := by
  simp only [spec_ParseCost.f]
  refine Ev.bind (spec_l13Num_ev s) ?_
  rw [← numS_cost, show s.toList = s.data.toList from ByteArray.toList_eq s]
  by_cases c : s.data.toList = [45]
  · simp only [if_pos c]
    exact Ev.now _
  · simp only [if_neg c]
    cases h : (numS s.data.toList).2 with
    | false =>
      simp only [Bool.false_eq_true, false_and, if_false]
      exact Ev.now _
    | true =>
      simp only [true_and, if_true, spec_l1In_eq, Option.bind_some]
      by_cases d : 0 ≤ (numS s.data.toList).1 ∧ (numS s.data.toList).1 ≤ 999999
      · rw [if_pos d, if_pos (by simpa using d)]
        exact Ev.now _
      · rw [if_neg d, if_neg (by simpa using d)]
        exact Ev.now _
theorem FnExactParseCost : laws_FnExactParseCost.Pure := by
  intro s hs
  refine Ev.rounds ?_
  simp only [laws_FnExactParseCost.f]
  by_cases h : (s.size : Int) > 1048576
  · simp only [if_pos h]
    exact Ev.now _
  · simp only [if_neg h]
    refine Ev.bind (spec_ParseCost_ev s) ?_
    simp only [impl_ParseCost_eq hs, Option.bind_some, bne_self_eq_false, Bool.false_eq_true, if_false, if_true]
    exact Ev.now _

end Go.Proofs.YtmnfbnpclanafaaDoor.Pure
