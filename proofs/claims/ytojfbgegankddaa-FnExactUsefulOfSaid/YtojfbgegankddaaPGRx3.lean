-- Written by a program (wip/myprint.py): the machine side of one law: each function that it reaches, as a plain function, and the proof that a call comes to just that.
import Derived.Test.YtojfbgegankddaaPGRx0
import Derived.Test.YtojfbgegankddaaPGRx2
namespace Go.Proofs.Ytojfbgegankddaa.PGR
open Go.RowKit Go.Proofs.YtojfbgegankddaaW.PrintWords Go.Proofs.YtojfbgegankddaaW.PrintLast Go.Proofs.YtojfbgegankddaaW.PrintMore
attribute [local go_sem] max2_int min2_int max_two min_two max_three min_three max_four min_four   -- for this text's walks alone
set_option linter.unusedVariables false
set_option linter.unusedSimpArgs false

/-! ### slices_SortFunc_Step_at_impl_stepOrder: function 200000 -/
theorem so_cmp_bytes : ∀ a b : List UInt8, Lib.compareBytes a b = if a = b then 0 else if Op.bytesLess a b then -1 else 1
  | [], [] => by simp [Lib.compareBytes]
  | [], _ :: _ => by simp [Lib.compareBytes, Op.bytesLess]
  | _ :: _, [] => by simp [Lib.compareBytes, Op.bytesLess]
  | x :: a, y :: b => by
    have ih := so_cmp_bytes a b
    simp only [Lib.compareBytes, Op.bytesLess]
    by_cases h1 : x < y
    · have hne : x ≠ y := fun e => by subst e; exact absurd h1 (UInt8.lt_irrefl x)
      simp [h1, hne]
    · by_cases h2 : y < x
      · have hne : x ≠ y := fun e => by subst e; exact absurd h2 (UInt8.lt_irrefl x)
        simp [h1, h2, hne]
      · have e : x = y := UInt8.le_antisymm (UInt8.not_lt.1 h2) (UInt8.not_lt.1 h1)
        subst e
        simp [h1, ih]
def so_cmpI (a b : Int) : Int := if a < b then -1 else if b < a then 1 else 0
theorem so_cmp_Compare_eq (a b : Int) : cmp_Compare_int.f a b = some (so_cmpI a b) := by
  simp only [cmp_Compare_int.f, cmp_isNaN_int.f, Option.bind_some, bne_self_eq_false, Bool.false_eq_true, if_false, so_cmpI]
  split
  · rfl
  · split <;> rfl
def so_ordS (s t : S32) : Int := if so_cmpI s.f0 t.f0 ≠ 0 then so_cmpI s.f0 t.f0 else if Lib.compareBytes s.f1.data.toList t.f1.data.toList ≠ 0 then Lib.compareBytes s.f1.data.toList t.f1.data.toList else so_cmpI s.f2 t.f2
/-- One step is in front of another one. -/
def so_sLt (s t : S32) : Bool := if s.f0 = t.f0 then (if s.f1.toList = t.f1.toList then decide (s.f2 < t.f2) else Op.bytesLess s.f1.toList t.f1.toList) else decide (s.f0 < t.f0)
theorem so_ordS_lt (s t : S32) : (so_ordS s t < 0) = (so_sLt s t = true) := by
  simp only [so_ordS, so_sLt, so_cmp_bytes, so_cmpI, Go.Lib.toList_data]
  by_cases h0 : s.f0 = t.f0
  · rw [h0]
    simp only [Int.lt_irrefl, if_false, ne_eq, not_true_eq_false, if_true]
    by_cases h1 : s.f1.data.toList = t.f1.data.toList
    · simp only [if_pos h1, not_true_eq_false, if_false, decide_eq_true_eq]
      apply propext
      constructor
      · intro h
        split at h
        · assumption
        · split at h <;> omega
      · intro h
        rw [if_pos h]
        omega
    · simp only [if_neg h1]
      cases hb : Op.bytesLess s.f1.data.toList t.f1.data.toList <;> simp
  · simp only [if_neg h0]
    by_cases h1 : s.f0 < t.f0
    · simp [h1]
    · simp [h1, show t.f0 < s.f0 by omega]
theorem so_bl_irr : ∀ l, Op.bytesLess l l = false
  | [] => rfl
  | a :: x => by
    unfold Op.bytesLess
    simp [so_bl_irr x]
theorem so_bl_cons (a b : UInt8) (x y : List UInt8) : Op.bytesLess (a :: x) (b :: y) = true ↔ a.toNat < b.toNat ∨ (a = b ∧ Op.bytesLess x y = true) := by
  rw [show Op.bytesLess (a :: x) (b :: y) = (decide (a < b) || (a == b && Op.bytesLess x y)) from rfl]
  simp [UInt8.lt_iff_toNat_lt]
theorem so_bl_trans : ∀ x y z, Op.bytesLess x y = true → Op.bytesLess y z = true → Op.bytesLess x z = true
  | _, [], _, h, _ => by simp [Op.bytesLess] at h
  | _, _ :: _, [], _, h => by simp [Op.bytesLess] at h
  | [], _ :: _, _ :: _, _, _ => rfl
  | a :: x, b :: y, c :: z, h, k => by
    rw [so_bl_cons] at h k ⊢
    rcases h with h | ⟨rfl, h⟩
    · rcases k with k | ⟨rfl, k⟩
      · exact .inl (by omega)
      · exact .inl h
    · rcases k with k | ⟨rfl, k⟩
      · exact .inl k
      · exact .inr ⟨rfl, so_bl_trans x y z h k⟩
theorem so_bl_tri : ∀ x y, x = y ∨ Op.bytesLess x y = true ∨ Op.bytesLess y x = true
  | [], [] => .inl rfl
  | [], _ :: _ => .inr (.inl rfl)
  | _ :: _, [] => .inr (.inr rfl)
  | a :: x, b :: y => by
    rw [so_bl_cons, so_bl_cons]
    rcases Nat.lt_trichotomy a.toNat b.toNat with h | h | h
    · exact .inr (.inl (.inl h))
    · have e : a = b := UInt8.toNat_inj.1 h
      subst e
      rcases so_bl_tri x y with h | h | h
      · exact .inl (by rw [h])
      · exact .inr (.inl (.inr ⟨rfl, h⟩))
      · exact .inr (.inr (.inr ⟨rfl, h⟩))
    · exact .inr (.inr (.inl h))
/-- What two steps are told apart by. -/
def so_sameKey (s t : S32) : Prop := s.f0 = t.f0 ∧ s.f1.toList = t.f1.toList ∧ s.f2 = t.f2
theorem so_sLt_iff (s t : S32) : so_sLt s t = true ↔ s.f0 < t.f0 ∨ (s.f0 = t.f0 ∧ (Op.bytesLess s.f1.toList t.f1.toList = true ∨ (s.f1.toList = t.f1.toList ∧ s.f2 < t.f2))) := by
  unfold so_sLt
  by_cases h0 : s.f0 = t.f0
  · rw [if_pos h0]
    by_cases h1 : s.f1.toList = t.f1.toList
    · rw [if_pos h1, h1, so_bl_irr, decide_eq_true_iff]
      simp [h0]
    · rw [if_neg h1]
      simp [h0, h1]
  · rw [if_neg h0, decide_eq_true_iff]
    simp [h0]
theorem so_sLt_irr (s : S32) : so_sLt s s = false := by
  rw [Bool.eq_false_iff, ne_eq, so_sLt_iff, so_bl_irr]
  simp
theorem so_sLt_trans (s t u : S32) (h : so_sLt s t = true) (k : so_sLt t u = true) : so_sLt s u = true := by
  rw [so_sLt_iff] at h k ⊢
  rcases h with h | ⟨e, h⟩
  · rcases k with k | ⟨e', k⟩
    · exact .inl (by omega)
    · exact .inl (by omega)
  · rcases k with k | ⟨e', k⟩
    · exact .inl (by omega)
    · refine .inr ⟨e.trans e', ?_⟩
      rcases h with h | ⟨f, h⟩
      · rcases k with k | ⟨f', k⟩
        · exact .inl (so_bl_trans _ _ _ h k)
        · exact .inl (f' ▸ h)
      · rcases k with k | ⟨f', k⟩
        · exact .inl (f ▸ k)
        · exact .inr ⟨f.trans f', by omega⟩
theorem so_sLt_tri (s t : S32) : so_sameKey s t ∨ so_sLt s t = true ∨ so_sLt t s = true := by
  rw [so_sLt_iff, so_sLt_iff]
  rcases Int.lt_trichotomy s.f0 t.f0 with h | h | h
  · exact .inr (.inl (.inl h))
  · rcases so_bl_tri s.f1.toList t.f1.toList with k | k | k
    · rcases Int.lt_trichotomy s.f2 t.f2 with j | j | j
      · exact .inr (.inl (.inr ⟨h, .inr ⟨k, j⟩⟩))
      · exact .inl ⟨h, k, j⟩
      · exact .inr (.inr (.inr ⟨h.symm, .inr ⟨k.symm, j⟩⟩))
    · exact .inr (.inl (.inr ⟨h, .inl k⟩))
    · exact .inr (.inr (.inr ⟨h.symm, .inl k⟩))
  · exact .inr (.inr (.inl h))
theorem so_sLt_same {s t u v : S32} (h : so_sameKey s t) (k : so_sameKey u v) : so_sLt s u = so_sLt t v := by
  unfold so_sLt
  rw [h.1, h.2.1, h.2.2, k.1, k.2.1, k.2.2]
theorem so_sameKey.symm {s t : S32} (h : so_sameKey s t) : so_sameKey t s := ⟨h.1.symm, h.2.1.symm, h.2.2.symm⟩
theorem so_sLt_swo : Sort.SWO so_sLt where
  irrefl := so_sLt_irr
  trans := so_sLt_trans
  ntrans := fun x y z h k => by
    rcases so_sLt_tri x z with e | e | e
    · rw [so_sLt_same e ⟨rfl, rfl, rfl⟩]
      exact so_sLt_irr z
    · rcases so_sLt_tri x y with f | f | f
      · rw [so_sLt_same f ⟨rfl, rfl, rfl⟩] at e
        rw [e] at k
        cases k
      · rw [f] at h
        cases h
      · have := so_sLt_trans _ _ _ f e
        rw [this] at k
        cases k
    · rw [Bool.eq_false_iff]
      intro f
      have := so_sLt_trans _ _ _ e f
      rw [so_sLt_irr] at this
      cases this
theorem so_or (a b c : Int) : cmp_Or_int.f 9 [a, b, c] = some (if a ≠ 0 then a else if b ≠ 0 then b else c) := by
  simp only [cmp_Or_int.f]
  rw [show cmp_Or_int.l0 9 0 [a, b, c] (([a, b, c] : List Int).length : Int) 0 = _ from rfl]
  simp only [cmp_Or_int.l0, List.length_cons, List.length_nil, show ((0 + 1 + 1 + 1 : Nat) : Int) = 3 from rfl, if_pos (show (0 : Int) < 3 by omega), if_pos (show (0 : Int) ≤ 0 by omega), show rd [a, b, c] 0 = a from rfl, show wrap64 (0 + 1) = 1 by unfold wrap64; omega, if_pos (show (1 : Int) < 3 by omega), if_pos (show (0 : Int) ≤ 1 by omega), show rd [a, b, c] 1 = b from rfl, show wrap64 (1 + 1) = 2 by unfold wrap64; omega, if_pos (show (2 : Int) < 3 by omega), if_pos (show (0 : Int) ≤ 2 by omega), show rd [a, b, c] 2 = c from rfl, show wrap64 (2 + 1) = 3 by unfold wrap64; omega, if_neg (show ¬ (3 : Int) < 3 by omega)]
  by_cases ha : a = 0
  · subst ha
    by_cases hb : b = 0
    · subst hb
      by_cases hc : c = 0
      · subst hc
        simp
      · simp [hc]
    · simp [hb]
  · simp [ha]
theorem so_val (s t : S32) : impl_stepOrder.f 9 s.f0 s.f1 s.f2 s.f3 t.f0 t.f1 t.f2 t.f3 = some (so_ordS s t) := by
  simp only [impl_stepOrder.f, so_cmp_Compare_eq, strings_Compare.f, Option.bind_some, so_or]
  rfl
theorem so_ltOf : Go.Proofs.ltOf so_ordS = so_sLt := by
  funext s t
  have h := so_ordS_lt s t
  unfold Go.Proofs.ltOf
  rw [show decide (so_ordS s t < 0) = decide (so_sLt s t = true) by simp only [h]]
  cases so_sLt s t <;> rfl
theorem so_swo : Sort.SWO (Go.Proofs.ltOf so_ordS) := by
  rw [so_ltOf]
  exact so_sLt_swo
theorem so_dn {a : Nat} {W : World} (h : a ≤ W.drawn) (n : Nat) : a ≤ (W.drewN n).drawn := Nat.le_trans h (by show W.drawn ≤ W.drawn + n; omega)
section
variable {P : Program} {ops : Array Oper} {Q : Exit → Act → World → Prop} {rest : List Oper} {o : Oper} {a : Act} {W : World}
theorem so_be {cs : Array Value} {t : TypeId} (h : ∀ g, g = W.heap.size → ∀ w1, w1.heap[g]? = some (.cells cs t (0, 0)) → Below W.heap.size W w1 → w1.drawn = W.drawn → wpList P ops Q rest (a.put o.dst (.pointer (some ⟨g, 0, none⟩))) w1)
    (hgd : o.guard = none := by rfl) (hrun : (execOp a.eval o).run P W = .ok (.value (.pointer (some ⟨W.heap.size, 0, none⟩))) (W.alloc (.cells cs t (0, 0))) := by first | (go_simp; done) | (go_simp; rfl)) : wpList P ops Q (o :: rest) a W :=
  Kd.event_run hgd hrun (h _ rfl _ (blk_new W _) (below_alloc (Below.refl _ _) _) rfl)
variable {Kc : Act → World → Prop} {α : Type}
theorem so_lit (d : Kd α) {w0 W : World} (base e : Nat) (hw : Region.wanted o (yielded ops a.tmps) = true) {N : Tmp} (_hd : o.dst = some N) {xs : List α} {inner : List Value} {ok okp : Nat → Prop}
    (hrun : (execOp a.eval o).run P W = .ok (.value (.slice (some ⟨W.heap.size, 0, none⟩) xs.length xs.length)) (W.alloc (.cells inner.toArray e)))
    (hrep : Reps (d.M W base okp) d.sz xs inner) (hok : ∀ k, okp k → ok k) (hfresh : ok W.heap.size) (HB : Below base w0 W) (hbase : base ≤ W.heap.size) (hm : xs.length ≤ 9223372036854775807)
    (h : ∀ v1 w1, d.R e w1 base ok v1 xs → Below base w0 w1 → W.grownBy w1 none → (∃ b, v1.ownBlock = some b ∧ W.heap.size ≤ b) → w1.drawn = W.drawn → Kc (a.put o.dst v1) w1) : if Region.wanted o (yielded ops a.tmps) = true then Oper.wp P o a W Kc Q else Kc (a.put o.dst undef) W := by
  refine event_step hw hrun (h _ _ ⟨fun k hk => ?_, inner, ?_, ?_⟩ (HB.alloc hbase _) (World.grownBy_alloc W _ none) ⟨W.heap.size, by simp [Value.ownBlock], Nat.le_refl _⟩ rfl)
  · have : W.heap.size = k := by simpa [Value.ownBlock] using hk
    subst this
    exact hfresh
  · have h2 := World.ownsRow_lit (base := base) (e := e) (size := d.sz) W inner.toArray xs.length hbase (by simpa [maxLen] using hm) (by simpa using hrep.1)
    simpa using h2
  · refine hrep.imp_ (fun p c hp => d.M_mono (fun k hk => ⟨hok k hk.1, fun he => ?_⟩) (Kd.M_below (d.M_bound hp) (below_alloc (Below.refl _ _) _)))
    have h3 : k = W.heap.size := by simpa [Value.ownBlock] using he
    have := hk.2.2.1
    omega
end
set_option maxHeartbeats 8000000 in
set_option maxRecDepth 100000 in
theorem so_order (k : Nat) (a0_0 : Int) (a0_1 : ByteArray) (a0_2 : Int) (a0_3 : Int) (a1_0 : Int) (a1_1 : ByteArray) (a1_2 : Int) (a1_3 : Int) (r : Int) (w : World) (h : impl_stepOrder.f k a0_0 a0_1 a0_2 a0_3 a1_0 a1_1 a1_2 a1_3 = some r) :
  Calls Try.prog 61 #[.agg #[.int .i64 a0_0, .string a0_1, .int .i64 a0_2, .int .i64 a0_3], .agg #[.int .i64 a1_0, .string a1_1, .int .i64 a1_2, .int .i64 a1_3]] w fun e w' => e = .returned (.int .i64 r) ∧ Below w.heap.size w w' ∧ w.drawn ≤ w'.drawn := by
 have hu32 := Try.underlying32; have HB := am (Below.refl w.heap.size w); have HE := am (Nat.le_refl w.drawn); have H : ((cmp_Compare_int.f a0_0 a1_0).bind fun t430 => ((strings_Compare.f a0_1 a1_1).bind fun t431 => ((cmp_Compare_int.f a0_2 a1_2).bind fun t432 => ((cmp_Or_int.f k (([t430, t431, t432] : List Int))).bind fun t436 => (some t436))))) = some r := h; clear h; replace H := Option.bind_eq_some_iff.mp H; obtain ⟨t430, A30, H⟩ := H; (try dsimp only at H); have A3 := am A30; clear A30; replace H := Option.bind_eq_some_iff.mp H; obtain ⟨t431, A40, H⟩ := H; (try dsimp only at H); have A4 := am A40; clear A40; replace H := Option.bind_eq_some_iff.mp H; obtain ⟨t432, A50, H⟩ := H; (try dsimp only at H); have A5 := am A50; clear A50; obtain ⟨y433, hy433⟩ : ∃ y_ : List Int, y_ = (([t430, t431, t432] : List Int)) := ⟨_, rfl⟩
 replace H : ((cmp_Or_int.f k y433).bind fun t436 => (some t436)) = some r := by first | (rw [hy433]; with_reducible exact H) | (have H2_ := (Option.bind_some _ _).symm.trans H; rw [hy433]; with_reducible exact H2_) | (have H2_ := (Option.bind_some _ _).symm.trans H; with_reducible exact H2_) | with_reducible exact H | (rw [hy433]; exact H) | exact H
 have Ny433 := am hy433; clear hy433; replace H := Option.bind_eq_some_iff.mp H; obtain ⟨t436, A60, H⟩ := H; (try dsimp only at H); have A6 := am A60; clear A60; obtain rfl := Option.some.inj H; go_enter Try.func61, Try.ntmps61; (try go_wp2_with (first | ((with_reducible refine gx 2 rfl ?_); refine so_be (cs := #[.int .i64 a0_0, .string a0_1, .int .i64 a0_2, .int .i64 a0_3]) (t := 32) ?_; intro gb428 hg w7 hbox hb hE_; replace HE := am (Nat.le_trans HE.out (Nat.le_of_eq hE_.symm)); clear hE_; have n0_ := hs HB hb; have n1_ := am (hbox); have n2_ := gs hg (bz HB.out); have n3_ := gs hg (bz HB.out); clear HB; revert n0_ n1_ n2_ n3_; intro HB BK428 GW428 GE428; clear hb hbox hg) | ((with_reducible refine gx 3 rfl ?_); refine so_be (cs := #[.int .i64 a1_0, .string a1_1, .int .i64 a1_2, .int .i64 a1_3]) (t := 32) ?_; intro gb429 hg w8 hbox hb hE_; replace HE := am (Nat.le_trans HE.out (Nat.le_of_eq hE_.symm)); clear hE_; have n0_ := bk BK428 hb; have n1_ := hs HB hb; have n2_ := am (hbox); have n3_ := gs hg (bw HB.out); have n4_ := gs hg (bw HB.out); have n5_ := nl hg (kz BK428.out); have n6_ := nr hg (kz BK428.out); clear BK428 HB; revert n0_ n1_ n2_ n3_ n4_ n5_ n6_; intro BK428 HB BK429 GW429 GE429 NB428_429 NB429_428; clear hb hbox hg))); have n0_ := am (blk_drew BK428.out); have n1_ := am (blk_drew BK429.out); have n2_ := am (below_drew1 HB.out); clear BK428 BK429 HB; revert n0_ n1_ n2_; intro BK428 BK429 HB; refine start_ (n := 18) (S := fun w' => w'.cell? ⟨gb428, 0, none⟩ = some (.int .i64 a0_0) ∧ w'.cell? ⟨gb428, 1, none⟩ = some (.string a0_1) ∧ w'.cell? ⟨gb428, 2, none⟩ = some (.int .i64 a0_2) ∧ w'.cell? ⟨gb428, 3, none⟩ = some (.int .i64 a0_3) ∧ w'.cell? ⟨gb429, 0, none⟩ = some (.int .i64 a1_0) ∧ w'.cell? ⟨gb429, 1, none⟩ = some (.string a1_1) ∧ w'.cell? ⟨gb429, 2, none⟩ = some (.int .i64 a1_2) ∧ w'.cell? ⟨gb429, 3, none⟩ = some (.int .i64 a1_3)) (ds := []) (mkp 18 0) (by kernel_rfl) rfl rfl ⟨bl BK428.out 0, bl BK428.out 1, bl BK428.out 2, bl BK428.out 3, bl BK429.out 0, bl BK429.out 1, bl BK429.out 2, bl BK429.out 3⟩ (fun hHeld => ?_); refine with_tabW impl_stepOrder.tab1 impl_stepOrder.bits1 (fun HT_ HW_ => ?_); replace HE := am (show w.drawn ≤ w8.drew.drawn from Nat.le_succ_of_le HE.out); generalize w8.drew = w9 at BK428 BK429 HB hHeld HE ⊢; refine qv HT_ ?_; refine pv 2 7 18 5 HT_ ?_; refine pv 5 10 18 37 HT_ ?_; refine pv 7 12 18 165 HT_ ?_; refine pv 10 15 18 1189 HT_ ?_; refine pv 12 17 18 5285 HT_ ?_; refine tkm 1 6 (mk 18 5287) HT_ HW_ hHeld ?_; refine tkm 3 8 (mk 18 5295) HT_ HW_ hHeld ?_; refine tkm 6 11 (mk 18 5359) HT_ HW_ hHeld ?_; refine tkm 8 13 (mk 18 5615) HT_ HW_ hHeld ?_; refine tkm 11 16 (mk 18 7663) HT_ HW_ hHeld ?_; refine tkm 13 18 (mk 18 15855) HT_ HW_ hHeld ?_; refine on 4 (mk 18 15871) HT_ (fun K hK => ?_); refine gr Try.func86 #[.int .i64 a0_0, .int .i64 a1_0] ?_
 with_reducible refine (cmp_Compare_int.calls a0_0 a1_0 t430 _ A3.out).mono ?_
 rintro e w' ⟨rfl, ⟨nd, rfl⟩⟩; refine ⟨_, rfl, ?_⟩; refine hK.out _ _ ⟨bl BK428.out 0, bl BK428.out 1, bl BK428.out 2, bl BK428.out 3, bl BK429.out 0, bl BK429.out 1, bl BK429.out 2, bl BK429.out 3⟩ (fun hHeld => ?_); clear hK K; refine norm_ (a' := ?_) ?_ ?_; rotate_left
 ·show Act.put _ (some 9) _ = _; simp only [Act.put, List.setIfInBounds_toArray, List.set_cons_zero, List.set_cons_succ, i64_w, i32_w]; rfl
 refine on 9 (mkp 18 14) HT_ (fun K hK => ?_); refine gr Try.func87 #[.string a0_1, .string a1_1] ?_
 with_reducible refine (strings_Compare.calls a0_1 a1_1 t431 _ A4.out).mono ?_
 rintro e w' ⟨rfl, ⟨nd, rfl⟩⟩; refine ⟨_, rfl, ?_⟩; refine hK.out _ _ ⟨bl BK428.out 0, bl BK428.out 1, bl BK428.out 2, bl BK428.out 3, bl BK429.out 0, bl BK429.out 1, bl BK429.out 2, bl BK429.out 3⟩ (fun hHeld => ?_); clear hK K; refine norm_ (a' := ?_) ?_ ?_; rotate_left
 ·show Act.put _ (some 14) _ = _; simp only [Act.put, List.setIfInBounds_toArray, List.set_cons_zero, List.set_cons_succ, i64_w, i32_w]; rfl
 refine on 14 (mkp 18 15) HT_ (fun K hK => ?_); refine gr Try.func86 #[.int .i64 a0_2, .int .i64 a1_2] ?_
 with_reducible refine (cmp_Compare_int.calls a0_2 a1_2 t432 _ A5.out).mono ?_
 rintro e w' ⟨rfl, ⟨nd, rfl⟩⟩; refine ⟨_, rfl, ?_⟩; refine hK.out _ _ ⟨bl BK428.out 0, bl BK428.out 1, bl BK428.out 2, bl BK428.out 3, bl BK429.out 0, bl BK429.out 1, bl BK429.out 2, bl BK429.out 3⟩ (fun hHeld => ?_); clear hK K; refine norm_ (a' := ?_) ?_ ?_; rotate_left
 ·show Act.put _ (some 19) _ = _; simp only [Act.put, List.setIfInBounds_toArray, List.set_cons_zero, List.set_cons_succ, i64_w, i32_w]; rfl
 refine on 15 (mkp 18 16) HT_ (fun K hK => ?_); refine so_lit (Kd.int .i64) _ 3 ?hg (N := 20) ?hd (xs := ([t430, t431, t432] : List Int)) (inner := [.int .i64 t430, .int .i64 t431, .int .i64 t432]) (ok := fun _ => True) (okp := fun _ => True) ?hr ?hp (fun _ hk => hk) trivial (Below.refl _ _) (Nat.le_refl _) (by simp) ?_; (case hd => rfl); (case hg => rfl); (case hr => first | (go_simp; done) | (go_simp; rfl)); (case hp => exact (Reps.one (show Kd.M (Kd.int .i64) _ _ _ t430 [.int .i64 t430] from rfl) (Reps.one (show Kd.M (Kd.int .i64) _ _ _ t431 [.int .i64 t431] from rfl) (Reps.one (show Kd.M (Kd.int .i64) _ _ _ t432 [.int .i64 t432] from rfl) (Reps.none _ _))))); intro v434 w10 ho11 hb hg_ hnew_ hE_; replace HE := am (Nat.le_trans (so_dn (so_dn (so_dn HE.out _) _) _) (Nat.le_of_eq hE_.symm)); clear hg_ hnew_ hE_; (first | rw [← Ny433.out] at ho11 | (simp only [Int.reduceToNat] at ho11; rw [← Ny433.out] at ho11)); have n0_ := am (Kd.R_lower ho11 (below_size (bw HB.out))); have n1_ := bk BK428 hb; have n2_ := bk BK429 hb; have n3_ := hs HB hb; clear BK428 BK429 HB; revert n0_ n1_ n2_ n3_; intro HO435 BK428 BK429 HB; clear hb ho11; obtain ⟨Ao12, co12, eo12⟩ := Kd.R_slice HO435.out; (first | subst eo12 | (injection eo12 with f1_ f2_ f3_; have f4_ := f1_.symm; have f5_ := f3_.symm; clear f1_ f2_ f3_; subst f4_; subst f5_)); refine hK.out _ _ ⟨bl BK428.out 0, bl BK428.out 1, bl BK428.out 2, bl BK428.out 3, bl BK429.out 0, bl BK429.out 1, bl BK429.out 2, bl BK429.out 3⟩ (fun hHeld => ?_); clear hK K; refine norm_ (a' := ?_) ?_ ?_; rotate_left
 ·show Act.put _ (some 20) _ = _; simp only [Act.put, List.setIfInBounds_toArray, List.set_cons_zero, List.set_cons_succ, i64_w, i32_w]; rfl
 refine on 16 (mkp 18 17) HT_ (fun K hK => ?_); refine gr Try.func85 #[.slice Ao12 y433.length co12] ?_
 with_reducible refine (cmp_Or_int.calls k _ _ y433 t436 _ ?side1 ?side2 A6.out).mono ?_
 (case side1 => exact cc ((Kd.R_reads' HO435.out).2.2)); (case side2 => exact (Kd.R_reads' HO435.out).2.1); rintro e w' ⟨rfl, ⟨nd, rfl⟩⟩; refine ⟨_, rfl, ?_⟩; refine hK.out _ _ ⟨bl BK428.out 0, bl BK428.out 1, bl BK428.out 2, bl BK428.out 3, bl BK429.out 0, bl BK429.out 1, bl BK429.out 2, bl BK429.out 3⟩ (fun hHeld => ?_); clear hK K; refine norm_ (a' := ?_) ?_ ?_; rotate_left
 ·show Act.put _ (some 21) _ = _; simp only [Act.put, List.setIfInBounds_toArray, List.set_cons_zero, List.set_cons_succ, i64_w, i32_w]; rfl
 refine qv HT_ ?_; refine done_ (done_of HT_.out (by kernel_rfl)) ?_; (try go_wp2); go_ret; exact ⟨by first | rfl | (simp [*]; done), by exact bw HB.out, so_dn HE.out _⟩
instance : Inhabited S32 := ⟨z32⟩
def so_enc (x : S32) : List Value := [.int .i64 x.f0, .string x.f1, .int .i64 x.f2, .int .i64 x.f3]
theorem so_lays (blk off size : Nat) (w : World) : CmpLays Try.prog 61 #[] so_enc 4 so_ordS blk off size w := fun m os dk _ x y => by
  refine (so_order 9 _ _ _ _ _ _ _ _ _ _ (so_val x y)).mono ?_
  rintro e w' ⟨rfl, hb, hd⟩
  obtain ⟨p, rfl⟩ := regrown_of_below hb
  generalize sortWorldK so_enc 4 w blk off m dk os = W at *
  refine ⟨rfl, p.d - W.drawn, p.os, ?_⟩
  have hd : W.drawn ≤ p.d := hd
  have e : redrawn W p.d = W.drewN (p.d - W.drawn) := by
    show ({ W with drawn := p.d } : World) = { W with drawn := W.drawn + (p.d - W.drawn) }
    rw [Nat.add_sub_cancel' hd]
  rw [e]
/-- Steps, sorted as the library does. -/
def slices_SortFunc_Step_at_impl_stepOrder.srt (l : List S32) : List S32 := (Sort.pdq (Go.Proofs.ltOf so_ordS) l.toArray 0 l.toArray.size (Lib.bitLen l.toArray.size) true true).toList
theorem slices_SortFunc_Step_at_impl_stepOrder.perm (l : List S32) : Sort.PermIn 0 l.toArray.size l.toArray (slices_SortFunc_Step_at_impl_stepOrder.srt l).toArray ∧ Sort.SortedIn (Go.Proofs.ltOf so_ordS) 0 l.toArray.size (slices_SortFunc_Step_at_impl_stepOrder.srt l).toArray := by
  have h := Sort.pdq_sorts (Go.Proofs.ltOf so_ordS) so_swo l.toArray 0 l.toArray.size (Lib.bitLen l.toArray.size) true true (Nat.zero_le _) (Nat.le_refl _) (Or.inl rfl)
  unfold slices_SortFunc_Step_at_impl_stepOrder.srt
  rw [Array.toArray_toList]
  exact h
def slices_SortFunc_Step_at_impl_stepOrder.f (l0 : List S32) : Option (List S32) := if l0.length ≤ 1000 then some (slices_SortFunc_Step_at_impl_stepOrder.srt l0) else none
theorem so_M (w : World) (base : Nat) (ok : Nat → Prop) (x : S32) (cs : List Value) (h : k32.M w base ok x cs) : cs = so_enc x := k32_openM h
theorem so_flat (xs : List S32) (j : Nat) (hj : j < xs.length) (i : Nat) (hi : i < 4) : (Sort.flatK so_enc 4 xs.toArray)[j * 4 + i]! = (so_enc xs[j])[i]! := by
  rw [Sort.get_flatK _ _ _ _ (by simpa using rowl_lt hj hi), show (j * 4 + i) / 4 = j by omega, show (j * 4 + i) % 4 = i by omega, getElem!_pos xs.toArray j (by simpa using hj)]
  rfl
set_option maxHeartbeats 1000000 in
theorem slices_SortFunc_Step_at_impl_stepOrder.calls (P0_ : Nat → Prop) (u9000_ : Value) (l0 : List S32) (r : List S32) (w0 w : World) (hB : Below w0.heap.size w0 w) (ho0 : Kd.R k32 32 w w0.heap.size P0_ u9000_ l0) (h : slices_SortFunc_Step_at_impl_stepOrder.f l0 = some r) :
    Calls Try.prog 72 #[u9000_, .func (.func 61) #[] #[]] w fun e w' => e = .returned (.tuple #[]) ∧ Kd.R k32 32 w' w0.heap.size (fun k_ => (P0_ k_ ∨ w.heap.size ≤ k_)) u9000_ r ∧ Below w0.heap.size w0 w' ∧ Kept w w' (fun k_ => P0_ k_) := by
  unfold slices_SortFunc_Step_at_impl_stepOrder.f at h
  split at h
  · rename_i hl
    obtain rfl := Option.some.inj h
    obtain ⟨A, c, rfl⟩ := Kd.R_slice ho0
    cases A with
    | none =>
      have e : l0 = [] := by
        obtain ⟨_, hr⟩ := Kd.R_reads' ho0
        cases l0 with
        | nil => rfl
        | cons x xs =>
          obtain ⟨ad, e, _⟩ := hr.2.2.2 (by simp)
          cases e
      subst e
      refine (AnyF.slices_SortFunc_none Try.sortStep none c _ w).mono ?_
      rintro e w' ⟨rfl, rfl⟩
      have e0 : slices_SortFunc_Step_at_impl_stepOrder.srt [] = [] := List.eq_nil_of_length_eq_zero (by have := (slices_SortFunc_Step_at_impl_stepOrder.perm []).1.1; simpa using this)
      rw [e0]
      exact ⟨rfl, Kd.R_mono ho0 (fun _ hk => .inl hk), hB, Kept.refl _ _⟩
    | some ad =>
      obtain ⟨g, rfl⟩ : ∃ g, ad = ⟨g, 0, none⟩ := by
        obtain ⟨_, inner, ho, _⟩ := ho0
        rcases ho.2 with ⟨he, _⟩ | ⟨g, cap, cur, he, _⟩
        · cases he
        · injection he with h1
          injection h1 with h1
          exact ⟨g, h1⟩
      obtain ⟨cur, hP, hbase, _, _, _, hh, _, _⟩ := rowl_parts ho0
      have hg : g < w.heap.size := (Array.getElem?_eq_some_iff.1 hh).1
      have hH : Sort.HoldsK so_enc 4 w g 0 l0.toArray := fun t ht => by
        have ht' : t < l0.length * 4 := by simpa using ht
        have hj : t / 4 < l0.length := by omega
        have hc := rowl_cell ho0 so_M (t / 4) hj (t % 4) (Nat.mod_lt _ (by decide))
        rw [show k32.sz = 4 from rfl, show t / 4 * 4 + t % 4 = t by omega] at hc
        have e := so_flat l0 (t / 4) hj (t % 4) (Nat.mod_lt _ (by decide))
        rw [show t / 4 * 4 + t % 4 = t by omega] at e
        rw [Nat.zero_add]
        refine ⟨?_, hc.2⟩
        show _ = some ((Sort.flatK so_enc 4 l0.toArray)[t]!)
        rw [hc.1, e, getElem!_pos (so_enc l0[t / 4]) (t % 4) (by show t % 4 < 4; omega), List.getElem?_eq_getElem]
      have eg : ∀ args w, (callFunc 61 args).run Try.prog w = .ok (.enter 61 args) w := Go.Proofs.enters_of Try.func61 (by kernel_rfl) rfl
      have hcon := AnyQ.slices_SortFunc_eq Try.sortStep 4 Try.isAgg32 Try.sizeOf32 so_enc (fun _ => rfl) (fun x v hv => by simp [so_enc] at hv; rcases hv with rfl | rfl | rfl | rfl <;> rfl) so_ordS so_swo 61 #[] g 0 c l0.toArray w eg (so_lays g 0 _ w) hH hg (by simp; omega)
      refine (show Calls Try.prog 72 _ w _ from hcon).mono ?_
      rintro e w' ⟨rfl, m, os, rfl⟩
      have hsz : (slices_SortFunc_Step_at_impl_stepOrder.srt l0).length = l0.length := by
        have := (slices_SortFunc_Step_at_impl_stepOrder.perm l0).1.1
        simpa using this
      obtain ⟨hR, hG⟩ := rowl_put ho0 (fun w base ok x => k32_mkM w base ok x) (enc := so_enc) (fun _ => rfl) (by decide) (slices_SortFunc_Step_at_impl_stepOrder.srt l0) hsz m os (Sort.putCells id 0 (Sort.flatK so_enc 4 (slices_SortFunc_Step_at_impl_stepOrder.srt l0).toArray)) (fun c => by simp [Sort.putCells]) (fun c j hj i hi hlt => by
        have hi : i < 4 := hi
        show (Sort.putCells id 0 (Sort.flatK so_enc 4 (slices_SortFunc_Step_at_impl_stepOrder.srt l0).toArray) c)[j * 4 + i]? = _
        have hlt : j * 4 + i < c.size := hlt
        simp only [Sort.putCells, Array.getElem?_mapIdx, Array.getElem?_eq_getElem hlt, Option.map_some]
        rw [if_pos ⟨Nat.zero_le _, by simpa using rowl_lt hj hi⟩, Nat.sub_zero]
        show some ((Sort.flatK so_enc 4 (slices_SortFunc_Step_at_impl_stepOrder.srt l0).toArray)[j * 4 + i]!) = _
        rw [so_flat _ j hj i hi, getElem!_pos (so_enc _) i (by show i < 4; omega), List.getElem?_eq_getElem])
      have e1 : (slices_SortFunc_Step_at_impl_stepOrder.srt l0).toArray = Sort.pdq (Go.Proofs.ltOf so_ordS) l0.toArray 0 l0.toArray.size (Lib.bitLen l0.toArray.size) true true := by unfold slices_SortFunc_Step_at_impl_stepOrder.srt; rw [Array.toArray_toList]
      rw [e1] at hR hG
      refine ⟨rfl, Kd.R_mono hR (fun _ hk => .inl hk), pw_below_grown hB (some g) hB.size hG (fun k hk => by injection hk with hk; subst hk; exact hbase), Kept.of_grown hG (Kept.refl _ _) (fun k hk => by injection hk with hk; subst hk; exact .inl hP)⟩
  · cases h


/-! ### impl_made: function 37 -/
def impl_made.f (k : Nat) (a0 : Int) (l1 : List Int) (l2 : List Int) (l3 : List (S32)) : Option (Int × List Int × List Int × (List (S32)) × Bool) := (slices_Clone_int_int.f l1).bind fun t569 => ((slices_Clone_int_int.f l2).bind fun t572 => ((slices_Clone_Step.f l3).bind fun t575 => ((slices_Sort_int_int.f t569).bind fun t579 => ((slices_Sort_int_int.f t572).bind fun t580 => ((slices_SortFunc_Step_at_impl_stepOrder.f t575).bind fun t581 => ((impl_AutomatonValid.f k a0 t579 t580 t581).bind fun t582 => (if t582 = true then (some (a0, t579, t580, t581, true)) else (some (0, ([] : List Int), ([] : List Int), ([] : List (S32)), false)))))))))
theorem impl_made.mono : ∀ a0 a1 a2 a3 k, LeO (impl_made.f k a0 a1 a2 a3) (impl_made.f (k + 1) a0 a1 a2 a3) := by
 intro a0 a1 a2 a3 k; unfold impl_made.f; repeat' first
   | (with_reducible exact impl_AutomatonValid.mono _ _ _ _ _)
   | (with_reducible exact LeO.refl _)
   | (with_reducible exact LeO.none _)
   | (with_reducible refine LeO.ite ?_ ?_)
   | (with_reducible refine LeO.bind ?_ (fun _ => ?_))
   | exact impl_AutomatonValid.mono _ _ _ _ _
   | exact LeO.none _
   | refine LeO.ite ?_ ?_
   | refine LeO.bind ?_ (fun _ => ?_)
set_option maxHeartbeats 8000000 in
set_option maxRecDepth 100000 in
theorem impl_made.calls (k : Nat) (a0 : Int) (A1 : Option Addr) (c1 : Nat) (l1 : List Int) (A2 : Option Addr) (c2 : Nat) (l2 : List Int) (A3 : Option Addr) (c3 : Nat) (l3 : List (S32)) (r1 : Int) (r2 : List Int) (r3 : List Int) (r4 : List (S32)) (r5 : Bool) (w : World) (hr1 : Kd.C (Kd.int .i64) w A1 l1.length l1) (hc1 : l1.length ≤ c1) (hr2 : Kd.C (Kd.int .i64) w A2 l2.length l2) (hc2 : l2.length ≤ c2) (hr3 : Kd.C k32 w A3 l3.length l3) (hc3 : l3.length ≤ c3) (h : impl_made.f k a0 l1 l2 l3 = some (r1, r2, r3, r4, r5)) :
  Calls Try.prog 37 #[.int .i64 a0, .slice A1 l1.length c1, .slice A2 l2.length c2, .slice A3 l3.length c3] w fun e w' => ∃ v1_ v2_ v3_ : Value, e = .returned (.tuple #[.agg #[.int .i64 r1, v1_, v2_, v3_], .bool r5]) ∧ Kd.R (Kd.int .i64) 3 w' w.heap.size (fun k_ => some k_ ≠ (v2_ : Value).ownBlock) v1_ r2 ∧ Kd.R (Kd.int .i64) 3 w' w.heap.size (fun k_ => some k_ ≠ (v1_ : Value).ownBlock) v2_ r3 ∧ Kd.R k32 32 w' w.heap.size (fun _ => True) v3_ r4 ∧ Below w.heap.size w w' := by
 have hu26 := Try.underlying26; have HR1 := am hr1; have HC1 := am hc1; clear hr1 hc1; have HR2 := am hr2; have HC2 := am hc2; clear hr2 hc2; have HR3 := am hr3; have HC3 := am hc3; clear hr3 hc3; have HB := am (Below.refl w.heap.size w); have H : ((slices_Clone_int_int.f l1).bind fun t569 => ((slices_Clone_int_int.f l2).bind fun t572 => ((slices_Clone_Step.f l3).bind fun t575 => ((slices_Sort_int_int.f t569).bind fun t579 => ((slices_Sort_int_int.f t572).bind fun t580 => ((slices_SortFunc_Step_at_impl_stepOrder.f t575).bind fun t581 => ((impl_AutomatonValid.f k a0 t579 t580 t581).bind fun t582 => (if t582 = true then (some (a0, t579, t580, t581, true)) else (some (0, ([] : List Int), ([] : List Int), ([] : List (S32)), false)))))))))) = some (r1, r2, r3, r4, r5) := h; clear h; replace H := Option.bind_eq_some_iff.mp H; obtain ⟨t569, A50, H⟩ := H; (try dsimp only at H); have A5 := am A50; clear A50; replace H := Option.bind_eq_some_iff.mp H; obtain ⟨t572, A60, H⟩ := H; (try dsimp only at H); have A6 := am A60; clear A60; replace H := Option.bind_eq_some_iff.mp H; obtain ⟨t575, A70, H⟩ := H; (try dsimp only at H); have A7 := am A70; clear A70; replace H := Option.bind_eq_some_iff.mp H; obtain ⟨t579, A80, H⟩ := H; (try dsimp only at H); have A8 := am A80; clear A80; replace H := Option.bind_eq_some_iff.mp H; obtain ⟨t580, A90, H⟩ := H; (try dsimp only at H); have A9 := am A90; clear A90; replace H := Option.bind_eq_some_iff.mp H; obtain ⟨t581, A100, H⟩ := H; (try dsimp only at H); have A10 := am A100; clear A100; replace H := Option.bind_eq_some_iff.mp H; obtain ⟨t582, A110, H⟩ := H; (try dsimp only at H); have A11 := am A110; clear A110; by_cases c12 : t582 = true
 ·subst c12
  have H1 : (some (a0, t579, t580, t581, true)) = some (r1, r2, r3, r4, r5) := by rw [if_pos rfl] at H; exact H
  clear H; have H := H1; clear H1; simp only [Option.some.injEq, Prod.mk.injEq] at H; obtain ⟨rfl, rfl, rfl, rfl, rfl⟩ := H; go_enter Try.func37, Try.ntmps37; go_wp2_with (first | ((with_reducible refine gx 8 rfl ?_); refine be (cs := #[.int .i64 0, .slice none 0 0, .slice none 0 0, .slice none 0 0]) (t := 26) ?_; intro gb568 hg w13 hbox hb; have n0_ := hs HB hb; have n1_ := am (hbox); have n2_ := gs hg (bz HB.out); have n3_ := gs hg (bz HB.out); clear HB; revert n0_ n1_ n2_ n3_; intro HB BK568 GW568 GE568; clear hb hbox hg) | ((with_reducible refine gy 70 rfl ?_); refine gl Try.func70 #[.slice A2 l2.length c2] ?_; (with_reducible refine (slices_Clone_int_int.calls _ _ l2 t572 _ ?side1 ?side2 A6.out).mono ?_); (case side1 => exact cc (Kd.C_below HR2.out HB.out)); (case side2 => exact HC2.out); rintro e w15 ⟨v573, rfl, ho0, hb⟩; refine ⟨_, rfl, ?_⟩; have n0_ := el HO571 (Kd.R_base ho0) hb; have n1_ := am (Kd.R_lower (Kd.R_new' ho0 (Kd.R_lt (rz HO571.out))) (below_size (bw HB.out))); have n2_ := bk BK568 hb; have n3_ := hs HB hb; clear HO571 BK568 HB; revert n0_ n1_ n2_ n3_; intro HO571 HO574 BK568 HB; (try clear hb); (try clear hb2); (try clear hk); (try clear hi); (try clear ho0)) | ((with_reducible refine gy 70 rfl ?_); refine gl Try.func70 #[.slice A1 l1.length c1] ?_; (with_reducible refine (slices_Clone_int_int.calls _ _ l1 t569 _ ?side1 ?side2 A5.out).mono ?_); (case side1 => exact cc (Kd.C_below HR1.out HB.out)); (case side2 => exact HC1.out); rintro e w14 ⟨v570, rfl, ho0, hb⟩; refine ⟨_, rfl, ?_⟩; have n0_ := am (Kd.R_lower ho0 (below_size (bw HB.out))); have n1_ := bk BK568 hb; have n2_ := hs HB hb; clear BK568 HB; revert n0_ n1_ n2_; intro HO571 BK568 HB; (try clear hb); (try clear hb2); (try clear hk); (try clear hi); (try clear ho0)) | ((with_reducible refine gy 39 rfl ?_); refine gl Try.func39 #[.slice A3 l3.length c3] ?_; (with_reducible refine (slices_Clone_Step.calls _ _ l3 t575 _ ?side1 ?side2 A7.out).mono ?_); (case side1 => exact cc (Kd.C_below HR3.out HB.out)); (case side2 => exact HC3.out); rintro e w16 ⟨v576, rfl, ho0, hb⟩; refine ⟨_, rfl, ?_⟩; have n0_ := rb HO571 hb; have n1_ := rb HO574 hb; have n2_ := am (Kd.R_lower ho0 (below_size (bw HB.out))); have n3_ := bk BK568 hb; have n4_ := hs HB hb; clear HO571 HO574 BK568 HB; revert n0_ n1_ n2_ n3_ n4_; intro HO571 HO574 HO577 BK568 HB; (try clear hb); (try clear hb2); (try clear hk); (try clear hi); (try clear ho0); obtain ⟨Ao17, co17, eo17⟩ := Kd.R_slice HO577.out; subst eo17; obtain ⟨Ao18, co18, eo18⟩ := Kd.R_slice HO574.out; subst eo18; obtain ⟨Ao19, co19, eo19⟩ := Kd.R_slice HO571.out; subst eo19) | ((with_reducible refine gx 10 rfl ?_); refine be (cs := #[.int .i64 0, .slice none 0 0, .slice none 0 0, .slice none 0 0]) (t := 26) ?_; intro gb578 hg w20 hbox hb; have n0_ := rb HO571 hb; have n1_ := rb HO574 hb; have n2_ := rb HO577 hb; have n3_ := bk BK568 hb; have n4_ := hs HB hb; have n5_ := am (hbox); have n6_ := gs hg (bw HB.out); have n7_ := gs hg (bw HB.out); have n8_ := nl hg (kz BK568.out); have n9_ := nr hg (kz BK568.out); clear HO571 HO574 HO577 BK568 HB; revert n0_ n1_ n2_ n3_ n4_ n5_ n6_ n7_ n8_ n9_; intro HO571 HO574 HO577 BK568 HB BK578 GW578 GE578 NB568_578 NB578_568; clear hb hbox hg; have hnb21 := NB578_568.out; have hnc21 := NB568_578.out; have hz22 := zf4 BK578.out) | ((with_reducible refine gate_store (t := 26) (p := 10) rfl ?_); refine store_event (t := 26) (p := 10) (v := ?vo_w23) (w1 := ((((w20.setCell ⟨gb578, 0, none⟩ (.int .i64 a0)).setCell ⟨gb578, 1, none⟩ (.slice Ao19 t569.length co19)).setCell ⟨gb578, 2, none⟩ (.slice Ao18 t572.length co18)).setCell ⟨gb578, 3, none⟩ (.slice Ao17 t575.length co17))) ?hg ?ho ?hn ?hr ?_; (case ho => rfl); (case hg => rfl); (case hn => rfl); (case hr => first | (go_simp; done) | (go_simp; rfl)); intro w23 hw; have n0_ : Aside0 (Kd.R (Kd.int .i64) 3 w23 w.heap.size (fun k_ => NS Ao18 t572 co18 k_) (.slice Ao19 t569.length co19) t569) := ⟨(by rw [hw]; exact (rq (Kd.R_mono (q4 HO571.out BK578.out (by decide)) (fun _ hk => hk.2))))⟩; have n1_ : Aside0 (Kd.R (Kd.int .i64) 3 w23 w.heap.size (fun k_ => NS Ao19 t569 co19 k_) (.slice Ao18 t572.length co18) t572) := ⟨(by rw [hw]; exact (rq (Kd.R_mono (q4 HO574.out BK578.out (by decide)) (fun _ hk => hk.2))))⟩; have n2_ : Aside0 (Kd.R k32 32 w23 w.heap.size (fun _ => True) (.slice Ao17 t575.length co17) t575) := ⟨(by rw [hw]; exact (rq (Kd.R_mono (q4 HO577.out BK578.out (by decide)) (fun _ hk => trivial))))⟩; have n3_ : Aside0 (w23.heap[gb568]? = some (.cells #[.int .i64 0, .slice none 0 0, .slice none 0 0, .slice none 0 0] 26 (0, 0))) := ⟨(by rw [hw]; exact (kf BK568.out))⟩; have n4_ : Aside0 (w23.heap[gb578]? = some (.cells #[.int .i64 a0, .slice Ao19 t569.length co19, .slice Ao18 t572.length co18, .slice Ao17 t575.length co17] 26 (0, 0))) := ⟨(by rw [hw]; exact (kp BK578.out))⟩; have n5_ : Aside0 (Below w.heap.size w w23) := ⟨(by rw [hw]; exact (bw HB.out))⟩; clear hw HO571 HO574 HO577 BK568 BK578 HB; revert n0_ n1_ n2_ n3_ n4_ n5_; intro HO571 HO574 HO577 BK568 BK578 HB; have hz24 := zf4 BK578.out) | ((with_reducible refine gy 71 rfl ?_); refine gl Try.func71 #[.slice Ao18 t572.length co18] ?_; (with_reducible refine (slices_Sort_int_int.calls (fun k_ => some k_ = (.slice Ao18 t572.length co18 : Value).ownBlock) (.slice Ao18 t572.length co18) t572 t580 w _ ?side1 ?side2 A9.out).mono ?_); (case side1 => exact bw HB.out); (case side2 => exact Kd.R_tight rfl HO574.out); rintro e w27 ⟨rfl, hy0, hb, hkp⟩; refine ⟨_, rfl, ?_⟩; have n0_ := am (blk_kept (kz BK568.out) hkp (fun hs_ => (fun e_ => (Kd.R_ne HO574.out BK568.out (by decide)) e_) hs_)); have n1_ := am (Kd.R_mono (ok' := fun k_ => NS Ao18 t572 co18 k_) (Kd.R_keptB (HO571.out) hkp (fun k_ hk_ hs_ => (hk_) hs_)) (fun k_ hk_ => hk_.1)); have n2_ := am (Kd.R_reok rfl hy0 (fun k_ e_ => HO574.out.1 k_ e_)); have n3_ := am (Kd.R_mono (ok' := fun k_ => True) (Kd.R_keptB ((Kd.R_apart' HO577.out (Kd.R_typed HO574.out) (by decide))) hkp (fun k_ hk_ hs_ => (hk_.2) hs_)) (fun k_ hk_ => trivial)); have n4_ := am (blk_kept (kz BK578.out) hkp (fun hs_ => (fun e_ => (Kd.R_ne HO574.out BK578.out (by decide)) e_) hs_)); have n5_ := am (hb); clear BK568 HO571 HO574 HO577 BK578 HB; revert n0_ n1_ n2_ n3_ n4_ n5_; intro BK568 HO571 HO574 HO577 BK578 HB; (try clear hb); (try clear hkp); (try clear hy0); have hz28 := zf4 BK578.out) | ((with_reducible refine gy 71 rfl ?_); refine gl Try.func71 #[.slice Ao19 t569.length co19] ?_; (with_reducible refine (slices_Sort_int_int.calls (fun k_ => some k_ = (.slice Ao19 t569.length co19 : Value).ownBlock) (.slice Ao19 t569.length co19) t569 t579 w _ ?side1 ?side2 A8.out).mono ?_); (case side1 => exact bw HB.out); (case side2 => exact Kd.R_tight rfl HO571.out); rintro e w25 ⟨rfl, hy0, hb, hkp⟩; refine ⟨_, rfl, ?_⟩; have n0_ := am (blk_kept (kz BK568.out) hkp (fun hs_ => (fun e_ => (Kd.R_ne HO571.out BK568.out (by decide)) e_) hs_)); have n1_ := am (Kd.R_reok rfl hy0 (fun k_ e_ => HO571.out.1 k_ e_)); have n2_ := am (Kd.R_mono (ok' := fun k_ => NS Ao19 t569 co19 k_) (Kd.R_keptB (HO574.out) hkp (fun k_ hk_ hs_ => (hk_) hs_)) (fun k_ hk_ => hk_.1)); have n3_ := am (Kd.R_mono (ok' := fun k_ => True) (Kd.R_keptB ((Kd.R_apart' HO577.out (Kd.R_typed HO571.out) (by decide))) hkp (fun k_ hk_ hs_ => (hk_.2) hs_)) (fun k_ hk_ => trivial)); have n4_ := am (blk_kept (kz BK578.out) hkp (fun hs_ => (fun e_ => (Kd.R_ne HO571.out BK578.out (by decide)) e_) hs_)); have n5_ := am (hb); clear BK568 HO571 HO574 HO577 BK578 HB; revert n0_ n1_ n2_ n3_ n4_ n5_; intro BK568 HO571 HO574 HO577 BK578 HB; (try clear hb); (try clear hkp); (try clear hy0); have hz26 := zf4 BK578.out) | ((with_reducible refine gy 72 rfl ?_); refine gl Try.func72 #[.slice Ao17 t575.length co17, .func (.func 61) #[] #[]] ?_; (with_reducible refine (slices_SortFunc_Step_at_impl_stepOrder.calls (fun k_ => some k_ = (.slice Ao17 t575.length co17 : Value).ownBlock) (.slice Ao17 t575.length co17) t575 t581 w _ ?side1 ?side2 A10.out).mono ?_); (case side1 => exact bw HB.out); (case side2 => exact Kd.R_tight rfl HO577.out); rintro e w29 ⟨rfl, hy0, hb, hkp⟩; refine ⟨_, rfl, ?_⟩; have n0_ := am (blk_kept (kz BK568.out) hkp (fun hs_ => (fun e_ => (Kd.R_ne HO577.out BK568.out (by decide)) e_) hs_)); have n1_ := am (Kd.R_mono (ok' := fun k_ => NS Ao18 t572 co18 k_) (Kd.R_keptB ((Kd.R_apart' HO571.out (Kd.R_typed HO577.out) (by decide))) hkp (fun k_ hk_ hs_ => (hk_.2) hs_)) (fun k_ hk_ => hk_.1.1)); have n2_ := am (Kd.R_mono (ok' := fun k_ => NS Ao19 t569 co19 k_) (Kd.R_keptB ((Kd.R_apart' HO574.out (Kd.R_typed HO577.out) (by decide))) hkp (fun k_ hk_ hs_ => (hk_.2) hs_)) (fun k_ hk_ => hk_.1.1)); have n3_ := am (Kd.R_reok rfl hy0 (fun k_ e_ => HO577.out.1 k_ e_)); have n4_ := am (blk_kept (kz BK578.out) hkp (fun hs_ => (fun e_ => (Kd.R_ne HO577.out BK578.out (by decide)) e_) hs_)); have n5_ := am (hb); clear BK568 HO571 HO574 HO577 BK578 HB; revert n0_ n1_ n2_ n3_ n4_ n5_; intro BK568 HO571 HO574 HO577 BK578 HB; (try clear hb); (try clear hkp); (try clear hy0); have hz30 := zf4 BK578.out) | ((with_reducible refine gy 30 rfl ?_); refine goesL_ (some 29) rfl rfl Try.func30 (by kernel_rfl) rfl #[.agg #[.int .i64 a0, .slice Ao19 t579.length co19, .slice Ao18 t580.length co18, .slice Ao17 t581.length co17]] rfl (by (try simp only [List.map_toArray, List.map_cons, List.map_nil]); first | done | (rw [show t579.length = t569.length from (Kd.R_reads' HO571.out).1.symm, show t580.length = t572.length from (Kd.R_reads' HO574.out).1.symm, show t581.length = t575.length from (Kd.R_reads' HO577.out).1.symm] <;> rfl) | rfl | (simp only [List.length_drop, List.length_take]; rfl)) ?_; (with_reducible refine (impl_AutomatonValid.calls k a0 _ _ t579 _ _ t580 _ _ t581 true _ ?side1 ?side2 ?side3 ?side4 ?side5 ?side6 A11.out).mono ?_); (case side1 => exact cc ((Kd.R_reads' HO571.out).2.2)); (case side2 => rw [show t579.length = t569.length from (Kd.R_reads' HO571.out).1.symm]; exact (Kd.R_reads' HO571.out).2.1); (case side3 => exact cc ((Kd.R_reads' HO574.out).2.2)); (case side4 => rw [show t580.length = t572.length from (Kd.R_reads' HO574.out).1.symm]; exact (Kd.R_reads' HO574.out).2.1); (case side5 => exact cc ((Kd.R_reads' HO577.out).2.2)); (case side6 => rw [show t581.length = t575.length from (Kd.R_reads' HO577.out).1.symm]; exact (Kd.R_reads' HO577.out).2.1); rintro e w31 ⟨rfl, hb⟩; refine ⟨_, rfl, ?_⟩; have n0_ := rb HO571 hb; have n1_ := rb HO574 hb; have n2_ := rb HO577 hb; have n3_ := bk BK568 hb; have n4_ := bk BK578 hb; have n5_ := hs HB hb; clear HO571 HO574 HO577 BK568 BK578 HB; revert n0_ n1_ n2_ n3_ n4_ n5_; intro HO571 HO574 HO577 BK568 BK578 HB; (try clear hb); (try clear hb2); (try clear hk); (try clear hi); have hz32 := zf4 BK578.out; have hz33 := zf4 BK568.out)); refine bodyPost_ret (results_ct rfl _ _ gb568 26 #[.int .i64 a0, .slice Ao19 t569.length co19, .slice Ao18 t572.length co18, .slice Ao17 t575.length co17] (0, 0) _ rfl (kp BK568.out) Try.underlying26 rfl (by kernel_rfl)) rfl ?_; exact ⟨_, _, _, by first | rfl | (simp [errW_none, errW_some] <;> rfl) | (simp [*, errW_none, errW_some] <;> rfl), rq (q4 HO571.out BK568.out (by decide)), rq (q4 HO574.out BK568.out (by decide)), rq (Kd.R_mono (q4 HO577.out BK568.out (by decide)) (fun _ hk => trivial)), by exact bw HB.out⟩
 ·replace c12 := Bool.eq_false_iff.mpr c12; subst c12
  have H1 : (some (0, ([] : List Int), ([] : List Int), ([] : List (S32)), false)) = some (r1, r2, r3, r4, r5) := by rw [if_neg (show ¬ (false = true) by decide)] at H; exact H
  clear H; have H := H1; clear H1; simp only [Option.some.injEq, Prod.mk.injEq] at H; obtain ⟨rfl, rfl, rfl, rfl, rfl⟩ := H; go_enter Try.func37, Try.ntmps37; go_wp2_with (first | ((with_reducible refine gx 8 rfl ?_); refine be (cs := #[.int .i64 0, .slice none 0 0, .slice none 0 0, .slice none 0 0]) (t := 26) ?_; intro gb568 hg w34 hbox hb; have n0_ := hs HB hb; have n1_ := am (hbox); have n2_ := gs hg (bz HB.out); have n3_ := gs hg (bz HB.out); clear HB; revert n0_ n1_ n2_ n3_; intro HB BK568 GW568 GE568; clear hb hbox hg) | ((with_reducible refine gy 70 rfl ?_); refine gl Try.func70 #[.slice A2 l2.length c2] ?_; (with_reducible refine (slices_Clone_int_int.calls _ _ l2 t572 _ ?side1 ?side2 A6.out).mono ?_); (case side1 => exact cc (Kd.C_below HR2.out HB.out)); (case side2 => exact HC2.out); rintro e w36 ⟨v573, rfl, ho0, hb⟩; refine ⟨_, rfl, ?_⟩; have n0_ := el HO571 (Kd.R_base ho0) hb; have n1_ := am (Kd.R_lower (Kd.R_new' ho0 (Kd.R_lt (rz HO571.out))) (below_size (bw HB.out))); have n2_ := bk BK568 hb; have n3_ := hs HB hb; clear HO571 BK568 HB; revert n0_ n1_ n2_ n3_; intro HO571 HO574 BK568 HB; (try clear hb); (try clear hb2); (try clear hk); (try clear hi); (try clear ho0)) | ((with_reducible refine gy 70 rfl ?_); refine gl Try.func70 #[.slice A1 l1.length c1] ?_; (with_reducible refine (slices_Clone_int_int.calls _ _ l1 t569 _ ?side1 ?side2 A5.out).mono ?_); (case side1 => exact cc (Kd.C_below HR1.out HB.out)); (case side2 => exact HC1.out); rintro e w35 ⟨v570, rfl, ho0, hb⟩; refine ⟨_, rfl, ?_⟩; have n0_ := am (Kd.R_lower ho0 (below_size (bw HB.out))); have n1_ := bk BK568 hb; have n2_ := hs HB hb; clear BK568 HB; revert n0_ n1_ n2_; intro HO571 BK568 HB; (try clear hb); (try clear hb2); (try clear hk); (try clear hi); (try clear ho0)) | ((with_reducible refine gy 39 rfl ?_); refine gl Try.func39 #[.slice A3 l3.length c3] ?_; (with_reducible refine (slices_Clone_Step.calls _ _ l3 t575 _ ?side1 ?side2 A7.out).mono ?_); (case side1 => exact cc (Kd.C_below HR3.out HB.out)); (case side2 => exact HC3.out); rintro e w37 ⟨v576, rfl, ho0, hb⟩; refine ⟨_, rfl, ?_⟩; have n0_ := rb HO571 hb; have n1_ := rb HO574 hb; have n2_ := am (Kd.R_lower ho0 (below_size (bw HB.out))); have n3_ := bk BK568 hb; have n4_ := hs HB hb; clear HO571 HO574 BK568 HB; revert n0_ n1_ n2_ n3_ n4_; intro HO571 HO574 HO577 BK568 HB; (try clear hb); (try clear hb2); (try clear hk); (try clear hi); (try clear ho0); obtain ⟨Ao38, co38, eo38⟩ := Kd.R_slice HO577.out; subst eo38; obtain ⟨Ao39, co39, eo39⟩ := Kd.R_slice HO574.out; subst eo39; obtain ⟨Ao40, co40, eo40⟩ := Kd.R_slice HO571.out; subst eo40) | ((with_reducible refine gx 10 rfl ?_); refine be (cs := #[.int .i64 0, .slice none 0 0, .slice none 0 0, .slice none 0 0]) (t := 26) ?_; intro gb578 hg w41 hbox hb; have n0_ := rb HO571 hb; have n1_ := rb HO574 hb; have n2_ := rb HO577 hb; have n3_ := bk BK568 hb; have n4_ := hs HB hb; have n5_ := am (hbox); have n6_ := gs hg (bw HB.out); have n7_ := gs hg (bw HB.out); have n8_ := nl hg (kz BK568.out); have n9_ := nr hg (kz BK568.out); clear HO571 HO574 HO577 BK568 HB; revert n0_ n1_ n2_ n3_ n4_ n5_ n6_ n7_ n8_ n9_; intro HO571 HO574 HO577 BK568 HB BK578 GW578 GE578 NB568_578 NB578_568; clear hb hbox hg; have hnb42 := NB578_568.out; have hnc42 := NB568_578.out; have hz43 := zf4 BK578.out) | ((with_reducible refine gate_store (t := 26) (p := 10) rfl ?_); refine store_event (t := 26) (p := 10) (v := ?vo_w44) (w1 := ((((w41.setCell ⟨gb578, 0, none⟩ (.int .i64 a0)).setCell ⟨gb578, 1, none⟩ (.slice Ao40 t569.length co40)).setCell ⟨gb578, 2, none⟩ (.slice Ao39 t572.length co39)).setCell ⟨gb578, 3, none⟩ (.slice Ao38 t575.length co38))) ?hg ?ho ?hn ?hr ?_; (case ho => rfl); (case hg => rfl); (case hn => rfl); (case hr => first | (go_simp; done) | (go_simp; rfl)); intro w44 hw; have n0_ : Aside0 (Kd.R (Kd.int .i64) 3 w44 w.heap.size (fun k_ => NS Ao39 t572 co39 k_) (.slice Ao40 t569.length co40) t569) := ⟨(by rw [hw]; exact (rq (Kd.R_mono (q4 HO571.out BK578.out (by decide)) (fun _ hk => hk.2))))⟩; have n1_ : Aside0 (Kd.R (Kd.int .i64) 3 w44 w.heap.size (fun k_ => NS Ao40 t569 co40 k_) (.slice Ao39 t572.length co39) t572) := ⟨(by rw [hw]; exact (rq (Kd.R_mono (q4 HO574.out BK578.out (by decide)) (fun _ hk => hk.2))))⟩; have n2_ : Aside0 (Kd.R k32 32 w44 w.heap.size (fun _ => True) (.slice Ao38 t575.length co38) t575) := ⟨(by rw [hw]; exact (rq (Kd.R_mono (q4 HO577.out BK578.out (by decide)) (fun _ hk => trivial))))⟩; have n3_ : Aside0 (w44.heap[gb568]? = some (.cells #[.int .i64 0, .slice none 0 0, .slice none 0 0, .slice none 0 0] 26 (0, 0))) := ⟨(by rw [hw]; exact (kf BK568.out))⟩; have n4_ : Aside0 (w44.heap[gb578]? = some (.cells #[.int .i64 a0, .slice Ao40 t569.length co40, .slice Ao39 t572.length co39, .slice Ao38 t575.length co38] 26 (0, 0))) := ⟨(by rw [hw]; exact (kp BK578.out))⟩; have n5_ : Aside0 (Below w.heap.size w w44) := ⟨(by rw [hw]; exact (bw HB.out))⟩; clear hw HO571 HO574 HO577 BK568 BK578 HB; revert n0_ n1_ n2_ n3_ n4_ n5_; intro HO571 HO574 HO577 BK568 BK578 HB; have hz45 := zf4 BK578.out) | ((with_reducible refine gy 71 rfl ?_); refine gl Try.func71 #[.slice Ao39 t572.length co39] ?_; (with_reducible refine (slices_Sort_int_int.calls (fun k_ => some k_ = (.slice Ao39 t572.length co39 : Value).ownBlock) (.slice Ao39 t572.length co39) t572 t580 w _ ?side1 ?side2 A9.out).mono ?_); (case side1 => exact bw HB.out); (case side2 => exact Kd.R_tight rfl HO574.out); rintro e w48 ⟨rfl, hy0, hb, hkp⟩; refine ⟨_, rfl, ?_⟩; have n0_ := am (blk_kept (kz BK568.out) hkp (fun hs_ => (fun e_ => (Kd.R_ne HO574.out BK568.out (by decide)) e_) hs_)); have n1_ := am (Kd.R_mono (ok' := fun k_ => NS Ao39 t572 co39 k_) (Kd.R_keptB (HO571.out) hkp (fun k_ hk_ hs_ => (hk_) hs_)) (fun k_ hk_ => hk_.1)); have n2_ := am (Kd.R_reok rfl hy0 (fun k_ e_ => HO574.out.1 k_ e_)); have n3_ := am (Kd.R_mono (ok' := fun k_ => True) (Kd.R_keptB ((Kd.R_apart' HO577.out (Kd.R_typed HO574.out) (by decide))) hkp (fun k_ hk_ hs_ => (hk_.2) hs_)) (fun k_ hk_ => trivial)); have n4_ := am (blk_kept (kz BK578.out) hkp (fun hs_ => (fun e_ => (Kd.R_ne HO574.out BK578.out (by decide)) e_) hs_)); have n5_ := am (hb); clear BK568 HO571 HO574 HO577 BK578 HB; revert n0_ n1_ n2_ n3_ n4_ n5_; intro BK568 HO571 HO574 HO577 BK578 HB; (try clear hb); (try clear hkp); (try clear hy0); have hz49 := zf4 BK578.out) | ((with_reducible refine gy 71 rfl ?_); refine gl Try.func71 #[.slice Ao40 t569.length co40] ?_; (with_reducible refine (slices_Sort_int_int.calls (fun k_ => some k_ = (.slice Ao40 t569.length co40 : Value).ownBlock) (.slice Ao40 t569.length co40) t569 t579 w _ ?side1 ?side2 A8.out).mono ?_); (case side1 => exact bw HB.out); (case side2 => exact Kd.R_tight rfl HO571.out); rintro e w46 ⟨rfl, hy0, hb, hkp⟩; refine ⟨_, rfl, ?_⟩; have n0_ := am (blk_kept (kz BK568.out) hkp (fun hs_ => (fun e_ => (Kd.R_ne HO571.out BK568.out (by decide)) e_) hs_)); have n1_ := am (Kd.R_reok rfl hy0 (fun k_ e_ => HO571.out.1 k_ e_)); have n2_ := am (Kd.R_mono (ok' := fun k_ => NS Ao40 t569 co40 k_) (Kd.R_keptB (HO574.out) hkp (fun k_ hk_ hs_ => (hk_) hs_)) (fun k_ hk_ => hk_.1)); have n3_ := am (Kd.R_mono (ok' := fun k_ => True) (Kd.R_keptB ((Kd.R_apart' HO577.out (Kd.R_typed HO571.out) (by decide))) hkp (fun k_ hk_ hs_ => (hk_.2) hs_)) (fun k_ hk_ => trivial)); have n4_ := am (blk_kept (kz BK578.out) hkp (fun hs_ => (fun e_ => (Kd.R_ne HO571.out BK578.out (by decide)) e_) hs_)); have n5_ := am (hb); clear BK568 HO571 HO574 HO577 BK578 HB; revert n0_ n1_ n2_ n3_ n4_ n5_; intro BK568 HO571 HO574 HO577 BK578 HB; (try clear hb); (try clear hkp); (try clear hy0); have hz47 := zf4 BK578.out) | ((with_reducible refine gy 72 rfl ?_); refine gl Try.func72 #[.slice Ao38 t575.length co38, .func (.func 61) #[] #[]] ?_; (with_reducible refine (slices_SortFunc_Step_at_impl_stepOrder.calls (fun k_ => some k_ = (.slice Ao38 t575.length co38 : Value).ownBlock) (.slice Ao38 t575.length co38) t575 t581 w _ ?side1 ?side2 A10.out).mono ?_); (case side1 => exact bw HB.out); (case side2 => exact Kd.R_tight rfl HO577.out); rintro e w50 ⟨rfl, hy0, hb, hkp⟩; refine ⟨_, rfl, ?_⟩; have n0_ := am (blk_kept (kz BK568.out) hkp (fun hs_ => (fun e_ => (Kd.R_ne HO577.out BK568.out (by decide)) e_) hs_)); have n1_ := am (Kd.R_mono (ok' := fun k_ => NS Ao39 t572 co39 k_) (Kd.R_keptB ((Kd.R_apart' HO571.out (Kd.R_typed HO577.out) (by decide))) hkp (fun k_ hk_ hs_ => (hk_.2) hs_)) (fun k_ hk_ => hk_.1.1)); have n2_ := am (Kd.R_mono (ok' := fun k_ => NS Ao40 t569 co40 k_) (Kd.R_keptB ((Kd.R_apart' HO574.out (Kd.R_typed HO577.out) (by decide))) hkp (fun k_ hk_ hs_ => (hk_.2) hs_)) (fun k_ hk_ => hk_.1.1)); have n3_ := am (Kd.R_reok rfl hy0 (fun k_ e_ => HO577.out.1 k_ e_)); have n4_ := am (blk_kept (kz BK578.out) hkp (fun hs_ => (fun e_ => (Kd.R_ne HO577.out BK578.out (by decide)) e_) hs_)); have n5_ := am (hb); clear BK568 HO571 HO574 HO577 BK578 HB; revert n0_ n1_ n2_ n3_ n4_ n5_; intro BK568 HO571 HO574 HO577 BK578 HB; (try clear hb); (try clear hkp); (try clear hy0); have hz51 := zf4 BK578.out) | ((with_reducible refine gy 30 rfl ?_); refine goesL_ (some 29) rfl rfl Try.func30 (by kernel_rfl) rfl #[.agg #[.int .i64 a0, .slice Ao40 t579.length co40, .slice Ao39 t580.length co39, .slice Ao38 t581.length co38]] rfl (by (try simp only [List.map_toArray, List.map_cons, List.map_nil]); first | done | (rw [show t579.length = t569.length from (Kd.R_reads' HO571.out).1.symm, show t580.length = t572.length from (Kd.R_reads' HO574.out).1.symm, show t581.length = t575.length from (Kd.R_reads' HO577.out).1.symm] <;> rfl) | rfl | (simp only [List.length_drop, List.length_take]; rfl)) ?_; (with_reducible refine (impl_AutomatonValid.calls k a0 _ _ t579 _ _ t580 _ _ t581 false _ ?side1 ?side2 ?side3 ?side4 ?side5 ?side6 A11.out).mono ?_); (case side1 => exact cc ((Kd.R_reads' HO571.out).2.2)); (case side2 => rw [show t579.length = t569.length from (Kd.R_reads' HO571.out).1.symm]; exact (Kd.R_reads' HO571.out).2.1); (case side3 => exact cc ((Kd.R_reads' HO574.out).2.2)); (case side4 => rw [show t580.length = t572.length from (Kd.R_reads' HO574.out).1.symm]; exact (Kd.R_reads' HO574.out).2.1); (case side5 => exact cc ((Kd.R_reads' HO577.out).2.2)); (case side6 => rw [show t581.length = t575.length from (Kd.R_reads' HO577.out).1.symm]; exact (Kd.R_reads' HO577.out).2.1); rintro e w52 ⟨rfl, hb⟩; refine ⟨_, rfl, ?_⟩; have n0_ := rb HO571 hb; have n1_ := rb HO574 hb; have n2_ := rb HO577 hb; have n3_ := bk BK568 hb; have n4_ := bk BK578 hb; have n5_ := hs HB hb; clear HO571 HO574 HO577 BK568 BK578 HB; revert n0_ n1_ n2_ n3_ n4_ n5_; intro HO571 HO574 HO577 BK568 BK578 HB; (try clear hb); (try clear hb2); (try clear hk); (try clear hi); have hz53 := zf4 BK568.out)); refine bodyPost_ret (results_ct rfl _ _ gb568 26 #[.int .i64 0, .slice none 0 0, .slice none 0 0, .slice none 0 0] (0, 0) _ rfl (kp BK568.out) Try.underlying26 rfl (by kernel_rfl)) rfl ?_; exact ⟨_, _, _, by first | rfl | (simp [errW_none, errW_some] <;> rfl) | (simp [*, errW_none, errW_some] <;> rfl), by first | exact Kd.R_nil _ _ _ _ _ | exact Kd.N_nil _ _ _ _ _ | exact Kd.V_nil _ _ _ _ _ | exact Kd.Q_nil _ _ _ _ _ | exact Kd.S_nil _ _ _ _ _, by first | exact Kd.R_nil _ _ _ _ _ | exact Kd.N_nil _ _ _ _ _ | exact Kd.V_nil _ _ _ _ _ | exact Kd.Q_nil _ _ _ _ _ | exact Kd.S_nil _ _ _ _ _, by first | exact Kd.R_nil _ _ _ _ _ | exact Kd.N_nil _ _ _ _ _ | exact Kd.V_nil _ _ _ _ _ | exact Kd.Q_nil _ _ _ _ _ | exact Kd.S_nil _ _ _ _ _, by exact bw HB.out⟩

end Go.Proofs.Ytojfbgegankddaa.PGR
