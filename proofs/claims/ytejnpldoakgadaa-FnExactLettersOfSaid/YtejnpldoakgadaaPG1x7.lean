-- Written by a program (wip/myprint.py): the machine side of one law: each function that it reaches, as a plain function, and the proof that a call comes to just that.
import Derived.Test.YtejnpldoakgadaaPG1x0
import Derived.Test.YtejnpldoakgadaaPG1x1
import Derived.Test.YtejnpldoakgadaaPG1x2
import Derived.Test.YtejnpldoakgadaaPG1x4
import Derived.Test.YtejnpldoakgadaaPG1x6
namespace Go.Proofs.Ytejnpldoakgadaa.PG1
open Go.RowKit Go.Proofs.YtejnpldoakgadaaW.PrintWords Go.Proofs.YtejnpldoakgadaaW.PrintLast Go.Proofs.YtejnpldoakgadaaW.PrintMore
attribute [local go_sem] max2_int min2_int max_two min_two max_three min_three max_four min_four   -- for this text's walks alone
set_option linter.unusedVariables false
set_option linter.unusedSimpArgs false

-- NOT PRINTED: function 53 (impl_Step_53)

-- NOT PRINTED: function 47 (impl_Step_47)

/-! ### impl_LettersOf_1: function 48 -/
def impl_LettersOf_1.f (a0_0 : Int) (a0_1 : ByteArray) (a0_2 : Int) (a0_3 : Int) (a1_0 : ByteArray) : Option (Bool) := some (a0_1.toList == a1_0.toList)
set_option maxHeartbeats 8000000 in
set_option maxRecDepth 100000 in
theorem impl_LettersOf_1.calls (a0_0 : Int) (a0_1 : ByteArray) (a0_2 : Int) (a0_3 : Int) (a1_0 : ByteArray) (r : Bool) (w : World) (h : impl_LettersOf_1.f a0_0 a0_1 a0_2 a0_3 a1_0 = some r) (gb198 : Nat) (hk0_ : w.heap[gb198]? = some (.cells #[.string a1_0] 9 (0, 0))) :
  Calls Try.prog 48 #[.agg #[.int .i64 a0_0, .string a0_1, .int .i64 a0_2, .int .i64 a0_3], .pointer (some ⟨gb198, 0, none⟩)] w fun e w' => e = .returned (.bool r) ∧ Below w.heap.size w w' := by
 have hu9 := Try.underlying9
 have hu51 := Try.underlying51
 have BK198 := am hk0_
 clear hk0_
 have hcz198_0_ : w.cell? ⟨gb198, 0, none⟩ = some (.string a1_0) := (blk_cell BK198.out 0).trans rfl
 have hfz198_0_ := blk_frozen BK198.out 0
 have HB := am (Below.refl w.heap.size w)
 have H : (some (a0_1.toList == a1_0.toList)) = some r := h
 clear h
 obtain rfl := Option.some.inj H
 go_enter Try.func48, Try.ntmps48
 go_wp2_with (first | ((with_reducible refine gate_dst (N := 1) rfl ?_); refine box_event ?hg (N := 1) ?hd (cs := #[.string a1_0]) (t := 9) ?hr ?_; (case hd => rfl); (case hg => rfl); (case hr => first | (go_simp; done) | (go_simp; rfl)); intro gb198 hg w hbox hb; have n0_ := am (below_step (bz HB.out) hb); have n1_ := am (hbox); have n2_ := am ((by rw [hg]; exact (below_size (bz HB.out)) : w.heap.size ≤ gb198)); have n3_ := am ((by rw [hg]; exact (below_size (bz HB.out)) : w.heap.size ≤ gb198)); clear HB; revert n0_ n1_ n2_ n3_; intro HB BK198 GW198 GE198; clear hb hbox hg) | ((with_reducible refine gate_dst (N := 2) rfl ?_); refine box_event ?hg (N := 2) ?hd (cs := #[.int .i64 a0_0, .string a0_1, .int .i64 a0_2, .int .i64 a0_3]) (t := 51) ?hr ?_; (case hd => rfl); (case hg => rfl); (case hr => first | (go_simp; done) | (go_simp; rfl)); intro gb199 hg w4 hbox hb; have n0_ := bk BK198 hb; have n1_ := am (below_step (bw HB.out) hb); have n2_ := am (hbox); have n3_ := am ((by rw [hg]; exact (below_size (bw HB.out)) : w.heap.size ≤ gb199)); have n4_ := am ((by rw [hg]; exact (below_size (bw HB.out)) : w.heap.size ≤ gb199)); have n5_ := am ((by rw [hg]; exact Nat.ne_of_lt (blk_lt (kz BK198.out)) : gb198 ≠ gb199)); have n6_ := am ((by rw [hg]; exact Nat.ne_of_gt (blk_lt (kz BK198.out)) : gb199 ≠ gb198)); clear BK198 HB; revert n0_ n1_ n2_ n3_ n4_ n5_ n6_; intro BK198 HB BK199 GW199 GE199 NB198_199 NB199_198; clear hb hbox hg; have hnb5 := NB199_198.out; have hnc5 := NB198_199.out; have hcz6_0 := cz40 BK199.out; have hcz6_1 := cz41 BK199.out; have hcz6_2 := cz42 BK199.out; have hcz6_3 := cz43 BK199.out; have hfz6_0 := blk_frozen BK199.out 0; have hfz6_1 := blk_frozen BK199.out 1; have hfz6_2 := blk_frozen BK199.out 2; have hfz6_3 := blk_frozen BK199.out 3; have hcz7_0 : w4.cell? ⟨gb198, 0, none⟩ = some (.string a1_0) := (blk_cell BK198.out 0).trans rfl; have hfz7_0 := blk_frozen BK198.out 0))
 go_ret
 exact ⟨by first | rfl | (simp [errW_none, errW_some] <;> rfl) | (simp [*, errW_none, errW_some] <;> rfl), by exact bw HB.out⟩

/-! ### slices_IndexFunc_Step_at_impl_LettersOf_1: function 200001 -/
def slices_IndexFunc_Step_at_impl_LettersOf_1.l0 : Nat → List (S51) → Int → Int → ByteArray → Option (Int)
 | 0, _, _, _, _ => none
 | k + 1, x0, x7, x8, x201000 => if x8 < x7 then (if 0 ≤ x8 then (if x8 < (x0.length : Int) then ((impl_LettersOf_1.f ((rd_T51 x0 x8).f0) ((rd_T51 x0 x8).f1) ((rd_T51 x0 x8).f2) ((rd_T51 x0 x8).f3) x201000).bind fun t202 => (if t202 = true then (some x8) else (slices_IndexFunc_Step_at_impl_LettersOf_1.l0 k x0 x7 (wrap64 (x8 + 1)) x201000))) else (none)) else (none)) else (some (-1))
def slices_IndexFunc_Step_at_impl_LettersOf_1.f (k : Nat) (l0 : List (S51)) (a1_0 : ByteArray) : Option (Int) := slices_IndexFunc_Step_at_impl_LettersOf_1.l0 k l0 (l0.length : Int) 0 a1_0
theorem slices_IndexFunc_Step_at_impl_LettersOf_1.mono_l : ∀ k, (∀ y0 y1 y2 y3, LeO (slices_IndexFunc_Step_at_impl_LettersOf_1.l0 k y0 y1 y2 y3) (slices_IndexFunc_Step_at_impl_LettersOf_1.l0 (k + 1) y0 y1 y2 y3))
 | 0 => fun _ _ _ _ r h => by simp [slices_IndexFunc_Step_at_impl_LettersOf_1.l0] at h
 | k + 1 => by
  have ih0 := slices_IndexFunc_Step_at_impl_LettersOf_1.mono_l k
  ·intro y0 y1 y2 y3
   unfold slices_IndexFunc_Step_at_impl_LettersOf_1.l0
   repeat' first
   | (with_reducible exact ih0 _ _ _ _)
   | (with_reducible exact LeO.refl _)
   | (with_reducible exact LeO.none _)
   | (with_reducible refine LeO.ite ?_ ?_)
   | (with_reducible refine LeO.bind ?_ (fun _ => ?_))
   | exact ih0 _ _ _ _
   | exact LeO.none _
   | refine LeO.ite ?_ ?_
   | refine LeO.bind ?_ (fun _ => ?_)
theorem slices_IndexFunc_Step_at_impl_LettersOf_1.mono : ∀ a0 a1 k, LeO (slices_IndexFunc_Step_at_impl_LettersOf_1.f k a0 a1) (slices_IndexFunc_Step_at_impl_LettersOf_1.f (k + 1) a0 a1) := by
 intro a0 a1 k
 have ih0 := slices_IndexFunc_Step_at_impl_LettersOf_1.mono_l k
 unfold slices_IndexFunc_Step_at_impl_LettersOf_1.f
 repeat' first
   | (with_reducible exact ih0 _ _ _ _)
   | (with_reducible exact LeO.refl _)
   | (with_reducible exact LeO.none _)
   | (with_reducible refine LeO.ite ?_ ?_)
   | (with_reducible refine LeO.bind ?_ (fun _ => ?_))
   | exact ih0 _ _ _ _
   | exact LeO.none _
   | refine LeO.ite ?_ ?_
   | refine LeO.bind ?_ (fun _ => ?_)
set_option maxHeartbeats 8000000 in
set_option maxRecDepth 100000 in
theorem slices_IndexFunc_Step_at_impl_LettersOf_1.calls (k : Nat) (A0 : Option Addr) (c0 : Nat) (l0 : List (S51)) (a1_0 : ByteArray) (r : Int) (w : World) (hr0 : Kd.C k51 w A0 l0.length l0) (hc0 : l0.length ≤ c0) (h : slices_IndexFunc_Step_at_impl_LettersOf_1.f k l0 a1_0 = some r) (gb200 : Nat) (hk0_ : w.heap[gb200]? = some (.cells #[.string a1_0] 9 (0, 0))) :
  Calls Try.prog 53 #[.slice A0 l0.length c0, .func (.func 48) #[] #[.pointer (some ⟨gb200, 0, none⟩)]] w fun e w' => e = .returned (.int .i64 r) ∧ Below w.heap.size w w' := by
 have hu9 := Try.underlying9
 have hu51 := Try.underlying51
 have HR0 := am hr0
 have HC0 := am hc0
 clear hr0 hc0
 have BK200 := am hk0_
 clear hk0_
 have hcz200_0_ : w.cell? ⟨gb200, 0, none⟩ = some (.string a1_0) := (blk_cell BK200.out 0).trans rfl
 have hfz200_0_ := blk_frozen BK200.out 0
 have HB := am (Below.refl w.heap.size w)
 have H : (slices_IndexFunc_Step_at_impl_LettersOf_1.l0 k l0 (l0.length : Int) 0 a1_0) = some r := h
 clear h
 have H' := am H
 clear H
 go_enter Try.func53, Try.ntmps53
 go_wp2_with (first | ((with_reducible refine gate_dst (N := 1) rfl ?_); refine box_event ?hg (N := 1) ?hd (cs := #[.string a1_0]) (t := 9) ?hr ?_; (case hd => rfl); (case hg => rfl); (case hr => first | (go_simp; done) | (go_simp; rfl)); intro gb200 hg w hbox hb; have n0_ := am (below_step (bz HB.out) hb); have n1_ := am (hbox); have n2_ := am ((by rw [hg]; exact (below_size (bz HB.out)) : w.heap.size ≤ gb200)); have n3_ := am ((by rw [hg]; exact (below_size (bz HB.out)) : w.heap.size ≤ gb200)); clear HB; revert n0_ n1_ n2_ n3_; intro HB BK200 GW200 GE200; clear hb hbox hg))
 go_loopg [8] k (fun kq v8 w' => ∃ (x8_1 : Int), v8 = .int .i64 x8_1 ∧ Aside0 (slices_IndexFunc_Step_at_impl_LettersOf_1.l0 kq l0 (l0.length : Int) x8_1 a1_0 = some r) ∧ Aside0 (kq ≤ k) ∧ Aside0 (w'.heap[gb200]? = some (.cells #[.string a1_0] 9 (0, 0))) ∧ Aside0 (Below w.heap.size w w'))
 case atStart => exact ⟨(0), (by first | rfl | (simp; done) | (simp [*]; done)), H', ⟨Nat.le_refl _⟩, ⟨kz BK200.out⟩, ⟨by exact bw HB.out⟩⟩
 case round =>
  clear H'
  try clear c2
  try clear p2
  obtain ⟨x8_1, rfl, HA, HK1, BK200, HB⟩ := hrel
  cases gk with
  | zero => exact absurd HA.out (by simp [slices_IndexFunc_Step_at_impl_LettersOf_1.l0])
  | succ k1 =>
   have H := HA.out
   clear HA
   simp only [slices_IndexFunc_Step_at_impl_LettersOf_1.l0] at H
   by_cases c4 : x8_1 < (l0.length : Int)
   ·rw [if_pos c4] at H
    have c4b0 : decide (x8_1 < (l0.length : Int)) = true := decide_eq_true c4
    clear c4
    by_cases c5 : 0 ≤ x8_1
    ·rw [if_pos c5] at H
     have c5b0 : decide (0 ≤ x8_1) = true := decide_eq_true c5
     clear c5
     by_cases c6 : x8_1 < (l0.length : Int)
     ·rw [if_pos c6] at H
      have c6b0 : decide (x8_1 < (l0.length : Int)) = true := decide_eq_true c6
      clear c6
      replace H := Option.bind_eq_some_iff.mp H
      obtain ⟨t202, A70, H⟩ := H
      (try dsimp only at H)
      have A7 := am A70
      clear A70
      by_cases c8 : t202 = true
      ·subst c8
       have H1 : (some x8_1) = some r := by rw [if_pos rfl] at H; exact H
       clear H
       have H := H1
       clear H1
       obtain rfl := Option.some.inj H
       have p201 : 0 ≤ (x8_1 : Int) := of_decide_eq_true (by first | (with_reducible assumption) | assumption)
       have q201 : x8_1 < (l0.length : Int) := of_decide_eq_true (by first | (with_reducible assumption) | assumption)
       obtain ⟨ad201, e201, hx201_0, hx201_1, hx201_2, hx201_3⟩ := at_T51 HR0.out x8_1 p201 q201
       cases e201
       replace hx201_0 := (HB.out.cell (World.block_lt_of_cell? w _ hx201_0)).trans hx201_0
       replace hx201_1 := (HB.out.cell (World.block_lt_of_cell? w _ hx201_1)).trans hx201_1
       replace hx201_2 := (HB.out.cell (World.block_lt_of_cell? w _ hx201_2)).trans hx201_2
       replace hx201_3 := (HB.out.cell (World.block_lt_of_cell? w _ hx201_3)).trans hx201_3
       replace p201 := eq_true p201
       replace q201 := eq_true q201
       go_wp2_with (first | ((with_reducible refine gate_value 11 rfl ?_); refine goesV_ (some 16) rfl rfl Try.func48 (by kernel_rfl) rfl #[.agg #[.int .i64 ((rd_T51 l0 x8_1).f0), .string ((rd_T51 l0 x8_1).f1), .int .i64 ((rd_T51 l0 x8_1).f2), .int .i64 ((rd_T51 l0 x8_1).f3)]] #[.pointer (some ⟨gb200, 0, none⟩)] #[.agg #[.int .i64 ((rd_T51 l0 x8_1).f0), .string ((rd_T51 l0 x8_1).f1), .int .i64 ((rd_T51 l0 x8_1).f2), .int .i64 ((rd_T51 l0 x8_1).f3)], .pointer (some ⟨gb200, 0, none⟩)] rfl rfl (by (try simp only [List.map_toArray, List.map_cons, List.map_nil]); first | done | rfl | (simp only [List.length_drop, List.length_take]; rfl)) rfl ?_; (with_reducible refine (impl_LettersOf_1.calls ((rd_T51 l0 x8_1).f0) ((rd_T51 l0 x8_1).f1) ((rd_T51 l0 x8_1).f2) ((rd_T51 l0 x8_1).f3) a1_0 true _ A7.out gb200 (kz BK200.out)).mono ?_); rintro e w9 ⟨rfl, hb⟩; refine ⟨_, rfl, ?_⟩; have n0_ := bk BK200 hb; have n1_ := am (below_step (bw HB.out) hb); clear BK200 HB; revert n0_ n1_; intro BK200 HB; (try clear hb); (try clear hb2); (try clear hk); (try clear hi)))
       go_ret
       exact ⟨by first | rfl | (simp [errW_none, errW_some] <;> rfl) | (simp [*, errW_none, errW_some] <;> rfl), by exact bw HB.out⟩
      ·replace c8 := Bool.eq_false_iff.mpr c8
       subst c8
       have H1 : (slices_IndexFunc_Step_at_impl_LettersOf_1.l0 k1 l0 (l0.length : Int) (wrap64 (x8_1 + 1)) a1_0) = some r := by rw [if_neg (show ¬ (false = true) by decide)] at H; exact H
       clear H
       have H := H1
       clear H1
       have H' := am H
       clear H
       have p201 : 0 ≤ (x8_1 : Int) := of_decide_eq_true (by first | (with_reducible assumption) | assumption)
       have q201 : x8_1 < (l0.length : Int) := of_decide_eq_true (by first | (with_reducible assumption) | assumption)
       obtain ⟨ad201, e201, hx201_0, hx201_1, hx201_2, hx201_3⟩ := at_T51 HR0.out x8_1 p201 q201
       cases e201
       replace hx201_0 := (HB.out.cell (World.block_lt_of_cell? w _ hx201_0)).trans hx201_0
       replace hx201_1 := (HB.out.cell (World.block_lt_of_cell? w _ hx201_1)).trans hx201_1
       replace hx201_2 := (HB.out.cell (World.block_lt_of_cell? w _ hx201_2)).trans hx201_2
       replace hx201_3 := (HB.out.cell (World.block_lt_of_cell? w _ hx201_3)).trans hx201_3
       replace p201 := eq_true p201
       replace q201 := eq_true q201
       go_wp2_with (first | ((with_reducible refine gate_value 11 rfl ?_); refine goesV_ (some 16) rfl rfl Try.func48 (by kernel_rfl) rfl #[.agg #[.int .i64 ((rd_T51 l0 x8_1).f0), .string ((rd_T51 l0 x8_1).f1), .int .i64 ((rd_T51 l0 x8_1).f2), .int .i64 ((rd_T51 l0 x8_1).f3)]] #[.pointer (some ⟨gb200, 0, none⟩)] #[.agg #[.int .i64 ((rd_T51 l0 x8_1).f0), .string ((rd_T51 l0 x8_1).f1), .int .i64 ((rd_T51 l0 x8_1).f2), .int .i64 ((rd_T51 l0 x8_1).f3)], .pointer (some ⟨gb200, 0, none⟩)] rfl rfl (by (try simp only [List.map_toArray, List.map_cons, List.map_nil]); first | done | rfl | (simp only [List.length_drop, List.length_take]; rfl)) rfl ?_; (with_reducible refine (impl_LettersOf_1.calls ((rd_T51 l0 x8_1).f0) ((rd_T51 l0 x8_1).f1) ((rd_T51 l0 x8_1).f2) ((rd_T51 l0 x8_1).f3) a1_0 false _ A7.out gb200 (kz BK200.out)).mono ?_); rintro e w10 ⟨rfl, hb⟩; refine ⟨_, rfl, ?_⟩; have n0_ := bk BK200 hb; have n1_ := am (below_step (bw HB.out) hb); clear BK200 HB; revert n0_ n1_; intro BK200 HB; (try clear hb); (try clear hb2); (try clear hk); (try clear hi)))
       go_roundg k1
       case measure => have := HK1.out; omega
       case rel => exact ⟨(wrap64 (x8_1 + 1)), (by first | rfl | (simp; done) | (simp [*]; done)), H', ⟨by have := HK1.out; omega⟩, ⟨kz BK200.out⟩, ⟨by exact bw HB.out⟩⟩
     ·rw [if_neg c6] at H
      exact absurd H (by simp)
    ·rw [if_neg c5] at H
     exact absurd H (by simp)
   ·rw [if_neg c4] at H
    have c4b0 : decide (x8_1 < (l0.length : Int)) = false := decide_eq_false c4
    clear c4
    obtain rfl := Option.some.inj H
    go_wp2
    go_ret
    exact ⟨by first | rfl | (simp [errW_none, errW_some] <;> rfl) | (simp [*, errW_none, errW_some] <;> rfl), by exact bw HB.out⟩

/-! ### slices_ContainsFunc_Step_at_impl_LettersOf_1: function 200000 -/
def slices_ContainsFunc_Step_at_impl_LettersOf_1.f (k : Nat) (l0 : List (S51)) (a1_0 : ByteArray) : Option (Bool) := (slices_IndexFunc_Step_at_impl_LettersOf_1.f k l0 a1_0).bind fun t204 => (some (decide (t204 ≥ 0)))
theorem slices_ContainsFunc_Step_at_impl_LettersOf_1.mono : ∀ a0 a1 k, LeO (slices_ContainsFunc_Step_at_impl_LettersOf_1.f k a0 a1) (slices_ContainsFunc_Step_at_impl_LettersOf_1.f (k + 1) a0 a1) := by
 intro a0 a1 k
 unfold slices_ContainsFunc_Step_at_impl_LettersOf_1.f
 repeat' first
   | (with_reducible exact slices_IndexFunc_Step_at_impl_LettersOf_1.mono _ _ _)
   | (with_reducible exact LeO.refl _)
   | (with_reducible exact LeO.none _)
   | (with_reducible refine LeO.ite ?_ ?_)
   | (with_reducible refine LeO.bind ?_ (fun _ => ?_))
   | exact slices_IndexFunc_Step_at_impl_LettersOf_1.mono _ _ _
   | exact LeO.none _
   | refine LeO.ite ?_ ?_
   | refine LeO.bind ?_ (fun _ => ?_)
set_option maxHeartbeats 8000000 in
set_option maxRecDepth 100000 in
theorem slices_ContainsFunc_Step_at_impl_LettersOf_1.calls (k : Nat) (A0 : Option Addr) (c0 : Nat) (l0 : List (S51)) (a1_0 : ByteArray) (r : Bool) (w : World) (hr0 : Kd.C k51 w A0 l0.length l0) (hc0 : l0.length ≤ c0) (h : slices_ContainsFunc_Step_at_impl_LettersOf_1.f k l0 a1_0 = some r) (gb203 : Nat) (hk0_ : w.heap[gb203]? = some (.cells #[.string a1_0] 9 (0, 0))) :
  Calls Try.prog 47 #[.slice A0 l0.length c0, .func (.func 48) #[] #[.pointer (some ⟨gb203, 0, none⟩)]] w fun e w' => e = .returned (.bool r) ∧ Below w.heap.size w w' := by
 have hu9 := Try.underlying9
 have HR0 := am hr0
 have HC0 := am hc0
 clear hr0 hc0
 have BK203 := am hk0_
 clear hk0_
 have hcz203_0_ : w.cell? ⟨gb203, 0, none⟩ = some (.string a1_0) := (blk_cell BK203.out 0).trans rfl
 have hfz203_0_ := blk_frozen BK203.out 0
 have HB := am (Below.refl w.heap.size w)
 have H : ((slices_IndexFunc_Step_at_impl_LettersOf_1.f k l0 a1_0).bind fun t204 => (some (decide (t204 ≥ 0)))) = some r := h
 clear h
 replace H := Option.bind_eq_some_iff.mp H
 obtain ⟨t204, A30, H⟩ := H
 (try dsimp only at H)
 have A3 := am A30
 clear A30
 obtain rfl := Option.some.inj H
 go_enter Try.func47, Try.ntmps47
 go_wp2_with (first | ((with_reducible refine gate_dst (N := 1) rfl ?_); refine box_event ?hg (N := 1) ?hd (cs := #[.string a1_0]) (t := 9) ?hr ?_; (case hd => rfl); (case hg => rfl); (case hr => first | (go_simp; done) | (go_simp; rfl)); intro gb203 hg w hbox hb; have n0_ := am (below_step (bz HB.out) hb); have n1_ := am (hbox); have n2_ := am ((by rw [hg]; exact (below_size (bz HB.out)) : w.heap.size ≤ gb203)); have n3_ := am ((by rw [hg]; exact (below_size (bz HB.out)) : w.heap.size ≤ gb203)); clear HB; revert n0_ n1_ n2_ n3_; intro HB BK203 GW203 GE203; clear hb hbox hg) | ((with_reducible refine gate_callee (f := 53) rfl ?_); refine goesL_ (some 7) rfl rfl Try.func53 (by kernel_rfl) rfl #[.slice A0 l0.length c0, .func (.func 48) #[] #[.pointer (some ⟨gb203, 0, none⟩)]] rfl (by (try simp only [List.map_toArray, List.map_cons, List.map_nil]); first | done | rfl | (simp only [List.length_drop, List.length_take]; rfl)) ?_; (with_reducible refine (slices_IndexFunc_Step_at_impl_LettersOf_1.calls k _ _ l0 a1_0 t204 _ ?side1 ?side2 A3.out gb203 (kz BK203.out)).mono ?_); (case side1 => repeat (first | exact (Kd.C_below HR0.out HB.out) | (with_reducible refine Kd.C_alloc ?_ _) | (with_reducible refine Kd.C_drewN ?_ _) | (with_reducible refine Kd.C_drew ?_))); (case side2 => exact HC0.out); rintro e w5 ⟨rfl, hb⟩; refine ⟨_, rfl, ?_⟩; have n0_ := bk BK203 hb; have n1_ := am (below_step (bw HB.out) hb); clear BK203 HB; revert n0_ n1_; intro BK203 HB; (try clear hb); (try clear hb2); (try clear hk); (try clear hi)))
 go_ret
 exact ⟨by first | rfl | (simp [errW_none, errW_some] <;> rfl) | (simp [*, errW_none, errW_some] <;> rfl), by exact bw HB.out⟩

/-! ### impl_LettersOf: function 17 -/
def impl_LettersOf.l0 : Nat → ByteArray → List ByteArray → Int → Int → Int → List Int → List Int → List (S51) → Option (ByteArray)
 | 0, _, _, _, _, _, _, _, _ => none
 | k + 1, x3, x6, x7, x8, x206000, x206001, x206002, x206003 => if x8 < x7 then (if 0 ≤ x8 then (if x8 < (x6.length : Int) then ((impl_AutomatonValid.f k x206000 x206001 x206002 x206003).bind fun t211 => (if t211 = true then ((slices_ContainsFunc_Step_at_impl_LettersOf_1.f k x206003 (rdOf ByteArray.empty x6 x8)).bind fun t212 => (if t212 = true then (if x3.size + (rdOf ByteArray.empty x6 x8).size ≤ 9223372036854775807 then (impl_LettersOf.l0 k (x3 ++ (rdOf ByteArray.empty x6 x8)) x6 x7 (wrap64 (x8 + 1)) x206000 x206001 x206002 x206003) else (none)) else (impl_LettersOf.l0 k x3 x6 x7 (wrap64 (x8 + 1)) x206000 x206001 x206002 x206003))) else (impl_LettersOf.l0 k x3 x6 x7 (wrap64 (x8 + 1)) x206000 x206001 x206002 x206003))) else (none)) else (none)) else (some x3)
def impl_LettersOf.f (k : Nat) (a0_0 : Int) (l0_1 : List Int) (l0_2 : List Int) (l0_3 : List (S51)) : Option (ByteArray) := (some (([(⟨#[97]⟩ : ByteArray), (⟨#[98]⟩ : ByteArray)] : List ByteArray) : List ByteArray)).bind fun y206 => (impl_LettersOf.l0 k (⟨#[]⟩ : ByteArray) y206 (y206.length : Int) 0 a0_0 l0_1 l0_2 l0_3)
theorem impl_LettersOf.mono_l : ∀ k, (∀ y0 y1 y2 y3 y4 y5 y6 y7, LeO (impl_LettersOf.l0 k y0 y1 y2 y3 y4 y5 y6 y7) (impl_LettersOf.l0 (k + 1) y0 y1 y2 y3 y4 y5 y6 y7))
 | 0 => fun _ _ _ _ _ _ _ _ r h => by simp [impl_LettersOf.l0] at h
 | k + 1 => by
  have ih0 := impl_LettersOf.mono_l k
  ·intro y0 y1 y2 y3 y4 y5 y6 y7
   unfold impl_LettersOf.l0
   repeat' first
   | (with_reducible exact ih0 _ _ _ _ _ _ _ _)
   | (with_reducible exact impl_AutomatonValid.mono _ _ _ _ _)
   | (with_reducible exact slices_ContainsFunc_Step_at_impl_LettersOf_1.mono _ _ _)
   | (with_reducible exact LeO.refl _)
   | (with_reducible exact LeO.none _)
   | (with_reducible refine LeO.ite ?_ ?_)
   | (with_reducible refine LeO.bind ?_ (fun _ => ?_))
   | exact ih0 _ _ _ _ _ _ _ _
   | exact impl_AutomatonValid.mono _ _ _ _ _
   | exact slices_ContainsFunc_Step_at_impl_LettersOf_1.mono _ _ _
   | exact LeO.none _
   | refine LeO.ite ?_ ?_
   | refine LeO.bind ?_ (fun _ => ?_)
theorem impl_LettersOf.mono : ∀ a0 a1 a2 a3 k, LeO (impl_LettersOf.f k a0 a1 a2 a3) (impl_LettersOf.f (k + 1) a0 a1 a2 a3) := by
 intro a0 a1 a2 a3 k
 have ih0 := impl_LettersOf.mono_l k
 unfold impl_LettersOf.f
 repeat' first
   | (with_reducible exact ih0 _ _ _ _ _ _ _ _)
   | (with_reducible exact impl_AutomatonValid.mono _ _ _ _ _)
   | (with_reducible exact slices_ContainsFunc_Step_at_impl_LettersOf_1.mono _ _ _)
   | (with_reducible exact LeO.refl _)
   | (with_reducible exact LeO.none _)
   | (with_reducible refine LeO.ite ?_ ?_)
   | (with_reducible refine LeO.bind ?_ (fun _ => ?_))
   | exact ih0 _ _ _ _ _ _ _ _
   | exact impl_AutomatonValid.mono _ _ _ _ _
   | exact slices_ContainsFunc_Step_at_impl_LettersOf_1.mono _ _ _
   | exact LeO.none _
   | refine LeO.ite ?_ ?_
   | refine LeO.bind ?_ (fun _ => ?_)
set_option maxHeartbeats 8000000 in
set_option maxRecDepth 100000 in
theorem impl_LettersOf.calls (k : Nat) (a0_0 : Int) (A0_1 : Option Addr) (c0_1 : Nat) (l0_1 : List Int) (A0_2 : Option Addr) (c0_2 : Nat) (l0_2 : List Int) (A0_3 : Option Addr) (c0_3 : Nat) (l0_3 : List (S51)) (r : ByteArray) (w : World) (hr0_1 : Kd.C (Kd.int .i64) w A0_1 l0_1.length l0_1) (hc0_1 : l0_1.length ≤ c0_1) (hr0_2 : Kd.C (Kd.int .i64) w A0_2 l0_2.length l0_2) (hc0_2 : l0_2.length ≤ c0_2) (hr0_3 : Kd.C k51 w A0_3 l0_3.length l0_3) (hc0_3 : l0_3.length ≤ c0_3) (h : impl_LettersOf.f k a0_0 l0_1 l0_2 l0_3 = some r) :
  Calls Try.prog 17 #[.agg #[.int .i64 a0_0, .slice A0_1 l0_1.length c0_1, .slice A0_2 l0_2.length c0_2, .slice A0_3 l0_3.length c0_3]] w fun e w' => e = .returned (.string r) ∧ Below w.heap.size w w' := by
 have hu30 := Try.underlying30
 have hu9 := Try.underlying9
 have HR0_1 := am hr0_1
 have HC0_1 := am hc0_1
 clear hr0_1 hc0_1
 have HR0_2 := am hr0_2
 have HC0_2 := am hc0_2
 clear hr0_2 hc0_2
 have HR0_3 := am hr0_3
 have HC0_3 := am hc0_3
 clear hr0_3 hc0_3
 have HB := am (Below.refl w.heap.size w)
 have H : ((some (([(⟨#[97]⟩ : ByteArray), (⟨#[98]⟩ : ByteArray)] : List ByteArray) : List ByteArray)).bind fun y206 => (impl_LettersOf.l0 k (⟨#[]⟩ : ByteArray) y206 (y206.length : Int) 0 a0_0 l0_1 l0_2 l0_3)) = some r := h
 clear h
 obtain ⟨y206, hy206⟩ : ∃ y_ : List ByteArray, y_ = (([(⟨#[97]⟩ : ByteArray), (⟨#[98]⟩ : ByteArray)] : List ByteArray)) := ⟨_, rfl⟩
 replace H : (impl_LettersOf.l0 k (⟨#[]⟩ : ByteArray) y206 (y206.length : Int) 0 a0_0 l0_1 l0_2 l0_3) = some r := by first | (rw [hy206]; with_reducible exact H) | (have H2_ := (Option.bind_some _ _).symm.trans H; rw [hy206]; with_reducible exact H2_) | (have H2_ := (Option.bind_some _ _).symm.trans H; with_reducible exact H2_) | with_reducible exact H | (rw [hy206]; exact H) | exact H
 have Ny206 := am hy206
 clear hy206
 have H' := am H
 clear H
 go_enter Try.func17, Try.ntmps17
 go_wp2_with (first | ((with_reducible refine gate_dst (N := 1) rfl ?_); refine box_event ?hg (N := 1) ?hd (cs := #[.int .i64 a0_0, .slice A0_1 l0_1.length c0_1, .slice A0_2 l0_2.length c0_2, .slice A0_3 l0_3.length c0_3]) (t := 30) ?hr ?_; (case hd => rfl); (case hg => rfl); (case hr => first | (go_simp; done) | (go_simp; rfl)); intro gb205 hg w2 hbox hb; have n0_ := am (below_step (bz HB.out) hb); have n1_ := am (hbox); have n2_ := am ((by rw [hg]; exact (below_size (bz HB.out)) : w.heap.size ≤ gb205)); have n3_ := am ((by rw [hg]; exact (below_size (bz HB.out)) : w.heap.size ≤ gb205)); clear HB; revert n0_ n1_ n2_ n3_; intro HB BK205 GW205 GE205; clear hb hbox hg) | ((with_reducible refine gate_dst (N := 6) rfl ?_); refine Kd.R_lit Kd.string _ 9 ?hg (N := 6) ?hd (xs := ([(⟨#[97]⟩ : ByteArray), (⟨#[98]⟩ : ByteArray)] : List ByteArray)) (inner := [.string (⟨#[97]⟩ : ByteArray), .string (⟨#[98]⟩ : ByteArray)]) (ok := fun _ => True) (okp := fun _ => True) ?hr ?hp (fun _ hk => hk) trivial (Below.refl _ _) (Nat.le_refl _) (by simp) ?_; (case hd => rfl); (case hg => rfl); (case hr => first | (go_simp; done) | (go_simp; rfl)); (case hp => exact (Reps.one (show Kd.M Kd.string _ _ _ (⟨#[97]⟩ : ByteArray) [.string (⟨#[97]⟩ : ByteArray)] from rfl) (Reps.one (show Kd.M Kd.string _ _ _ (⟨#[98]⟩ : ByteArray) [.string (⟨#[98]⟩ : ByteArray)] from rfl) (Reps.none _ _)))); intro v207 w3 ho4 hb hg_ hnew_; clear hg_ hnew_; (first | rw [← Ny206.out] at ho4 | (simp only [Int.reduceToNat] at ho4; rw [← Ny206.out] at ho4)); have n0_ := am (Kd.R_lower ho4 (below_size (bw HB.out))); have n1_ := bk BK205 hb; have n2_ := am (below_step (bw HB.out) hb); clear BK205 HB; revert n0_ n1_ n2_; intro HO208 BK205 HB; clear hb ho4; obtain ⟨Ao5, co5, eo5⟩ := Kd.R_slice HO208.out; subst eo5))
 go_loopg [3, 8] k (fun kq v3 v8 w' => ∃ (x3_1 : ByteArray) (x8_1 : Int), v3 = .string x3_1 ∧ v8 = .int .i64 x8_1 ∧ Aside0 (impl_LettersOf.l0 kq x3_1 y206 (y206.length : Int) x8_1 a0_0 l0_1 l0_2 l0_3 = some r) ∧ Aside0 (kq ≤ k) ∧ Aside0 (Kd.R Kd.string 9 w' w.heap.size (fun _ => True) (.slice Ao5 y206.length co5) y206) ∧ Aside0 (w'.heap[gb205]? = some (.cells #[.int .i64 a0_0, (.slice A0_1 l0_1.length c0_1), (.slice A0_2 l0_2.length c0_2), (.slice A0_3 l0_3.length c0_3)] 30 (0, 0))) ∧ Aside0 (Below w.heap.size w w'))
 case atStart => exact ⟨((⟨#[]⟩ : ByteArray)), (0), (by first | rfl | (simp; done) | (simp [*]; done)), (by first | rfl | (simp; done) | (simp [*]; done)), H', ⟨Nat.le_refl _⟩, ⟨rz HO208.out⟩, ⟨kz BK205.out⟩, ⟨by exact bw HB.out⟩⟩
 case round =>
  clear H'
  try clear c1
  try clear p2
  obtain ⟨x3_1, x8_1, rfl, rfl, HA, HK1, HO_6, BK205, HB⟩ := hrel
  cases gk with
  | zero => exact absurd HA.out (by simp [impl_LettersOf.l0])
  | succ k1 =>
   have H := HA.out
   clear HA
   simp only [impl_LettersOf.l0] at H
   by_cases c6 : x8_1 < (y206.length : Int)
   ·rw [if_pos c6] at H
    have c6b0 : decide (x8_1 < (y206.length : Int)) = true := decide_eq_true c6
    clear c6
    by_cases c7 : 0 ≤ x8_1
    ·rw [if_pos c7] at H
     have c7b0 : decide (0 ≤ x8_1) = true := decide_eq_true c7
     clear c7
     by_cases c8 : x8_1 < (y206.length : Int)
     ·rw [if_pos c8] at H
      have c8b0 : decide (x8_1 < (y206.length : Int)) = true := decide_eq_true c8
      clear c8
      replace H := Option.bind_eq_some_iff.mp H
      obtain ⟨t211, A90, H⟩ := H
      (try dsimp only at H)
      have A9 := am A90
      clear A90
      by_cases c10 : t211 = true
      ·subst c10
       have H1 : ((slices_ContainsFunc_Step_at_impl_LettersOf_1.f k1 l0_3 (rdOf ByteArray.empty y206 x8_1)).bind fun t212 => (if t212 = true then (if x3_1.size + (rdOf ByteArray.empty y206 x8_1).size ≤ 9223372036854775807 then (impl_LettersOf.l0 k1 (x3_1 ++ (rdOf ByteArray.empty y206 x8_1)) y206 (y206.length : Int) (wrap64 (x8_1 + 1)) a0_0 l0_1 l0_2 l0_3) else (none)) else (impl_LettersOf.l0 k1 x3_1 y206 (y206.length : Int) (wrap64 (x8_1 + 1)) a0_0 l0_1 l0_2 l0_3))) = some r := by rw [if_pos rfl] at H; exact H
       clear H
       have H := H1
       clear H1
       replace H := Option.bind_eq_some_iff.mp H
       obtain ⟨t212, A110, H⟩ := H
       (try dsimp only at H)
       have A11 := am A110
       clear A110
       by_cases c12 : t212 = true
       ·subst c12
        have H1 : (if x3_1.size + (rdOf ByteArray.empty y206 x8_1).size ≤ 9223372036854775807 then (impl_LettersOf.l0 k1 (x3_1 ++ (rdOf ByteArray.empty y206 x8_1)) y206 (y206.length : Int) (wrap64 (x8_1 + 1)) a0_0 l0_1 l0_2 l0_3) else (none)) = some r := by rw [if_pos rfl] at H; exact H
        clear H
        have H := H1
        clear H1
        by_cases c13 : x3_1.size + (rdOf ByteArray.empty y206 x8_1).size ≤ 9223372036854775807
        ·rw [if_pos c13] at H
         have c13b0 := eq_true c13
         have c13b1 : decide (x3_1.size + (rdOf ByteArray.empty y206 x8_1).size ≤ 9223372036854775807) = true := decide_eq_true c13
         try have c13b2 : (9223372036854775807 < x3_1.size + (rdOf ByteArray.empty y206 x8_1).size) = False := eq_false (Nat.not_lt.2 c13)
         have H' := am H
         clear H
         have p209 : 0 ≤ (x8_1 : Int) := of_decide_eq_true (by first | (with_reducible assumption) | assumption)
         have q209 : x8_1 < (y206.length : Int) := of_decide_eq_true (by first | (with_reducible assumption) | assumption)
         obtain ⟨ad209, e209, hx209_0⟩ := Kd.at_string (Kd.R_reads' HO_6.out).2.2 x8_1 p209 q209
         cases e209
         replace p209 := eq_true p209
         replace q209 := eq_true q209
         go_wp2_with (first | ((with_reducible refine gate_dst (N := 5) rfl ?_); refine box_event ?hg (N := 5) ?hd (cs := #[.string (⟨#[]⟩ : ByteArray)]) (t := 9) ?hr ?_; (case hd => rfl); (case hg => rfl); (case hr => first | (go_simp; done) | (go_simp; rfl)); intro gb210 hg w14 hbox hb; have n0_ := am (Kd.R_below (Kd.R_elderB (rz HO_6.out) gb210 (Nat.le_of_eq hg.symm)) hb); have n1_ := bk BK205 hb; have n2_ := am (below_step (bw HB.out) hb); have n3_ := am (hbox); have n4_ := am ((by rw [hg]; exact (below_size (bw HB.out)) : w.heap.size ≤ gb210)); have n5_ := am ((by rw [hg]; exact (below_size (bw HB.out)) : w.heap.size ≤ gb210)); have n6_ := am ((by rw [hg]; exact Nat.ne_of_lt (blk_lt (kz BK205.out)) : gb205 ≠ gb210)); have n7_ := am ((by rw [hg]; exact Nat.ne_of_gt (blk_lt (kz BK205.out)) : gb210 ≠ gb205)); clear HO_6 BK205 HB; revert n0_ n1_ n2_ n3_ n4_ n5_ n6_ n7_; intro HO_6 BK205 HB BK210 GW210 GE210 NB205_210 NB210_205; clear hb hbox hg; have hnb15 := NB210_205.out; have hnc15 := NB205_210.out; have hcz16_0 : w14.cell? ⟨gb210, 0, none⟩ = some (.string (⟨#[]⟩ : ByteArray)) := (blk_cell BK210.out 0).trans rfl; have hfz16_0 := blk_frozen BK210.out 0; have hcz17_0 := cz40 BK205.out; have hcz17_1 := cz41 BK205.out; have hcz17_2 := cz42 BK205.out; have hcz17_3 := cz43 BK205.out; have hfz17_0 := blk_frozen BK205.out 0; have hfz17_1 := blk_frozen BK205.out 1; have hfz17_2 := blk_frozen BK205.out 2; have hfz17_3 := blk_frozen BK205.out 3) | ((with_reducible refine gate_callee (f := 14) rfl ?_); refine goesL_ (some 13) rfl rfl Try.func14 (by kernel_rfl) rfl #[.agg #[.int .i64 a0_0, .slice A0_1 l0_1.length c0_1, .slice A0_2 l0_2.length c0_2, .slice A0_3 l0_3.length c0_3]] rfl (by (try simp only [List.map_toArray, List.map_cons, List.map_nil]); first | done | rfl | (simp only [List.length_drop, List.length_take]; rfl)) ?_; (with_reducible refine (impl_AutomatonValid.calls k1 a0_0 _ _ l0_1 _ _ l0_2 _ _ l0_3 true _ ?side1 ?side2 ?side3 ?side4 ?side5 ?side6 A9.out).mono ?_); (case side1 => exact Kd.C_below HR0_1.out (bw HB.out)); (case side2 => exact HC0_1.out); (case side3 => exact Kd.C_below HR0_2.out (bw HB.out)); (case side4 => exact HC0_2.out); (case side5 => exact Kd.C_below HR0_3.out (bw HB.out)); (case side6 => exact HC0_3.out); rintro e w18 ⟨rfl, hb⟩; refine ⟨_, rfl, ?_⟩; have n0_ := am (Kd.R_below (by (with_reducible repeat (first | apply ra | apply rn | apply rw_)); exact (Kd.R_mono (Kd.R_far (p := ⟨gb210, 0, none⟩) (Kd.R_mono HO_6.out (fun k_ hk => (⟨hk, hk.2⟩ : _ ∧ k_ ≠ gb210))) (fun _ hk => hk.2) (.string (rdOf ByteArray.empty y206 x8_1))) (fun _ h_ => h_.1))) hb); have n1_ := am (blk_below (kf BK205.out) hb); have n2_ := am (blk_below (g := gb210) (o := .cells #[.string (rdOf ByteArray.empty y206 x8_1)] 9 (0, 0)) (by (with_reducible repeat (first | refine kn ?_ _ | refine kd ?_ | refine ka ?_ _)); refine blk_put (cs := #[.string (⟨#[]⟩ : ByteArray)]) ?_ 0 _ rfl; (with_reducible repeat (first | refine kn ?_ _ | refine kd ?_ | refine ka ?_ _)); exact BK210.out) hb); have n3_ := am (below_step (bw HB.out) hb); clear HO_6 BK205 BK210 HB; revert n0_ n1_ n2_ n3_; intro HO_6 BK205 BK210 HB; (try clear hb); (try clear hb2); (try clear hk); (try clear hi); have hcz19_0 := cz40 BK205.out; have hcz19_1 := cz41 BK205.out; have hcz19_2 := cz42 BK205.out; have hcz19_3 := cz43 BK205.out; have hfz19_0 := blk_frozen BK205.out 0; have hfz19_1 := blk_frozen BK205.out 1; have hfz19_2 := blk_frozen BK205.out 2; have hfz19_3 := blk_frozen BK205.out 3) | (go_at_call 47; (with_reducible refine (slices_ContainsFunc_Step_at_impl_LettersOf_1.calls k1 _ _ l0_3 (rdOf ByteArray.empty y206 x8_1) true _ ?side1 ?side2 A11.out gb210 (kz BK210.out)).mono ?_); (case side1 => repeat (first | exact (Kd.C_below HR0_3.out HB.out) | (with_reducible refine Kd.C_alloc ?_ _) | (with_reducible refine Kd.C_drewN ?_ _) | (with_reducible refine Kd.C_drew ?_))); (case side2 => exact HC0_3.out); rintro e w20 ⟨rfl, hb⟩; have n0_ := am (Kd.R_below (rz HO_6.out) hb); have n1_ := bk BK205 hb; have n2_ := bk BK210 hb; have n3_ := am (below_step (bw HB.out) hb); clear HO_6 BK205 BK210 HB; revert n0_ n1_ n2_ n3_; intro HO_6 BK205 BK210 HB; (try clear hb); (try clear hb2); (try clear hk); (try clear hi); have hcz21_0 : w20.cell? ⟨gb210, 0, none⟩ = some (.string (rdOf ByteArray.empty y206 x8_1)) := (blk_cell BK210.out 0).trans rfl; have hfz21_0 := blk_frozen BK210.out 0))
         go_roundg k1
         case measure => have := HK1.out; omega
         case rel => exact ⟨(x3_1 ++ (rdOf ByteArray.empty y206 x8_1)), (wrap64 (x8_1 + 1)), (by first | rfl | (simp; done) | (simp [*]; done)), (by first | rfl | (simp; done) | (simp [*]; done)), H', ⟨by have := HK1.out; omega⟩, ⟨by (with_reducible repeat (first | apply ra | apply rn | apply rw_)); exact Kd.R_mono HO_6.out (fun _ hk => trivial)⟩, ⟨kz BK205.out⟩, ⟨by exact bw HB.out⟩⟩
        ·rw [if_neg c13] at H
         exact absurd H (by simp)
       ·replace c12 := Bool.eq_false_iff.mpr c12
        subst c12
        have H1 : (impl_LettersOf.l0 k1 x3_1 y206 (y206.length : Int) (wrap64 (x8_1 + 1)) a0_0 l0_1 l0_2 l0_3) = some r := by rw [if_neg (show ¬ (false = true) by decide)] at H; exact H
        clear H
        have H := H1
        clear H1
        have H' := am H
        clear H
        have p209 : 0 ≤ (x8_1 : Int) := of_decide_eq_true (by first | (with_reducible assumption) | assumption)
        have q209 : x8_1 < (y206.length : Int) := of_decide_eq_true (by first | (with_reducible assumption) | assumption)
        obtain ⟨ad209, e209, hx209_0⟩ := Kd.at_string (Kd.R_reads' HO_6.out).2.2 x8_1 p209 q209
        cases e209
        replace p209 := eq_true p209
        replace q209 := eq_true q209
        go_wp2_with (first | ((with_reducible refine gate_dst (N := 5) rfl ?_); refine box_event ?hg (N := 5) ?hd (cs := #[.string (⟨#[]⟩ : ByteArray)]) (t := 9) ?hr ?_; (case hd => rfl); (case hg => rfl); (case hr => first | (go_simp; done) | (go_simp; rfl)); intro gb210 hg w22 hbox hb; have n0_ := am (Kd.R_below (Kd.R_elderB (rz HO_6.out) gb210 (Nat.le_of_eq hg.symm)) hb); have n1_ := bk BK205 hb; have n2_ := am (below_step (bw HB.out) hb); have n3_ := am (hbox); have n4_ := am ((by rw [hg]; exact (below_size (bw HB.out)) : w.heap.size ≤ gb210)); have n5_ := am ((by rw [hg]; exact (below_size (bw HB.out)) : w.heap.size ≤ gb210)); have n6_ := am ((by rw [hg]; exact Nat.ne_of_lt (blk_lt (kz BK205.out)) : gb205 ≠ gb210)); have n7_ := am ((by rw [hg]; exact Nat.ne_of_gt (blk_lt (kz BK205.out)) : gb210 ≠ gb205)); clear HO_6 BK205 HB; revert n0_ n1_ n2_ n3_ n4_ n5_ n6_ n7_; intro HO_6 BK205 HB BK210 GW210 GE210 NB205_210 NB210_205; clear hb hbox hg; have hnb23 := NB210_205.out; have hnc23 := NB205_210.out; have hcz24_0 : w22.cell? ⟨gb210, 0, none⟩ = some (.string (⟨#[]⟩ : ByteArray)) := (blk_cell BK210.out 0).trans rfl; have hfz24_0 := blk_frozen BK210.out 0; have hcz25_0 := cz40 BK205.out; have hcz25_1 := cz41 BK205.out; have hcz25_2 := cz42 BK205.out; have hcz25_3 := cz43 BK205.out; have hfz25_0 := blk_frozen BK205.out 0; have hfz25_1 := blk_frozen BK205.out 1; have hfz25_2 := blk_frozen BK205.out 2; have hfz25_3 := blk_frozen BK205.out 3) | ((with_reducible refine gate_callee (f := 14) rfl ?_); refine goesL_ (some 13) rfl rfl Try.func14 (by kernel_rfl) rfl #[.agg #[.int .i64 a0_0, .slice A0_1 l0_1.length c0_1, .slice A0_2 l0_2.length c0_2, .slice A0_3 l0_3.length c0_3]] rfl (by (try simp only [List.map_toArray, List.map_cons, List.map_nil]); first | done | rfl | (simp only [List.length_drop, List.length_take]; rfl)) ?_; (with_reducible refine (impl_AutomatonValid.calls k1 a0_0 _ _ l0_1 _ _ l0_2 _ _ l0_3 true _ ?side1 ?side2 ?side3 ?side4 ?side5 ?side6 A9.out).mono ?_); (case side1 => exact Kd.C_below HR0_1.out (bw HB.out)); (case side2 => exact HC0_1.out); (case side3 => exact Kd.C_below HR0_2.out (bw HB.out)); (case side4 => exact HC0_2.out); (case side5 => exact Kd.C_below HR0_3.out (bw HB.out)); (case side6 => exact HC0_3.out); rintro e w26 ⟨rfl, hb⟩; refine ⟨_, rfl, ?_⟩; have n0_ := am (Kd.R_below (by (with_reducible repeat (first | apply ra | apply rn | apply rw_)); exact (Kd.R_mono (Kd.R_far (p := ⟨gb210, 0, none⟩) (Kd.R_mono HO_6.out (fun k_ hk => (⟨hk, hk.2⟩ : _ ∧ k_ ≠ gb210))) (fun _ hk => hk.2) (.string (rdOf ByteArray.empty y206 x8_1))) (fun _ h_ => h_.1))) hb); have n1_ := am (blk_below (kf BK205.out) hb); have n2_ := am (blk_below (g := gb210) (o := .cells #[.string (rdOf ByteArray.empty y206 x8_1)] 9 (0, 0)) (by (with_reducible repeat (first | refine kn ?_ _ | refine kd ?_ | refine ka ?_ _)); refine blk_put (cs := #[.string (⟨#[]⟩ : ByteArray)]) ?_ 0 _ rfl; (with_reducible repeat (first | refine kn ?_ _ | refine kd ?_ | refine ka ?_ _)); exact BK210.out) hb); have n3_ := am (below_step (bw HB.out) hb); clear HO_6 BK205 BK210 HB; revert n0_ n1_ n2_ n3_; intro HO_6 BK205 BK210 HB; (try clear hb); (try clear hb2); (try clear hk); (try clear hi); have hcz27_0 := cz40 BK205.out; have hcz27_1 := cz41 BK205.out; have hcz27_2 := cz42 BK205.out; have hcz27_3 := cz43 BK205.out; have hfz27_0 := blk_frozen BK205.out 0; have hfz27_1 := blk_frozen BK205.out 1; have hfz27_2 := blk_frozen BK205.out 2; have hfz27_3 := blk_frozen BK205.out 3) | (go_at_call 47; (with_reducible refine (slices_ContainsFunc_Step_at_impl_LettersOf_1.calls k1 _ _ l0_3 (rdOf ByteArray.empty y206 x8_1) false _ ?side1 ?side2 A11.out gb210 (kz BK210.out)).mono ?_); (case side1 => repeat (first | exact (Kd.C_below HR0_3.out HB.out) | (with_reducible refine Kd.C_alloc ?_ _) | (with_reducible refine Kd.C_drewN ?_ _) | (with_reducible refine Kd.C_drew ?_))); (case side2 => exact HC0_3.out); rintro e w28 ⟨rfl, hb⟩; have n0_ := am (Kd.R_below (rz HO_6.out) hb); have n1_ := bk BK205 hb; have n2_ := bk BK210 hb; have n3_ := am (below_step (bw HB.out) hb); clear HO_6 BK205 BK210 HB; revert n0_ n1_ n2_ n3_; intro HO_6 BK205 BK210 HB; (try clear hb); (try clear hb2); (try clear hk); (try clear hi)))
        go_roundg k1
        case measure => have := HK1.out; omega
        case rel => exact ⟨(x3_1), (wrap64 (x8_1 + 1)), (by first | rfl | (simp; done) | (simp [*]; done)), (by first | rfl | (simp; done) | (simp [*]; done)), H', ⟨by have := HK1.out; omega⟩, ⟨by (with_reducible repeat (first | apply ra | apply rn | apply rw_)); exact Kd.R_mono HO_6.out (fun _ hk => trivial)⟩, ⟨kz BK205.out⟩, ⟨by exact bw HB.out⟩⟩
      ·replace c10 := Bool.eq_false_iff.mpr c10
       subst c10
       have H1 : (impl_LettersOf.l0 k1 x3_1 y206 (y206.length : Int) (wrap64 (x8_1 + 1)) a0_0 l0_1 l0_2 l0_3) = some r := by rw [if_neg (show ¬ (false = true) by decide)] at H; exact H
       clear H
       have H := H1
       clear H1
       have H' := am H
       clear H
       have p209 : 0 ≤ (x8_1 : Int) := of_decide_eq_true (by first | (with_reducible assumption) | assumption)
       have q209 : x8_1 < (y206.length : Int) := of_decide_eq_true (by first | (with_reducible assumption) | assumption)
       obtain ⟨ad209, e209, hx209_0⟩ := Kd.at_string (Kd.R_reads' HO_6.out).2.2 x8_1 p209 q209
       cases e209
       replace p209 := eq_true p209
       replace q209 := eq_true q209
       go_wp2_with (first | ((with_reducible refine gate_dst (N := 5) rfl ?_); refine box_event ?hg (N := 5) ?hd (cs := #[.string (⟨#[]⟩ : ByteArray)]) (t := 9) ?hr ?_; (case hd => rfl); (case hg => rfl); (case hr => first | (go_simp; done) | (go_simp; rfl)); intro gb210 hg w29 hbox hb; have n0_ := am (Kd.R_below (Kd.R_elderB (rz HO_6.out) gb210 (Nat.le_of_eq hg.symm)) hb); have n1_ := bk BK205 hb; have n2_ := am (below_step (bw HB.out) hb); have n3_ := am (hbox); have n4_ := am ((by rw [hg]; exact (below_size (bw HB.out)) : w.heap.size ≤ gb210)); have n5_ := am ((by rw [hg]; exact (below_size (bw HB.out)) : w.heap.size ≤ gb210)); have n6_ := am ((by rw [hg]; exact Nat.ne_of_lt (blk_lt (kz BK205.out)) : gb205 ≠ gb210)); have n7_ := am ((by rw [hg]; exact Nat.ne_of_gt (blk_lt (kz BK205.out)) : gb210 ≠ gb205)); clear HO_6 BK205 HB; revert n0_ n1_ n2_ n3_ n4_ n5_ n6_ n7_; intro HO_6 BK205 HB BK210 GW210 GE210 NB205_210 NB210_205; clear hb hbox hg; have hnb30 := NB210_205.out; have hnc30 := NB205_210.out; have hcz31_0 : w29.cell? ⟨gb210, 0, none⟩ = some (.string (⟨#[]⟩ : ByteArray)) := (blk_cell BK210.out 0).trans rfl; have hfz31_0 := blk_frozen BK210.out 0; have hcz32_0 := cz40 BK205.out; have hcz32_1 := cz41 BK205.out; have hcz32_2 := cz42 BK205.out; have hcz32_3 := cz43 BK205.out; have hfz32_0 := blk_frozen BK205.out 0; have hfz32_1 := blk_frozen BK205.out 1; have hfz32_2 := blk_frozen BK205.out 2; have hfz32_3 := blk_frozen BK205.out 3) | ((with_reducible refine gate_callee (f := 14) rfl ?_); refine goesL_ (some 13) rfl rfl Try.func14 (by kernel_rfl) rfl #[.agg #[.int .i64 a0_0, .slice A0_1 l0_1.length c0_1, .slice A0_2 l0_2.length c0_2, .slice A0_3 l0_3.length c0_3]] rfl (by (try simp only [List.map_toArray, List.map_cons, List.map_nil]); first | done | rfl | (simp only [List.length_drop, List.length_take]; rfl)) ?_; (with_reducible refine (impl_AutomatonValid.calls k1 a0_0 _ _ l0_1 _ _ l0_2 _ _ l0_3 false _ ?side1 ?side2 ?side3 ?side4 ?side5 ?side6 A9.out).mono ?_); (case side1 => exact Kd.C_below HR0_1.out (bw HB.out)); (case side2 => exact HC0_1.out); (case side3 => exact Kd.C_below HR0_2.out (bw HB.out)); (case side4 => exact HC0_2.out); (case side5 => exact Kd.C_below HR0_3.out (bw HB.out)); (case side6 => exact HC0_3.out); rintro e w33 ⟨rfl, hb⟩; refine ⟨_, rfl, ?_⟩; have n0_ := am (Kd.R_below (by (with_reducible repeat (first | apply ra | apply rn | apply rw_)); exact (Kd.R_mono (Kd.R_far (p := ⟨gb210, 0, none⟩) (Kd.R_mono HO_6.out (fun k_ hk => (⟨hk, hk.2⟩ : _ ∧ k_ ≠ gb210))) (fun _ hk => hk.2) (.string (rdOf ByteArray.empty y206 x8_1))) (fun _ h_ => h_.1))) hb); have n1_ := am (blk_below (kf BK205.out) hb); have n2_ := am (blk_below (g := gb210) (o := .cells #[.string (rdOf ByteArray.empty y206 x8_1)] 9 (0, 0)) (by (with_reducible repeat (first | refine kn ?_ _ | refine kd ?_ | refine ka ?_ _)); refine blk_put (cs := #[.string (⟨#[]⟩ : ByteArray)]) ?_ 0 _ rfl; (with_reducible repeat (first | refine kn ?_ _ | refine kd ?_ | refine ka ?_ _)); exact BK210.out) hb); have n3_ := am (below_step (bw HB.out) hb); clear HO_6 BK205 BK210 HB; revert n0_ n1_ n2_ n3_; intro HO_6 BK205 BK210 HB; (try clear hb); (try clear hb2); (try clear hk); (try clear hi)))
       go_roundg k1
       case measure => have := HK1.out; omega
       case rel => exact ⟨(x3_1), (wrap64 (x8_1 + 1)), (by first | rfl | (simp; done) | (simp [*]; done)), (by first | rfl | (simp; done) | (simp [*]; done)), H', ⟨by have := HK1.out; omega⟩, ⟨by (with_reducible repeat (first | apply ra | apply rn | apply rw_)); exact Kd.R_mono HO_6.out (fun _ hk => trivial)⟩, ⟨kz BK205.out⟩, ⟨by exact bw HB.out⟩⟩
     ·rw [if_neg c8] at H
      exact absurd H (by simp)
    ·rw [if_neg c7] at H
     exact absurd H (by simp)
   ·rw [if_neg c6] at H
    have c6b0 : decide (x8_1 < (y206.length : Int)) = false := decide_eq_false c6
    clear c6
    obtain rfl := Option.some.inj H
    go_wp2
    go_ret
    exact ⟨by first | rfl | (simp [errW_none, errW_some] <;> rfl) | (simp [*, errW_none, errW_some] <;> rfl), by exact bw HB.out⟩

/-! ### laws_FnExactLettersOf: function 4 -/
def laws_FnExactLettersOf.f (k : Nat) (a0_0 : Int) (l0_1 : List Int) (l0_2 : List Int) (l0_3 : List (S90)) : Option (Bool) := (laws_szAutomaton.f k a0_0 l0_1 l0_2 l0_3 1048576).bind fun t214 => (if t214 < 0 then (some true) else ((laws_toAutomaton.f k a0_0 l0_1 l0_2 l0_3).bind fun bt215 => ((spec_LettersOf.f k bt215.1 bt215.2.1 bt215.2.2.1 bt215.2.2.2).bind fun t225 => ((laws_toAutomaton.f k a0_0 l0_1 l0_2 l0_3).bind fun bt226 => ((impl_LettersOf.f k bt226.1 bt226.2.1 bt226.2.2.1 bt226.2.2.2).bind fun t237 => (if t237.toList = t225.toList then ((laws_toAutomaton.f k a0_0 l0_1 l0_2 l0_3).bind fun bt238 => ((laws_eqAutomaton.f k bt226.1 bt226.2.1 bt226.2.2.1 bt226.2.2.2 bt238.1 bt238.2.1 bt238.2.2.1 bt238.2.2.2).bind fun t248 => (if t248 = true then (some true) else (none)))) else (none)))))))
theorem laws_FnExactLettersOf.mono : ∀ a0 a1 a2 a3 k, LeO (laws_FnExactLettersOf.f k a0 a1 a2 a3) (laws_FnExactLettersOf.f (k + 1) a0 a1 a2 a3) := by
 intro a0 a1 a2 a3 k
 unfold laws_FnExactLettersOf.f
 repeat' first
   | (with_reducible exact impl_LettersOf.mono _ _ _ _ _)
   | (with_reducible exact laws_eqAutomaton.mono _ _ _ _ _ _ _ _ _)
   | (with_reducible exact laws_szAutomaton.mono _ _ _ _ _ _)
   | (with_reducible exact laws_toAutomaton.mono _ _ _ _ _)
   | (with_reducible exact spec_LettersOf.mono _ _ _ _ _)
   | (with_reducible exact LeO.refl _)
   | (with_reducible exact LeO.none _)
   | (with_reducible refine LeO.ite ?_ ?_)
   | (with_reducible refine LeO.bind ?_ (fun _ => ?_))
   | exact impl_LettersOf.mono _ _ _ _ _
   | exact laws_eqAutomaton.mono _ _ _ _ _ _ _ _ _
   | exact laws_szAutomaton.mono _ _ _ _ _ _
   | exact laws_toAutomaton.mono _ _ _ _ _
   | exact spec_LettersOf.mono _ _ _ _ _
   | exact LeO.none _
   | refine LeO.ite ?_ ?_
   | refine LeO.bind ?_ (fun _ => ?_)
set_option maxHeartbeats 8000000 in
set_option maxRecDepth 100000 in
theorem laws_FnExactLettersOf.calls (k : Nat) (a0_0 : Int) (A0_1 : Option Addr) (c0_1 : Nat) (l0_1 : List Int) (A0_2 : Option Addr) (c0_2 : Nat) (l0_2 : List Int) (A0_3 : Option Addr) (c0_3 : Nat) (l0_3 : List (S90)) (r : Bool) (w : World) (hr0_1 : Kd.C (Kd.int .i64) w A0_1 l0_1.length l0_1) (hc0_1 : l0_1.length ≤ c0_1) (hr0_2 : Kd.C (Kd.int .i64) w A0_2 l0_2.length l0_2) (hc0_2 : l0_2.length ≤ c0_2) (hr0_3 : Kd.C k90 w A0_3 l0_3.length l0_3) (hc0_3 : l0_3.length ≤ c0_3) (h : laws_FnExactLettersOf.f k a0_0 l0_1 l0_2 l0_3 = some r) :
  Calls Try.prog 4 #[.agg #[.int .i64 a0_0, .slice A0_1 l0_1.length c0_1, .slice A0_2 l0_2.length c0_2, .slice A0_3 l0_3.length c0_3]] w fun e w' => e = .returned (.bool r) ∧ Below w.heap.size w w' := by
 have hu25 := Try.underlying25
 have hu30 := Try.underlying30
 have HR0_1 := am hr0_1
 have HC0_1 := am hc0_1
 clear hr0_1 hc0_1
 have HR0_2 := am hr0_2
 have HC0_2 := am hc0_2
 clear hr0_2 hc0_2
 have HR0_3 := am hr0_3
 have HC0_3 := am hc0_3
 clear hr0_3 hc0_3
 have HB := am (Below.refl w.heap.size w)
 have H : ((laws_szAutomaton.f k a0_0 l0_1 l0_2 l0_3 1048576).bind fun t214 => (if t214 < 0 then (some true) else ((laws_toAutomaton.f k a0_0 l0_1 l0_2 l0_3).bind fun bt215 => ((spec_LettersOf.f k bt215.1 bt215.2.1 bt215.2.2.1 bt215.2.2.2).bind fun t225 => ((laws_toAutomaton.f k a0_0 l0_1 l0_2 l0_3).bind fun bt226 => ((impl_LettersOf.f k bt226.1 bt226.2.1 bt226.2.2.1 bt226.2.2.2).bind fun t237 => (if t237.toList = t225.toList then ((laws_toAutomaton.f k a0_0 l0_1 l0_2 l0_3).bind fun bt238 => ((laws_eqAutomaton.f k bt226.1 bt226.2.1 bt226.2.2.1 bt226.2.2.2 bt238.1 bt238.2.1 bt238.2.2.1 bt238.2.2.2).bind fun t248 => (if t248 = true then (some true) else (none)))) else (none)))))))) = some r := h
 clear h
 replace H := Option.bind_eq_some_iff.mp H
 obtain ⟨t214, A20, H⟩ := H
 (try dsimp only at H)
 have A2 := am A20
 clear A20
 by_cases c3 : t214 < 0
 ·rw [if_pos c3] at H
  have c3b0 : decide (t214 < 0) = true := decide_eq_true c3
  clear c3
  obtain rfl := Option.some.inj H
  go_enter Try.func4, Try.ntmps4
  go_wp2_with (first | ((with_reducible refine gate_dst (N := 1) rfl ?_); refine box_event ?hg (N := 1) ?hd (cs := #[.int .i64 a0_0, .slice A0_1 l0_1.length c0_1, .slice A0_2 l0_2.length c0_2, .slice A0_3 l0_3.length c0_3]) (t := 25) ?hr ?_; (case hd => rfl); (case hg => rfl); (case hr => first | (go_simp; done) | (go_simp; rfl)); intro gb213 hg w4 hbox hb; have n0_ := am (below_step (bz HB.out) hb); have n1_ := am (hbox); have n2_ := am ((by rw [hg]; exact (below_size (bz HB.out)) : w.heap.size ≤ gb213)); have n3_ := am ((by rw [hg]; exact (below_size (bz HB.out)) : w.heap.size ≤ gb213)); clear HB; revert n0_ n1_ n2_ n3_; intro HB BK213 GW213 GE213; clear hb hbox hg; have hcz5_0 := cz40 BK213.out; have hcz5_1 := cz41 BK213.out; have hcz5_2 := cz42 BK213.out; have hcz5_3 := cz43 BK213.out; have hfz5_0 := blk_frozen BK213.out 0; have hfz5_1 := blk_frozen BK213.out 1; have hfz5_2 := blk_frozen BK213.out 2; have hfz5_3 := blk_frozen BK213.out 3) | ((with_reducible refine gate_callee (f := 11) rfl ?_); refine goesL_ (some 9) rfl rfl Try.func11 (by kernel_rfl) rfl #[.agg #[.int .i64 a0_0, .slice A0_1 l0_1.length c0_1, .slice A0_2 l0_2.length c0_2, .slice A0_3 l0_3.length c0_3], .int .i64 1048576] rfl (by (try simp only [List.map_toArray, List.map_cons, List.map_nil]); first | done | rfl | (simp only [List.length_drop, List.length_take]; rfl)) ?_; (with_reducible refine (laws_szAutomaton.calls k a0_0 _ _ l0_1 _ _ l0_2 _ _ l0_3 1048576 t214 _ ?side1 ?side2 ?side3 ?side4 ?side5 ?side6 A2.out).mono ?_); (case side1 => repeat (first | exact (Kd.C_below HR0_1.out HB.out) | (with_reducible refine Kd.C_alloc ?_ _) | (with_reducible refine Kd.C_drewN ?_ _) | (with_reducible refine Kd.C_drew ?_))); (case side2 => exact HC0_1.out); (case side3 => repeat (first | exact (Kd.C_below HR0_2.out HB.out) | (with_reducible refine Kd.C_alloc ?_ _) | (with_reducible refine Kd.C_drewN ?_ _) | (with_reducible refine Kd.C_drew ?_))); (case side4 => exact HC0_2.out); (case side5 => repeat (first | exact (Kd.C_below HR0_3.out HB.out) | (with_reducible refine Kd.C_alloc ?_ _) | (with_reducible refine Kd.C_drewN ?_ _) | (with_reducible refine Kd.C_drew ?_))); (case side6 => exact HC0_3.out); rintro e w6 ⟨rfl, hb⟩; refine ⟨_, rfl, ?_⟩; have n0_ := bk BK213 hb; have n1_ := am (below_step (bw HB.out) hb); clear BK213 HB; revert n0_ n1_; intro BK213 HB; (try clear hb); (try clear hb2); (try clear hk); (try clear hi)))
  go_ret
  exact ⟨by first | rfl | (simp [errW_none, errW_some] <;> rfl) | (simp [*, errW_none, errW_some] <;> rfl), by exact bw HB.out⟩
 ·rw [if_neg c3] at H
  have c3b0 : decide (t214 < 0) = false := decide_eq_false c3
  clear c3
  replace H := Option.bind_eq_some_iff.mp H
  obtain ⟨⟨t215, t216, t219, t222⟩, A70, H⟩ := H
  (try dsimp only at H)
  have A7 := am A70
  clear A70
  replace H := Option.bind_eq_some_iff.mp H
  obtain ⟨t225, A80, H⟩ := H
  (try dsimp only at H)
  have A8 := am A80
  clear A80
  replace H := Option.bind_eq_some_iff.mp H
  obtain ⟨⟨t226, t227, t230, t233⟩, A90, H⟩ := H
  (try dsimp only at H)
  have A9 := am A90
  clear A90
  replace H := Option.bind_eq_some_iff.mp H
  obtain ⟨t237, A100, H⟩ := H
  (try dsimp only at H)
  have A10 := am A100
  clear A100
  by_cases c11 : t237.toList = t225.toList
  ·rw [if_pos c11] at H
   have c11b0 : (t237.toList == t225.toList) = true := beq_iff_eq.mpr c11
   have c11b1 : (t237.toList != t225.toList) = false := bne_eq_false_iff_eq.mpr c11
   clear c11
   replace H := Option.bind_eq_some_iff.mp H
   obtain ⟨⟨t238, t239, t242, t245⟩, A120, H⟩ := H
   (try dsimp only at H)
   have A12 := am A120
   clear A120
   replace H := Option.bind_eq_some_iff.mp H
   obtain ⟨t248, A130, H⟩ := H
   (try dsimp only at H)
   have A13 := am A130
   clear A130
   by_cases c14 : t248 = true
   ·subst c14
    have H1 : (some true) = some r := by rw [if_pos rfl] at H; exact H
    clear H
    have H := H1
    clear H1
    obtain rfl := Option.some.inj H
    go_enter Try.func4, Try.ntmps4
    try go_wp2_with (first | ((with_reducible refine gate_dst (N := 1) rfl ?_); refine box_event ?hg (N := 1) ?hd (cs := #[.int .i64 a0_0, .slice A0_1 l0_1.length c0_1, .slice A0_2 l0_2.length c0_2, .slice A0_3 l0_3.length c0_3]) (t := 25) ?hr ?_; (case hd => rfl); (case hg => rfl); (case hr => first | (go_simp; done) | (go_simp; rfl)); intro gb213 hg w15 hbox hb; have n0_ := am (below_step (bz HB.out) hb); have n1_ := am (hbox); have n2_ := am ((by rw [hg]; exact (below_size (bz HB.out)) : w.heap.size ≤ gb213)); have n3_ := am ((by rw [hg]; exact (below_size (bz HB.out)) : w.heap.size ≤ gb213)); clear HB; revert n0_ n1_ n2_ n3_; intro HB BK213 GW213 GE213; clear hb hbox hg; have hcz16_0 := cz40 BK213.out; have hcz16_1 := cz41 BK213.out; have hcz16_2 := cz42 BK213.out; have hcz16_3 := cz43 BK213.out; have hfz16_0 := blk_frozen BK213.out 0; have hfz16_1 := blk_frozen BK213.out 1; have hfz16_2 := blk_frozen BK213.out 2; have hfz16_3 := blk_frozen BK213.out 3) | ((with_reducible refine gate_callee (f := 11) rfl ?_); refine goesL_ (some 9) rfl rfl Try.func11 (by kernel_rfl) rfl #[.agg #[.int .i64 a0_0, .slice A0_1 l0_1.length c0_1, .slice A0_2 l0_2.length c0_2, .slice A0_3 l0_3.length c0_3], .int .i64 1048576] rfl (by (try simp only [List.map_toArray, List.map_cons, List.map_nil]); first | done | rfl | (simp only [List.length_drop, List.length_take]; rfl)) ?_; (with_reducible refine (laws_szAutomaton.calls k a0_0 _ _ l0_1 _ _ l0_2 _ _ l0_3 1048576 t214 _ ?side1 ?side2 ?side3 ?side4 ?side5 ?side6 A2.out).mono ?_); (case side1 => repeat (first | exact (Kd.C_below HR0_1.out HB.out) | (with_reducible refine Kd.C_alloc ?_ _) | (with_reducible refine Kd.C_drewN ?_ _) | (with_reducible refine Kd.C_drew ?_))); (case side2 => exact HC0_1.out); (case side3 => repeat (first | exact (Kd.C_below HR0_2.out HB.out) | (with_reducible refine Kd.C_alloc ?_ _) | (with_reducible refine Kd.C_drewN ?_ _) | (with_reducible refine Kd.C_drew ?_))); (case side4 => exact HC0_2.out); (case side5 => repeat (first | exact (Kd.C_below HR0_3.out HB.out) | (with_reducible refine Kd.C_alloc ?_ _) | (with_reducible refine Kd.C_drewN ?_ _) | (with_reducible refine Kd.C_drew ?_))); (case side6 => exact HC0_3.out); rintro e w17 ⟨rfl, hb⟩; refine ⟨_, rfl, ?_⟩; have n0_ := bk BK213 hb; have n1_ := am (below_step (bw HB.out) hb); clear BK213 HB; revert n0_ n1_; intro BK213 HB; (try clear hb); (try clear hb2); (try clear hk); (try clear hi); have hcz18_0 := cz40 BK213.out; have hcz18_1 := cz41 BK213.out; have hcz18_2 := cz42 BK213.out; have hcz18_3 := cz43 BK213.out; have hfz18_0 := blk_frozen BK213.out 0; have hfz18_1 := blk_frozen BK213.out 1; have hfz18_2 := blk_frozen BK213.out 2; have hfz18_3 := blk_frozen BK213.out 3) | ((with_reducible refine gate_callee (f := 13) rfl ?_); refine goesL_ (some 13) rfl rfl Try.func13 (by kernel_rfl) rfl #[.agg #[.int .i64 a0_0, .slice A0_1 l0_1.length c0_1, .slice A0_2 l0_2.length c0_2, .slice A0_3 l0_3.length c0_3]] rfl (by (try simp only [List.map_toArray, List.map_cons, List.map_nil]); first | done | rfl | (simp only [List.length_drop, List.length_take]; rfl)) ?_; (with_reducible refine (laws_toAutomaton.calls k a0_0 _ _ l0_1 _ _ l0_2 _ _ l0_3 t215 t216 t219 t222 _ ?side1 ?side2 ?side3 ?side4 ?side5 ?side6 A7.out).mono ?_); (case side1 => repeat (first | exact (Kd.C_below HR0_1.out HB.out) | (with_reducible refine Kd.C_alloc ?_ _) | (with_reducible refine Kd.C_drewN ?_ _) | (with_reducible refine Kd.C_drew ?_))); (case side2 => exact HC0_1.out); (case side3 => repeat (first | exact (Kd.C_below HR0_2.out HB.out) | (with_reducible refine Kd.C_alloc ?_ _) | (with_reducible refine Kd.C_drewN ?_ _) | (with_reducible refine Kd.C_drew ?_))); (case side4 => exact HC0_2.out); (case side5 => repeat (first | exact (Kd.C_below HR0_3.out HB.out) | (with_reducible refine Kd.C_alloc ?_ _) | (with_reducible refine Kd.C_drewN ?_ _) | (with_reducible refine Kd.C_drew ?_))); (case side6 => exact HC0_3.out); rintro e w19 ⟨v217, v220, v223, rfl, ho0, ho1, ho2, hb⟩; refine ⟨_, rfl, ?_⟩; have n0_ := am (Kd.R_lower ho0 (below_size (bw HB.out))); have n1_ := am (Kd.R_lower ho1 (below_size (bw HB.out))); have n2_ := am (Kd.R_lower ho2 (below_size (bw HB.out))); have n3_ := bk BK213 hb; have n4_ := am (below_step (bw HB.out) hb); clear BK213 HB; revert n0_ n1_ n2_ n3_ n4_; intro HO218 HO221 HO224 BK213 HB; (try clear hb); (try clear hb2); (try clear hk); (try clear hi); (try clear ho0); (try clear ho1); (try clear ho2); obtain ⟨Ao20, co20, eo20⟩ := Kd.R_slice HO218.out; subst eo20; obtain ⟨Ao21, co21, eo21⟩ := Kd.R_slice HO221.out; subst eo21; obtain ⟨Ao22, co22, eo22⟩ := Kd.R_slice HO224.out; subst eo22) | ((with_reducible refine gate_callee (f := 16) rfl ?_); refine goesL_ (some 14) rfl rfl Try.func16 (by kernel_rfl) rfl #[.agg #[.int .i64 t215, .slice Ao20 t216.length co20, .slice Ao21 t219.length co21, .slice Ao22 t222.length co22]] rfl (by (try simp only [List.map_toArray, List.map_cons, List.map_nil]); first | done | rfl | (simp only [List.length_drop, List.length_take]; rfl)) ?_; (with_reducible refine (spec_LettersOf.calls k t215 _ _ t216 _ _ t219 _ _ t222 t225 _ ?side1 ?side2 ?side3 ?side4 ?side5 ?side6 A8.out).mono ?_); (case side1 => repeat (first | exact (Kd.R_reads' HO218.out).2.2 | (with_reducible refine Kd.C_alloc ?_ _) | (with_reducible refine Kd.C_drewN ?_ _) | (with_reducible refine Kd.C_drew ?_))); (case side2 => exact (Kd.R_reads' HO218.out).2.1); (case side3 => repeat (first | exact (Kd.R_reads' HO221.out).2.2 | (with_reducible refine Kd.C_alloc ?_ _) | (with_reducible refine Kd.C_drewN ?_ _) | (with_reducible refine Kd.C_drew ?_))); (case side4 => exact (Kd.R_reads' HO221.out).2.1); (case side5 => repeat (first | exact (Kd.R_reads' HO224.out).2.2 | (with_reducible refine Kd.C_alloc ?_ _) | (with_reducible refine Kd.C_drewN ?_ _) | (with_reducible refine Kd.C_drew ?_))); (case side6 => exact (Kd.R_reads' HO224.out).2.1); rintro e w23 ⟨rfl, hb⟩; refine ⟨_, rfl, ?_⟩; have n0_ := am (Kd.R_below (rz HO218.out) hb); have n1_ := am (Kd.R_below (rz HO221.out) hb); have n2_ := am (Kd.R_below (rz HO224.out) hb); have n3_ := bk BK213 hb; have n4_ := am (below_step (bw HB.out) hb); clear HO218 HO221 HO224 BK213 HB; revert n0_ n1_ n2_ n3_ n4_; intro HO218 HO221 HO224 BK213 HB; (try clear hb); (try clear hb2); (try clear hk); (try clear hi); have hcz24_0 := cz40 BK213.out; have hcz24_1 := cz41 BK213.out; have hcz24_2 := cz42 BK213.out; have hcz24_3 := cz43 BK213.out; have hfz24_0 := blk_frozen BK213.out 0; have hfz24_1 := blk_frozen BK213.out 1; have hfz24_2 := blk_frozen BK213.out 2; have hfz24_3 := blk_frozen BK213.out 3) | ((with_reducible refine gate_callee (f := 13) rfl ?_); refine goesL_ (some 16) rfl rfl Try.func13 (by kernel_rfl) rfl #[.agg #[.int .i64 a0_0, .slice A0_1 l0_1.length c0_1, .slice A0_2 l0_2.length c0_2, .slice A0_3 l0_3.length c0_3]] rfl (by (try simp only [List.map_toArray, List.map_cons, List.map_nil]); first | done | rfl | (simp only [List.length_drop, List.length_take]; rfl)) ?_; (with_reducible refine (laws_toAutomaton.calls k a0_0 _ _ l0_1 _ _ l0_2 _ _ l0_3 t226 t227 t230 t233 _ ?side1 ?side2 ?side3 ?side4 ?side5 ?side6 A9.out).mono ?_); (case side1 => repeat (first | exact (Kd.C_below HR0_1.out HB.out) | (with_reducible refine Kd.C_alloc ?_ _) | (with_reducible refine Kd.C_drewN ?_ _) | (with_reducible refine Kd.C_drew ?_))); (case side2 => exact HC0_1.out); (case side3 => repeat (first | exact (Kd.C_below HR0_2.out HB.out) | (with_reducible refine Kd.C_alloc ?_ _) | (with_reducible refine Kd.C_drewN ?_ _) | (with_reducible refine Kd.C_drew ?_))); (case side4 => exact HC0_2.out); (case side5 => repeat (first | exact (Kd.C_below HR0_3.out HB.out) | (with_reducible refine Kd.C_alloc ?_ _) | (with_reducible refine Kd.C_drewN ?_ _) | (with_reducible refine Kd.C_drew ?_))); (case side6 => exact HC0_3.out); rintro e w25 ⟨v228, v231, v234, rfl, ho0, ho1, ho2, hb⟩; refine ⟨_, rfl, ?_⟩; have n0_ := am (Kd.R_mono (Kd.R_told (Kd.R_told (Kd.R_old (rz HO218.out) hb) (Kd.R_base ho0)) (Kd.R_base ho1)) (fun _ h_ => h_.1)); have n1_ := am (Kd.R_mono (Kd.R_told (Kd.R_told (Kd.R_old (rz HO221.out) hb) (Kd.R_base ho0)) (Kd.R_base ho1)) (fun _ h_ => h_.1)); have n2_ := el HO224 (Kd.R_base ho2) hb; have n3_ := am (Kd.R_lower (Kd.R_new' (Kd.R_new' ho0 (Kd.R_lt (rz HO218.out))) (Kd.R_lt (rz HO221.out))) (below_size (bw HB.out))); have n4_ := am (Kd.R_lower (Kd.R_new' (Kd.R_new' ho1 (Kd.R_lt (rz HO218.out))) (Kd.R_lt (rz HO221.out))) (below_size (bw HB.out))); have n5_ := am (Kd.R_lower (Kd.R_new' ho2 (Kd.R_lt (rz HO224.out))) (below_size (bw HB.out))); have n6_ := bk BK213 hb; have n7_ := am (below_step (bw HB.out) hb); clear HO218 HO221 HO224 BK213 HB; revert n0_ n1_ n2_ n3_ n4_ n5_ n6_ n7_; intro HO218 HO221 HO224 HO229 HO232 HO235 BK213 HB; (try clear hb); (try clear hb2); (try clear hk); (try clear hi); (try clear ho0); (try clear ho1); (try clear ho2)) | ((with_reducible refine gate_dst (N := 5) rfl ?_); refine box_event ?hg (N := 5) ?hd (cs := #[.int .i64 0, .slice none 0 0, .slice none 0 0, .slice none 0 0]) (t := 30) ?hr ?_; (case hd => rfl); (case hg => rfl); (case hr => first | (go_simp; done) | (go_simp; rfl)); intro gb236 hg w26 hbox hb; have n0_ := am (Kd.R_below (rz HO218.out) hb); have n1_ := am (Kd.R_below (rz HO221.out) hb); have n2_ := am (Kd.R_below (rz HO224.out) hb); have n3_ := am (Kd.R_below (rz HO229.out) hb); have n4_ := am (Kd.R_below (rz HO232.out) hb); have n5_ := am (Kd.R_below (rz HO235.out) hb); have n6_ := bk BK213 hb; have n7_ := am (below_step (bw HB.out) hb); have n8_ := am (hbox); have n9_ := am ((by rw [hg]; exact (below_size (bw HB.out)) : w.heap.size ≤ gb236)); have n10_ := am ((by rw [hg]; exact (below_size (bw HB.out)) : w.heap.size ≤ gb236)); have n11_ := am ((by rw [hg]; exact Nat.ne_of_lt (blk_lt (kz BK213.out)) : gb213 ≠ gb236)); have n12_ := am ((by rw [hg]; exact Nat.ne_of_gt (blk_lt (kz BK213.out)) : gb236 ≠ gb213)); clear HO218 HO221 HO224 HO229 HO232 HO235 BK213 HB; revert n0_ n1_ n2_ n3_ n4_ n5_ n6_ n7_ n8_ n9_ n10_ n11_ n12_; intro HO218 HO221 HO224 HO229 HO232 HO235 BK213 HB BK236 GW236 GE236 NB213_236 NB236_213; clear hb hbox hg; have hnb27 := NB236_213.out; have hnc27 := NB213_236.out; have hcz28_0 := cz40 BK236.out; have hcz28_1 := cz41 BK236.out; have hcz28_2 := cz42 BK236.out; have hcz28_3 := cz43 BK236.out; have hfz28_0 := blk_frozen BK236.out 0; have hfz28_1 := blk_frozen BK236.out 1; have hfz28_2 := blk_frozen BK236.out 2; have hfz28_3 := blk_frozen BK236.out 3; obtain ⟨Ao29, co29, eo29⟩ := Kd.R_slice HO229.out; subst eo29; obtain ⟨Ao30, co30, eo30⟩ := Kd.R_slice HO232.out; subst eo30; obtain ⟨Ao31, co31, eo31⟩ := Kd.R_slice HO235.out; subst eo31) | ((with_reducible refine gate_callee (f := 17) rfl ?_); refine goesL_ (some 18) rfl rfl Try.func17 (by kernel_rfl) rfl #[.agg #[.int .i64 t226, .slice Ao29 t227.length co29, .slice Ao30 t230.length co30, .slice Ao31 t233.length co31]] rfl (by (try simp only [List.map_toArray, List.map_cons, List.map_nil]); first | done | rfl | (simp only [List.length_drop, List.length_take]; rfl)) ?_; (with_reducible refine (impl_LettersOf.calls k t226 _ _ t227 _ _ t230 _ _ t233 t237 _ ?side1 ?side2 ?side3 ?side4 ?side5 ?side6 A10.out).mono ?_); (case side1 => refine (Kd.R_reads' (e := 3) (base := w.heap.size) (ok := fun k_ => ((NS Ao30 t230 co30 k_ ∧ NS Ao20 t216 co20 k_) ∧ NS Ao21 t219 co21 k_)) (n := t227.length) (c := co29) ?_).2.2; exact (by (with_reducible repeat (first | apply ra | apply rn | apply rw_)); exact (Kd.R_mono (Kd.R_far (p := ⟨gb236, 3, none⟩) (Kd.R_far (p := ⟨gb236, 2, none⟩) (Kd.R_far (p := ⟨gb236, 1, none⟩) (Kd.R_far (p := ⟨gb236, 0, none⟩) (Kd.R_types HO229.out BK236.out (by decide)) (fun _ hk => hk.2) (.int .i64 t226)) (fun _ hk => hk.2) (.slice Ao29 t227.length co29)) (fun _ hk => hk.2) (.slice Ao30 t230.length co30)) (fun _ hk => hk.2) (.slice Ao31 t233.length co31)) (fun _ h_ => h_.1)))); (case side2 => exact (Kd.R_reads' HO229.out).2.1); (case side3 => refine (Kd.R_reads' (e := 3) (base := w.heap.size) (ok := fun k_ => ((NS Ao29 t227 co29 k_ ∧ NS Ao20 t216 co20 k_) ∧ NS Ao21 t219 co21 k_)) (n := t230.length) (c := co30) ?_).2.2; exact (by (with_reducible repeat (first | apply ra | apply rn | apply rw_)); exact (Kd.R_mono (Kd.R_far (p := ⟨gb236, 3, none⟩) (Kd.R_far (p := ⟨gb236, 2, none⟩) (Kd.R_far (p := ⟨gb236, 1, none⟩) (Kd.R_far (p := ⟨gb236, 0, none⟩) (Kd.R_types HO232.out BK236.out (by decide)) (fun _ hk => hk.2) (.int .i64 t226)) (fun _ hk => hk.2) (.slice Ao29 t227.length co29)) (fun _ hk => hk.2) (.slice Ao30 t230.length co30)) (fun _ hk => hk.2) (.slice Ao31 t233.length co31)) (fun _ h_ => h_.1)))); (case side4 => exact (Kd.R_reads' HO232.out).2.1); (case side5 => refine (Kd.R_reads' (e := 51) (base := w.heap.size) (ok := fun k_ => (True ∧ NS Ao22 t222 co22 k_)) (n := t233.length) (c := co31) ?_).2.2; exact (by (with_reducible repeat (first | apply ra | apply rn | apply rw_)); exact (Kd.R_mono (Kd.R_far (p := ⟨gb236, 3, none⟩) (Kd.R_far (p := ⟨gb236, 2, none⟩) (Kd.R_far (p := ⟨gb236, 1, none⟩) (Kd.R_far (p := ⟨gb236, 0, none⟩) (Kd.R_types HO235.out BK236.out (by decide)) (fun _ hk => hk.2) (.int .i64 t226)) (fun _ hk => hk.2) (.slice Ao29 t227.length co29)) (fun _ hk => hk.2) (.slice Ao30 t230.length co30)) (fun _ hk => hk.2) (.slice Ao31 t233.length co31)) (fun _ h_ => h_.1)))); (case side6 => exact (Kd.R_reads' HO235.out).2.1); rintro e w32 ⟨rfl, hb⟩; refine ⟨_, rfl, ?_⟩; have n0_ := am (Kd.R_below (by (with_reducible repeat (first | apply ra | apply rn | apply rw_)); exact (Kd.R_mono (Kd.R_far (p := ⟨gb236, 3, none⟩) (Kd.R_far (p := ⟨gb236, 2, none⟩) (Kd.R_far (p := ⟨gb236, 1, none⟩) (Kd.R_far (p := ⟨gb236, 0, none⟩) (Kd.R_types HO218.out BK236.out (by decide)) (fun _ hk => hk.2) (.int .i64 t226)) (fun _ hk => hk.2) (.slice Ao29 t227.length co29)) (fun _ hk => hk.2) (.slice Ao30 t230.length co30)) (fun _ hk => hk.2) (.slice Ao31 t233.length co31)) (fun _ h_ => h_.1))) hb); have n1_ := am (Kd.R_below (by (with_reducible repeat (first | apply ra | apply rn | apply rw_)); exact (Kd.R_mono (Kd.R_far (p := ⟨gb236, 3, none⟩) (Kd.R_far (p := ⟨gb236, 2, none⟩) (Kd.R_far (p := ⟨gb236, 1, none⟩) (Kd.R_far (p := ⟨gb236, 0, none⟩) (Kd.R_types HO221.out BK236.out (by decide)) (fun _ hk => hk.2) (.int .i64 t226)) (fun _ hk => hk.2) (.slice Ao29 t227.length co29)) (fun _ hk => hk.2) (.slice Ao30 t230.length co30)) (fun _ hk => hk.2) (.slice Ao31 t233.length co31)) (fun _ h_ => h_.1))) hb); have n2_ := am (Kd.R_below (by (with_reducible repeat (first | apply ra | apply rn | apply rw_)); exact (Kd.R_mono (Kd.R_far (p := ⟨gb236, 3, none⟩) (Kd.R_far (p := ⟨gb236, 2, none⟩) (Kd.R_far (p := ⟨gb236, 1, none⟩) (Kd.R_far (p := ⟨gb236, 0, none⟩) (Kd.R_types HO224.out BK236.out (by decide)) (fun _ hk => hk.2) (.int .i64 t226)) (fun _ hk => hk.2) (.slice Ao29 t227.length co29)) (fun _ hk => hk.2) (.slice Ao30 t230.length co30)) (fun _ hk => hk.2) (.slice Ao31 t233.length co31)) (fun _ h_ => h_.1))) hb); have n3_ := am (Kd.R_below (by (with_reducible repeat (first | apply ra | apply rn | apply rw_)); exact (Kd.R_mono (Kd.R_far (p := ⟨gb236, 3, none⟩) (Kd.R_far (p := ⟨gb236, 2, none⟩) (Kd.R_far (p := ⟨gb236, 1, none⟩) (Kd.R_far (p := ⟨gb236, 0, none⟩) (Kd.R_types HO229.out BK236.out (by decide)) (fun _ hk => hk.2) (.int .i64 t226)) (fun _ hk => hk.2) (.slice Ao29 t227.length co29)) (fun _ hk => hk.2) (.slice Ao30 t230.length co30)) (fun _ hk => hk.2) (.slice Ao31 t233.length co31)) (fun _ h_ => h_.1))) hb); have n4_ := am (Kd.R_below (by (with_reducible repeat (first | apply ra | apply rn | apply rw_)); exact (Kd.R_mono (Kd.R_far (p := ⟨gb236, 3, none⟩) (Kd.R_far (p := ⟨gb236, 2, none⟩) (Kd.R_far (p := ⟨gb236, 1, none⟩) (Kd.R_far (p := ⟨gb236, 0, none⟩) (Kd.R_types HO232.out BK236.out (by decide)) (fun _ hk => hk.2) (.int .i64 t226)) (fun _ hk => hk.2) (.slice Ao29 t227.length co29)) (fun _ hk => hk.2) (.slice Ao30 t230.length co30)) (fun _ hk => hk.2) (.slice Ao31 t233.length co31)) (fun _ h_ => h_.1))) hb); have n5_ := am (Kd.R_below (by (with_reducible repeat (first | apply ra | apply rn | apply rw_)); exact (Kd.R_mono (Kd.R_far (p := ⟨gb236, 3, none⟩) (Kd.R_far (p := ⟨gb236, 2, none⟩) (Kd.R_far (p := ⟨gb236, 1, none⟩) (Kd.R_far (p := ⟨gb236, 0, none⟩) (Kd.R_types HO235.out BK236.out (by decide)) (fun _ hk => hk.2) (.int .i64 t226)) (fun _ hk => hk.2) (.slice Ao29 t227.length co29)) (fun _ hk => hk.2) (.slice Ao30 t230.length co30)) (fun _ hk => hk.2) (.slice Ao31 t233.length co31)) (fun _ h_ => h_.1))) hb); have n6_ := am (blk_below (kf BK213.out) hb); have n7_ := am (blk_below (g := gb236) (o := .cells #[.int .i64 t226, .slice Ao29 t227.length co29, .slice Ao30 t230.length co30, .slice Ao31 t233.length co31] 30 (0, 0)) (by (with_reducible repeat (first | refine kn ?_ _ | refine kd ?_ | refine ka ?_ _)); refine blk_put (cs := #[.int .i64 t226, .slice Ao29 t227.length co29, .slice Ao30 t230.length co30, .slice none 0 0]) ?_ 3 _ rfl; (with_reducible repeat (first | refine kn ?_ _ | refine kd ?_ | refine ka ?_ _)); refine blk_put (cs := #[.int .i64 t226, .slice Ao29 t227.length co29, .slice none 0 0, .slice none 0 0]) ?_ 2 _ rfl; (with_reducible repeat (first | refine kn ?_ _ | refine kd ?_ | refine ka ?_ _)); refine blk_put (cs := #[.int .i64 t226, .slice none 0 0, .slice none 0 0, .slice none 0 0]) ?_ 1 _ rfl; (with_reducible repeat (first | refine kn ?_ _ | refine kd ?_ | refine ka ?_ _)); refine blk_put (cs := #[.int .i64 0, .slice none 0 0, .slice none 0 0, .slice none 0 0]) ?_ 0 _ rfl; (with_reducible repeat (first | refine kn ?_ _ | refine kd ?_ | refine ka ?_ _)); exact BK236.out) hb); have n8_ := am (below_step (bw HB.out) hb); clear HO218 HO221 HO224 HO229 HO232 HO235 BK213 BK236 HB; revert n0_ n1_ n2_ n3_ n4_ n5_ n6_ n7_ n8_; intro HO218 HO221 HO224 HO229 HO232 HO235 BK213 BK236 HB; (try clear hb); (try clear hb2); (try clear hk); (try clear hi)))
    have n0_ := am (Kd.R_drew HO218.out)
    have n1_ := am (Kd.R_drew HO221.out)
    have n2_ := am (Kd.R_drew HO224.out)
    have n3_ := am (Kd.R_drew HO229.out)
    have n4_ := am (Kd.R_drew HO232.out)
    have n5_ := am (Kd.R_drew HO235.out)
    have n6_ := am (blk_drew BK213.out)
    have n7_ := am (blk_drew BK236.out)
    have n8_ := am (below_drew1 HB.out)
    clear HO218 HO221 HO224 HO229 HO232 HO235 BK213 BK236 HB
    revert n0_ n1_ n2_ n3_ n4_ n5_ n6_ n7_ n8_; intro HO218 HO221 HO224 HO229 HO232 HO235 BK213 BK236 HB
    refine start_ (n := 5) (S := fun w' => w'.cell? ⟨gb236, 0, none⟩ = some (.int .i64 t226) ∧ w'.cell? ⟨gb236, 1, none⟩ = some (.slice Ao29 t227.length co29) ∧ w'.cell? ⟨gb236, 2, none⟩ = some (.slice Ao30 t230.length co30) ∧ w'.cell? ⟨gb236, 3, none⟩ = some (.slice Ao31 t233.length co31) ∧ w'.cell? ⟨gb213, 0, none⟩ = some (.int .i64 a0_0) ∧ w'.cell? ⟨gb213, 1, none⟩ = some (.slice A0_1 l0_1.length c0_1) ∧ w'.cell? ⟨gb213, 2, none⟩ = some (.slice A0_2 l0_2.length c0_2) ∧ w'.cell? ⟨gb213, 3, none⟩ = some (.slice A0_3 l0_3.length c0_3)) (ds := []) #[false, false, false, false, false] (by kernel_rfl) rfl rfl ⟨(blk_cell BK236.out 0).trans rfl, (blk_cell BK236.out 1).trans rfl, (blk_cell BK236.out 2).trans rfl, (blk_cell BK236.out 3).trans rfl, (blk_cell BK213.out 0).trans rfl, (blk_cell BK213.out 1).trans rfl, (blk_cell BK213.out 2).trans rfl, (blk_cell BK213.out 3).trans rfl⟩ (fun hHeld => ?_)
    generalize w32.drew = w33 at HO218 HO221 HO224 HO229 HO232 HO235 BK213 BK236 HB hHeld ⊢
    refine take_ (i := 0) (N := some 22) (v := ?_) (a' := ?_) #[true, false, false, false, false] rfl rfl (by kernel_rfl) (fun _ _ _ h => h) (Or.inl ⟨by rfl, ?_⟩) hHeld ?_ ?_
    rotate_left
    ·rintro w' ⟨s0, s1, s2, s3, s4, s5, s6, s7⟩
     go_simp
     with_reducible rfl
    rotate_left
    ·simp only [Act.put, List.setIfInBounds_toArray, List.set_cons_zero, List.set_cons_succ, i64_w, i32_w]
     rfl
    refine take_ (i := 1) (N := some 23) (v := ?_) (a' := ?_) #[true, true, false, false, false] rfl rfl (by kernel_rfl) (fun _ _ _ h => h) (Or.inl ⟨by rfl, ?_⟩) hHeld ?_ ?_
    rotate_left
    ·rintro w' ⟨s0, s1, s2, s3, s4, s5, s6, s7⟩
     go_simp
     with_reducible rfl
    rotate_left
    ·simp only [Act.put, List.setIfInBounds_toArray, List.set_cons_zero, List.set_cons_succ, i64_w, i32_w]
     rfl
    refine one_ (i := 2) (N := some 24) #[true, true, true, false, false] rfl rfl (by kernel_rfl) (by decide) (fun K hK => ?_)
    refine goes_ Try.func13 (by kernel_rfl) rfl #[.agg #[.int .i64 a0_0, .slice A0_1 l0_1.length c0_1, .slice A0_2 l0_2.length c0_2, .slice A0_3 l0_3.length c0_3]] (by rfl) rfl rfl (by (try simp only [List.map_toArray, List.map_cons, List.map_nil]); first | done | rfl | (simp only [List.length_drop, List.length_take]; rfl)) ?_
    with_reducible refine (laws_toAutomaton.calls k a0_0 _ _ l0_1 _ _ l0_2 _ _ l0_3 t238 t239 t242 t245 _ ?side1 ?side2 ?side3 ?side4 ?side5 ?side6 A12.out).mono ?_
    (case side1 => repeat (first | exact (Kd.C_below HR0_1.out HB.out) | (with_reducible refine Kd.C_alloc ?_ _) | (with_reducible refine Kd.C_drewN ?_ _) | (with_reducible refine Kd.C_drew ?_)))
    (case side2 => exact HC0_1.out)
    (case side3 => repeat (first | exact (Kd.C_below HR0_2.out HB.out) | (with_reducible refine Kd.C_alloc ?_ _) | (with_reducible refine Kd.C_drewN ?_ _) | (with_reducible refine Kd.C_drew ?_)))
    (case side4 => exact HC0_2.out)
    (case side5 => repeat (first | exact (Kd.C_below HR0_3.out HB.out) | (with_reducible refine Kd.C_alloc ?_ _) | (with_reducible refine Kd.C_drewN ?_ _) | (with_reducible refine Kd.C_drew ?_)))
    (case side6 => exact HC0_3.out)
    rintro e w34 ⟨v240, v243, v246, rfl, ho0, ho1, ho2, hb⟩
    refine ⟨_, rfl, ?_⟩
    have n0_ := am (Kd.R_mono (Kd.R_told (Kd.R_told (Kd.R_old (rz HO218.out) hb) (Kd.R_base ho0)) (Kd.R_base ho1)) (fun _ h_ => h_.1))
    have n1_ := am (Kd.R_mono (Kd.R_told (Kd.R_told (Kd.R_old (rz HO221.out) hb) (Kd.R_base ho0)) (Kd.R_base ho1)) (fun _ h_ => h_.1))
    have n2_ := el HO224 (Kd.R_base ho2) hb
    have n3_ := am (Kd.R_mono (Kd.R_told (Kd.R_told (Kd.R_old (rz HO229.out) hb) (Kd.R_base ho0)) (Kd.R_base ho1)) (fun _ h_ => h_.1))
    have n4_ := am (Kd.R_mono (Kd.R_told (Kd.R_told (Kd.R_old (rz HO232.out) hb) (Kd.R_base ho0)) (Kd.R_base ho1)) (fun _ h_ => h_.1))
    have n5_ := el HO235 (Kd.R_base ho2) hb
    have n6_ := am (Kd.R_lower (Kd.R_new' (Kd.R_new' (Kd.R_new' (Kd.R_new' ho0 (Kd.R_lt (rz HO218.out))) (Kd.R_lt (rz HO221.out))) (Kd.R_lt (rz HO229.out))) (Kd.R_lt (rz HO232.out))) (below_size (bw HB.out)))
    have n7_ := am (Kd.R_lower (Kd.R_new' (Kd.R_new' (Kd.R_new' (Kd.R_new' ho1 (Kd.R_lt (rz HO218.out))) (Kd.R_lt (rz HO221.out))) (Kd.R_lt (rz HO229.out))) (Kd.R_lt (rz HO232.out))) (below_size (bw HB.out)))
    have n8_ := am (Kd.R_lower (Kd.R_new' (Kd.R_new' ho2 (Kd.R_lt (rz HO224.out))) (Kd.R_lt (rz HO235.out))) (below_size (bw HB.out)))
    have n9_ := bk BK213 hb
    have n10_ := bk BK236 hb
    have n11_ := am (below_step (bw HB.out) hb)
    clear HO218 HO221 HO224 HO229 HO232 HO235 BK213 BK236 HB
    revert n0_ n1_ n2_ n3_ n4_ n5_ n6_ n7_ n8_ n9_ n10_ n11_; intro HO218 HO221 HO224 HO229 HO232 HO235 HO241 HO244 HO247 BK213 BK236 HB
    (try clear hb)
    (try clear hb2)
    (try clear hk)
    (try clear hi)
    (try clear ho0)
    (try clear ho1)
    (try clear ho2)
    obtain ⟨Ao35, co35, eo35⟩ := Kd.R_slice HO241.out
    (first | subst eo35 | (injection eo35 with f1_ f2_ f3_; have f4_ := f1_.symm; have f5_ := f3_.symm; clear f1_ f2_ f3_; subst f4_; subst f5_))
    obtain ⟨Ao36, co36, eo36⟩ := Kd.R_slice HO244.out
    (first | subst eo36 | (injection eo36 with f1_ f2_ f3_; have f4_ := f1_.symm; have f5_ := f3_.symm; clear f1_ f2_ f3_; subst f4_; subst f5_))
    obtain ⟨Ao37, co37, eo37⟩ := Kd.R_slice HO247.out
    (first | subst eo37 | (injection eo37 with f1_ f2_ f3_; have f4_ := f1_.symm; have f5_ := f3_.symm; clear f1_ f2_ f3_; subst f4_; subst f5_))
    refine hK.out _ _ ⟨(blk_cell BK236.out 0).trans rfl, (blk_cell BK236.out 1).trans rfl, (blk_cell BK236.out 2).trans rfl, (blk_cell BK236.out 3).trans rfl, (blk_cell BK213.out 0).trans rfl, (blk_cell BK213.out 1).trans rfl, (blk_cell BK213.out 2).trans rfl, (blk_cell BK213.out 3).trans rfl⟩ (fun hHeld => ?_)
    clear hK K
    refine norm_ (a' := ?_) ?_ ?_
    rotate_left
    ·show Act.put _ (some 24) _ = _
     simp only [Act.put, List.setIfInBounds_toArray, List.set_cons_zero, List.set_cons_succ, i64_w, i32_w]
     rfl
    refine one_ (i := 3) (N := some 25) #[true, true, true, true, false] rfl rfl (by kernel_rfl) (by decide) (fun K hK => ?_)
    refine goes_ Try.func15 (by kernel_rfl) rfl #[.agg #[.int .i64 t226, .slice Ao29 t227.length co29, .slice Ao30 t230.length co30, .slice Ao31 t233.length co31], .agg #[.int .i64 t238, .slice Ao35 t239.length co35, .slice Ao36 t242.length co36, .slice Ao37 t245.length co37]] (by rfl) rfl rfl (by (try simp only [List.map_toArray, List.map_cons, List.map_nil]); first | done | rfl | (simp only [List.length_drop, List.length_take]; rfl)) ?_
    with_reducible refine (laws_eqAutomaton.calls k t226 _ _ t227 _ _ t230 _ _ t233 t238 _ _ t239 _ _ t242 _ _ t245 true _ ?side1 ?side2 ?side3 ?side4 ?side5 ?side6 ?side7 ?side8 ?side9 ?side10 ?side11 ?side12 A13.out).mono ?_
    (case side1 => repeat (first | exact (Kd.R_reads' HO229.out).2.2 | (with_reducible refine Kd.C_alloc ?_ _) | (with_reducible refine Kd.C_drewN ?_ _) | (with_reducible refine Kd.C_drew ?_)))
    (case side2 => exact (Kd.R_reads' HO229.out).2.1)
    (case side3 => repeat (first | exact (Kd.R_reads' HO232.out).2.2 | (with_reducible refine Kd.C_alloc ?_ _) | (with_reducible refine Kd.C_drewN ?_ _) | (with_reducible refine Kd.C_drew ?_)))
    (case side4 => exact (Kd.R_reads' HO232.out).2.1)
    (case side5 => repeat (first | exact (Kd.R_reads' HO235.out).2.2 | (with_reducible refine Kd.C_alloc ?_ _) | (with_reducible refine Kd.C_drewN ?_ _) | (with_reducible refine Kd.C_drew ?_)))
    (case side6 => exact (Kd.R_reads' HO235.out).2.1)
    (case side7 => repeat (first | exact (Kd.R_reads' HO241.out).2.2 | (with_reducible refine Kd.C_alloc ?_ _) | (with_reducible refine Kd.C_drewN ?_ _) | (with_reducible refine Kd.C_drew ?_)))
    (case side8 => exact (Kd.R_reads' HO241.out).2.1)
    (case side9 => repeat (first | exact (Kd.R_reads' HO244.out).2.2 | (with_reducible refine Kd.C_alloc ?_ _) | (with_reducible refine Kd.C_drewN ?_ _) | (with_reducible refine Kd.C_drew ?_)))
    (case side10 => exact (Kd.R_reads' HO244.out).2.1)
    (case side11 => repeat (first | exact (Kd.R_reads' HO247.out).2.2 | (with_reducible refine Kd.C_alloc ?_ _) | (with_reducible refine Kd.C_drewN ?_ _) | (with_reducible refine Kd.C_drew ?_)))
    (case side12 => exact (Kd.R_reads' HO247.out).2.1)
    rintro e w38 ⟨rfl, hb⟩
    refine ⟨_, rfl, ?_⟩
    have n0_ := am (Kd.R_below (rz HO218.out) hb)
    have n1_ := am (Kd.R_below (rz HO221.out) hb)
    have n2_ := am (Kd.R_below (rz HO224.out) hb)
    have n3_ := am (Kd.R_below (rz HO229.out) hb)
    have n4_ := am (Kd.R_below (rz HO232.out) hb)
    have n5_ := am (Kd.R_below (rz HO235.out) hb)
    have n6_ := am (Kd.R_below (rz HO241.out) hb)
    have n7_ := am (Kd.R_below (rz HO244.out) hb)
    have n8_ := am (Kd.R_below (rz HO247.out) hb)
    have n9_ := bk BK213 hb
    have n10_ := bk BK236 hb
    have n11_ := am (below_step (bw HB.out) hb)
    clear HO218 HO221 HO224 HO229 HO232 HO235 HO241 HO244 HO247 BK213 BK236 HB
    revert n0_ n1_ n2_ n3_ n4_ n5_ n6_ n7_ n8_ n9_ n10_ n11_; intro HO218 HO221 HO224 HO229 HO232 HO235 HO241 HO244 HO247 BK213 BK236 HB
    (try clear hb)
    (try clear hb2)
    (try clear hk)
    (try clear hi)
    refine hK.out _ _ ⟨(blk_cell BK236.out 0).trans rfl, (blk_cell BK236.out 1).trans rfl, (blk_cell BK236.out 2).trans rfl, (blk_cell BK236.out 3).trans rfl, (blk_cell BK213.out 0).trans rfl, (blk_cell BK213.out 1).trans rfl, (blk_cell BK213.out 2).trans rfl, (blk_cell BK213.out 3).trans rfl⟩ (fun hHeld => ?_)
    clear hK K
    refine norm_ (a' := ?_) ?_ ?_
    rotate_left
    ·show Act.put _ (some 25) _ = _
     simp only [Act.put, List.setIfInBounds_toArray, List.set_cons_zero, List.set_cons_succ, i64_w, i32_w]
     rfl
    refine pure_ (i := 4) (N := some 26) (v := ?_) (a' := ?_) #[true, true, true, true, true] rfl rfl (by kernel_rfl) (fun _ _ _ h => h) (Or.inl ⟨by rfl, ?_⟩) ?_ ?_
    rotate_left
    ·intro w'
     go_simp
     with_reducible rfl
    rotate_left
    ·simp only [Act.put, List.setIfInBounds_toArray, List.set_cons_zero, List.set_cons_succ, i64_w, i32_w]
     rfl
    refine done_ (by kernel_rfl) ?_
    try go_wp2
    go_ret
    exact ⟨by first | rfl | (simp [errW_none, errW_some] <;> rfl) | (simp [*, errW_none, errW_some] <;> rfl), by exact bw HB.out⟩
   ·replace c14 := Bool.eq_false_iff.mpr c14
    subst c14
    have H1 : (none) = some r := by rw [if_neg (show ¬ (false = true) by decide)] at H; exact H
    clear H
    have H := H1
    clear H1
    exact absurd H (by simp)
  ·rw [if_neg c11] at H
   exact absurd H (by simp)

/-- THE ONE PURE STATEMENT of laws_FnExactLettersOf. -/
def laws_FnExactLettersOf.Pure : Prop := ∀ (a0_0 : Int) (l0_1 : List Int) (l0_2 : List Int) (l0_3 : List (S90)), (Lit.int .i64 a0_0).wf = true → l0_1.length ≤ maxLen → (∀ x ∈ l0_1, (Lit.int .i64 x).wf = true) → l0_2.length ≤ maxLen → (∀ x ∈ l0_2, (Lit.int .i64 x).wf = true) → l0_3.length ≤ maxLen → (∀ x ∈ l0_3, ((Lit.int .i64 x.f0).wf = true ∧ x.f1.size ≤ maxLen ∧ (Lit.int .i64 x.f2).wf = true ∧ (Lit.int .i64 x.f3).wf = true)) → ∃ k, laws_FnExactLettersOf.f k a0_0 l0_1 l0_2 l0_3 = some true
theorem laws_FnExactLettersOf.walk (P : laws_FnExactLettersOf.Pure) (a0_0 : Int) (a0_1 : Option Addr) (len0_1 cap0_1 : Nat) (z0_1 : List Int) (a0_2 : Option Addr) (len0_2 cap0_2 : Nat) (z0_2 : List Int) (a0_3 : Option Addr) (cap0_3 : Nat) (l0_3 : List (S90)) (w : World) (w0_0 : (Lit.int .i64 a0_0).wf = true) (w0_1 : (a0_1 = none ∧ len0_1 = 0 ∧ cap0_1 = 0 ∧ z0_1 = []) ∨ ∃ x, a0_1 = some x ∧ len0_1 ≤ cap0_1 ∧ cap0_1 ≤ maxLen ∧ z0_1.length = cap0_1 ∧ (∀ i, i < z0_1.length → w.cell? (x.add i) = some (.int .i64 (z0_1.getD i 0))) ∧ ∀ n ∈ z0_1, (Lit.int .i64 n).wf = true) (w0_2 : (a0_2 = none ∧ len0_2 = 0 ∧ cap0_2 = 0 ∧ z0_2 = []) ∨ ∃ x, a0_2 = some x ∧ len0_2 ≤ cap0_2 ∧ cap0_2 ≤ maxLen ∧ z0_2.length = cap0_2 ∧ (∀ i, i < z0_2.length → w.cell? (x.add i) = some (.int .i64 (z0_2.getD i 0))) ∧ ∀ n ∈ z0_2, (Lit.int .i64 n).wf = true) (hr0_3 : Kd.C k90 w a0_3 l0_3.length l0_3) (hc0_3 : l0_3.length ≤ cap0_3) (hm0_3 : l0_3.length ≤ maxLen) (hw0_3 : ∀ x ∈ l0_3, ((Lit.int .i64 x.f0).wf = true ∧ x.f1.size ≤ maxLen ∧ (Lit.int .i64 x.f2).wf = true ∧ (Lit.int .i64 x.f3).wf = true)) :
  Calls Try.prog 4 #[.agg #[.int .i64 a0_0, .slice a0_1 len0_1 cap0_1, .slice a0_2 len0_2 cap0_2, .slice a0_3 l0_3.length cap0_3]] w fun e w' => e = .returned (.bool true) ∧ Below w.heap.size w w' := by
 obtain ⟨l0_1, rfl, hr0_1, hm0_1, hw0_1, hc0_1⟩ := ReadsInt.ofRowC w0_1
 obtain ⟨l0_2, rfl, hr0_2, hm0_2, hw0_2, hc0_2⟩ := ReadsInt.ofRowC w0_2
 obtain ⟨k, h⟩ := P a0_0 l0_1 l0_2 l0_3 w0_0 hm0_1 hw0_1 hm0_2 hw0_2 hm0_3 hw0_3
 refine (laws_FnExactLettersOf.calls k a0_0 _ _ l0_1 _ _ l0_2 _ _ l0_3 true w (Kd.C_of_reads (d := (0 : Int)) (h1 := fun _ => rfl) hr0_1) hc0_1 (Kd.C_of_reads (d := (0 : Int)) (h1 := fun _ => rfl) hr0_2) hc0_2 hr0_3 hc0_3 h).mono ?_
 rintro e w' ⟨rfl, hd⟩
 exact ⟨rfl, hd⟩

end Go.Proofs.Ytejnpldoakgadaa.PG1
