-- Written by a program (wip/myprint.py): the machine side of one law: each function that it reaches, as a plain function, and the proof that a call comes to just that.
import Derived.Test.YtojfbgegankddaaDoorRows
import Derived.Test.YtojfbgegankddaaDoorCards
import Derived.Test.YtojfbgegankddaaDoorTie
import Derived.SevenTiedAt
import Derived.LaidMore
import Derived.Test.YtojfbgegankddaaDoorPGAx2
import Derived.Test.YtojfbgegankddaaDoorPureFnExactFormatAutomaton
import Derived.Test.YtojfbgegankddaaDoorMyRows
import Derived.WalkKit
import Derived.ProofKit
import Derived.OpenShut
import Derived.ShutString
import Derived.ChangeOld
import Derived.Below
import Derived.SizedLaws
import Derived.Lib.SmallJoins
import Derived.Deep.Slices
import Derived.Deep.Fields
import Derived.Test.YtojfbgegankddaaDoorWSized
import Derived.Test.YtojfbgegankddaaDoorMyWords
namespace Go.Proofs.YtojfbgegankddaaDoor.fnExactFormatAutomaton
open Go.ChangeShapes Go.WideShapes Go.ChangeAt Go.RowKit Go.Joins Go.Deep
open Go.ChangeMaps (open_string shut_string)
set_option linter.unusedVariables false
theorem own : ownKnob Tryd.prog.godebug = none := by kernel_rfl
theorem laidOut : laidOutB Tryd.prog = true := by kernel_rfl
def IsRow (k : IntKind) (w : World) (a : Option Addr) (len cap : Nat) (zs : List Int) : Prop :=
  (a = none ∧ len = 0 ∧ cap = 0 ∧ zs = []) ∨
  ∃ x, a = some x ∧ len ≤ cap ∧ cap ≤ maxLen ∧ zs.length = cap ∧ (∀ i, i < zs.length → w.cell? (x.add i) = some (.int k (zs.getD i 0))) ∧ ∀ n ∈ zs, (Lit.int k n).wf = true
/-- The door's own heap meets the condition. -/
theorem met (os : Os) (args : Array Value) : laidMetH Tryd.prog Rows.fnExactFormatAutomatonRow.laid ((World.doorLaid Tryd.prog 96 os).forCall (fun _ _ => 0) ⟨#[], args, []⟩).memory :=
  laidMetH_of_parts3 (fuel := 8) (laidMet_of_run' 8 (by kernel_rfl) (by kernel_rfl)) (by kernel_rfl) (by kernel_rfl)
/-- What the condition gives the walks. -/
theorem door_of {W : World} (h : laidMetH Tryd.prog Rows.fnExactFormatAutomatonRow.laid W) (hsh : W.ShapedOpen Tryd.prog) : Go.Proofs.YtojfbgegankddaaDoorW.PrintWords.Door W := Go.Proofs.YtojfbgegankddaaDoorW.PrintWords.door_of_deBruijn32tab_deBruijn64tab_uint64pow10 hsh (by rw [MakeChecks.laidMetH_plain _ _ _ (by kernel_rfl)] at h; exact h)
set_option maxRecDepth 100000 in
theorem lifted (os : Os) (started : os.Started) (H : Type) (enc : TypeId × Value → H) :
    ReturnsInHanded {} Tryd.checked os 3 .any (fun w args => (Rows.fnExactFormatAutomatonSpec.pre enc Tryd.prog Tryd.f3 Rows.fnExactFormatAutomatonRow.domain false w args ∧ laidMetH Tryd.prog Rows.fnExactFormatAutomatonRow.laid w) ∧ sizedMet enc Tryd.prog Tryd.f3 (OpenSpec.ofChange Rows.fnExactFormatAutomatonSpec) false w args) (Rows.fnExactFormatAutomatonSpec.post enc Tryd.prog Tryd.f3 false true false false) := by
  refine Go.Proofs.YtojfbgegankddaaDoorW.PrintWords.returnsInHanded_of_laid (C := Tryd.checked) (L := Rows.fnExactFormatAutomatonRow.laid) own started (by kernel_rfl) Tryd.func3
    (ChangeSpec.witness_shaped (enc := enc) (C := Tryd.checked) (os := os) (X := fun w _ => laidMetH Tryd.prog Rows.fnExactFormatAutomatonRow.laid w) false (World.doorLaid Tryd.prog 96 os) #[.agg #[.int .i64 0, .slice none 0 0, .slice none 0 0, .slice none 0 0]] 8 rfl (World.shaped_of_RefB (by kernel_rfl) (by kernel_rfl)) (by kernel_rfl) (by kernel_rfl) (by kernel_rfl) (met os _)) ?_
  intro W base args ds gs before hval0 hW hcnd hsz0 hL hsh _
  have hD := door_of hL hsh
  have hsz : (DataW.weightsEach Tryd.prog (Tryd.f3.params.toList ++ Rows.fnExactFormatAutomatonSpec.plain.varTypes Tryd.prog) (ds ++ gs)).all (· ≤ reachBytes) = true := hsz0
  have hval : ∀ (j : Nat) t v, Tryd.f3.params[j]? = some t → args[j]? = some v → Value.okWide Tryd.prog W .any base t v := hval0
  have hW' := hW
  obtain ⟨p, q, hA0, hV, rfl, hfz, hnd⟩ := hW
  have hA : DataW.TrodAll enc Tryd.prog W 0 (fun _ => true) true Tryd.f3.params.toList args.toList ds p := hA0
  rw [Tryd.params3] at hA hval hsz
  obtain ⟨v0, vs0, d0, ds0, p0, q0, hargs, rfl, rfl, h0, r0⟩ := trodAll_cons hA
  obtain ⟨rfl, rfl, rfl⟩ := trodAll_nil r0
  obtain rfl : args = #[v0] := by cases args; simp_all
  obtain ⟨rfl, rfl⟩ := trodVars_none hV
  have k0 := h0
  have lt0 : ∀ x ∈ p0, x.block < W.heap.size := by obtain ⟨m, hm⟩ := k0; exact DataW.trod_lt m _ _ _ hm
  obtain ⟨v0_0, v0_1, v0_2, v0_3, y0_0, y0_1, y0_2, y0_3, n0, rfl, rfl, hp0, u0_0, u0_1, u0_2, u0_3⟩ := open_agg4 Tryd.underlying25 (by kernel_rfl) (by kernel_rfl) (hval 0 25 v0 rfl rfl) h0
  obtain ⟨a0_0, e0_0, _, w0_0⟩ := DataW.trod_int Tryd.underlying3 u0_0
  obtain rfl : v0_0 = .int .i64 a0_0 := by simpa using e0_0
  obtain ⟨a0_1, len0_1, cap0_1, z0_1, e0_1, w0_1⟩ : ∃ a len cap zs, v0_1 = .slice a len cap ∧ IsRow .i64 W a len cap zs := by
    rcases open_ints Tryd.underlying22 Tryd.underlying3 (by kernel_rfl) u0_1 with ⟨hcs, _⟩ | ⟨b, l, c, zs, hcs, _, hl, hm, hz, _, hcell, hwz⟩
    · exact ⟨none, 0, 0, [], by simpa using hcs, .inl ⟨rfl, rfl, rfl, rfl⟩⟩
    · exact ⟨some b, l, c, zs, by simpa using hcs, .inr ⟨_, rfl, hl, hm, by simpa using hz, hcell, hwz⟩⟩
  subst e0_1
  obtain ⟨a0_2, len0_2, cap0_2, z0_2, e0_2, w0_2⟩ : ∃ a len cap zs, v0_2 = .slice a len cap ∧ IsRow .i64 W a len cap zs := by
    rcases open_ints Tryd.underlying22 Tryd.underlying3 (by kernel_rfl) u0_2 with ⟨hcs, _⟩ | ⟨b, l, c, zs, hcs, _, hl, hm, hz, _, hcell, hwz⟩
    · exact ⟨none, 0, 0, [], by simpa using hcs, .inl ⟨rfl, rfl, rfl, rfl⟩⟩
    · exact ⟨some b, l, c, zs, by simpa using hcs, .inr ⟨_, rfl, hl, hm, by simpa using hz, hcell, hwz⟩⟩
  subst e0_2
  obtain ⟨a0_3, cap0_3, l0_3, e0_3, w0_3⟩ : ∃ (a : Option Addr) (c : Nat) (l : List Go.Proofs.YtojfbgegankddaaDoor.PGA.S64), v0_3 = .slice a l.length c ∧ Go.Proofs.YtojfbgegankddaaDoorW.PrintWords.Kd.C Go.Proofs.YtojfbgegankddaaDoor.PGA.k64 W a l.length l ∧ l.length ≤ c ∧ l.length ≤ maxLen ∧ ∀ x ∈ l, ((Lit.int .i64 x.f0).wf = true ∧ x.f1.size ≤ maxLen ∧ (Lit.int .i64 x.f2).wf = true ∧ (Lit.int .i64 x.f3).wf = true) := by
    rcases Go.Proofs.YtojfbgegankddaaDoorW.PrintWords.struct_rows Tryd.underlying23 Tryd.underlying64 (by kernel_rfl) (by kernel_rfl) u0_3 with hcs | ⟨b, l, c, m_, hcs, hl, hm, hmm, hf⟩
    · exact ⟨none, 0, [], by simpa using hcs, Go.Proofs.YtojfbgegankddaaDoorW.PrintWords.rows_none _ _, by simp, by simp, by simp⟩
    · have hm2 : c = m_ := by simpa using hmm.symm
      subst hm2
      obtain ⟨L, hL, hP, hC⟩ := Go.Proofs.YtojfbgegankddaaDoorW.PrintWords.rows_of Go.Proofs.YtojfbgegankddaaDoor.PGA.k64 W b l (fun x => ((Lit.int .i64 x.f0).wf = true ∧ x.f1.size ≤ maxLen ∧ (Lit.int .i64 x.f2).wf = true ∧ (Lit.int .i64 x.f3).wf = true)) (by unfold maxLen at hm; omega) (fun i hi => by
        obtain ⟨nn, hg⟩ := hf i (by omega)
        obtain ⟨q0, t0, c0, g0⟩ := hg 0 _ rfl
        obtain ⟨q1, t1, c1, g1⟩ := hg 1 _ rfl
        obtain ⟨q2, t2, c2, g2⟩ := hg 2 _ rfl
        obtain ⟨q3, t3, c3, g3⟩ := hg 3 _ rfl
        obtain ⟨x0, b0, _, o0⟩ := DataW.trod_int Tryd.underlying3 g0
        obtain rfl : q0 = .int .i64 x0 := by simpa using b0
        obtain ⟨x1, b1, _, o1⟩ := DataW.trod_string Tryd.underlying9 g1
        obtain rfl : q1 = .string x1 := by simpa using b1
        obtain ⟨x2, b2, _, o2⟩ := DataW.trod_int Tryd.underlying3 g2
        obtain rfl : q2 = .int .i64 x2 := by simpa using b2
        obtain ⟨x3, b3, _, o3⟩ := DataW.trod_int Tryd.underlying3 g3
        obtain rfl : q3 = .int .i64 x3 := by simpa using b3
        refine ⟨⟨x0, x1, x2, x3⟩, _, ⟨o0, o1, o2, o3⟩, Go.Proofs.YtojfbgegankddaaDoor.PGA.k64_mk W ⟨x0, x1, x2, x3⟩, ?_⟩
        intro j u hu
        match j, hu with
        | 0, hu => obtain rfl := Option.some.inj hu; exact c0
        | 1, hu => obtain rfl := Option.some.inj hu; exact c1
        | 2, hu => obtain rfl := Option.some.inj hu; exact c2
        | 3, hu => obtain rfl := Option.some.inj hu; exact c3
        | j + 4, hu => simp at hu)
      exact ⟨some b, c, L, by rw [hL]; simpa using hcs, hC, by omega, by omega, hP⟩
  obtain ⟨w0_3, hc0_3, hm0_3, hw0_3⟩ := w0_3
  subst e0_3
  clear hA0 hval0 hsz0 hsz
  refine (PGA.laws_FnExactFormatAutomaton.walk Pure.FnExactFormatAutomaton a0_0 a0_1 len0_1 cap0_1 z0_1 a0_2 len0_2 cap0_2 z0_2 a0_3 cap0_3 l0_3 W w0_0 w0_1 w0_2 w0_3 hc0_3 hm0_3 hw0_3 hD).mono fun e W' ⟨he, bel⟩ => ?_
  subst he
  exact ⟨_, rfl, _, _, _, [], _, [], hW', trodAll_mk1 (shut_bool Tryd.underlying4 _), (trodAll_cons_mk (Below.trod laidOut (by kernel_rfl) (of_decide_eq_true (by kernel_rfl)) k0 bel lt0) trodAll_mk0), rfl, bel.frame _, fun h => by cases h⟩
theorem over : Rows.fnExactFormatAutomatonRow.holds Tryd.pinned (OpenSpec.ofChange Rows.fnExactFormatAutomatonSpec) :=
  OpenClaim.holds_of_wide 3 Tryd.f3 rfl rfl rfl rfl rfl rfl rfl ⟨rfl, rfl, rfl, rfl, rfl⟩ rfl rfl rfl rfl rfl (by kernel_rfl) Tryd.func3 (by kernel_rfl)
    (of_decide_eq_true (by kernel_rfl)) (by unfold Func.isWrapper; first | (rw [if_pos (by decide +kernel)]; kernel_rfl) | (rw [if_neg (by decide +kernel)]; exact ⟨rfl, rfl⟩))
    (fun os started H enc _ => lifted os started H enc)
theorem proved : Rows.FnExactFormatAutomatonCardSaid :=
  Claim7.holds_tied_plain_at .later [] [.data, .data, .data] true (true, "4867aac586ca53431f0528aa89ef19daa1b18222738bf83f4b657e1e6fa9d79a") true over (fun _ h => by cases h) (by kernel_rfl) (fun _ h => by cases h) fnExactFormatAutomaton_row_tie rfl ⟨rfl, rfl⟩ (by kernel_rfl) rfl
    (fun f fn hf hfn => by
      obtain rfl : f = 3 := Option.some.inj ((show Tryd.prog.funcNamed Rows.fnExactFormatAutomatonRow.func = some 3 by kernel_rfl).symm.trans hf) |>.symm
      obtain rfl : fn = Tryd.f3 := (Option.some.inj (Tryd.func3.symm.trans hfn)).symm
      exact ⟨by kernel_rfl, fun j t ht => by
        have hall : (Tryd.f3.params.toList.all fun t => !Tryd.prog.wantsStandIn t) = true := by kernel_rfl
        have hm := List.all_eq_true.1 hall t (Array.mem_toList_iff.2 (Array.mem_of_getElem? ht))
        exact (show Tryd.prog.wantsStandIn t = false by simpa using hm)⟩)
    (by kernel_rfl)
#print axioms proved
end Go.Proofs.YtojfbgegankddaaDoor.fnExactFormatAutomaton
namespace Go.Proofs.YtojfbgegankddaaDoor
/-- The row, under a short name, for the claim. -/
theorem fnExactFormatAutomaton_holds : Rows.FnExactFormatAutomatonCardSaid := fnExactFormatAutomaton.proved
end Go.Proofs.YtojfbgegankddaaDoor
