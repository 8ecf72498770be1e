/- What the listed variables hold stays so behind whatever a call makes; and how a law is lifted under it. -/
import Derived.Test.YtojfbgegankddaaGreatDoorMyShort
import Derived.Test.YtojfbgegankddaaGreatDoorShelf
import Derived.Lib.LaidTab
import Derived.Lib.AppendIntMem
import Derived.Lib.AtoiErrMem
import Derived.Lib.SplitLaws
import Derived.Lib.LaidU8
import Derived.HandedShaped
import Derived.LaidMore
import Derived.Stop.LaidErr
import Derived.Stop.Joined
import Derived.Test.YtojfbgegankddaaGreatDoorRows
set_option linter.unusedVariables false
set_option linter.unusedSimpArgs false
namespace Go.Proofs.YtojfbgegankddaaGreatDoorW.PrintWords
open Go.RowKit Go.ChangeShapes Go.WideShapes
/-- What the listed variables hold, as the walks need it. -/
structure Door (w : World) : Prop where
  tab : Lib.TabIs Tryz.prog w "internal/strconv.uint64pow10" .u64 Lib.pow10Tab
  syn : ∃ t p, w.var? Tryz.prog "strconv.ErrSyntax" = some #[.iface t p]
  rng : ∃ t p, w.var? Tryz.prog "strconv.ErrRange" = some #[.iface t p]
  most : ∃ m, w.cell? ⟨4, 0, none⟩ = some (.int .i64 m)
  asc : Lib.TabIs Tryz.prog w "strings.asciiSpace" .u8 Lib.asciiSpaceTab
  white : Lib.WhiteTab 1 w
/-- A row that is made lies plainly. -/
def PlainA (A : Option Addr) : Prop := ∀ ad, A = some ad → ∃ g o, ad = ⟨g, o, none⟩
theorem plain_any {α : Type} {d : Kd α} {e : Nat} {W : World} {base : Nat} {ok : Nat → Prop} {A : Option Addr} {c : Nat} {xs : List α} (h : Aside0 (d.R e W base ok (.slice A xs.length c) xs)) : PlainA A := by
  obtain ⟨_, inner, hown, _⟩ := h.out
  rcases hown.2 with ⟨hv, _⟩ | ⟨g, cap, cur, hv, _⟩
  · injection hv with h1
    subst h1
    intro ad he
    cases he
  · injection hv with h1
    subst h1
    intro ad he
    exact ⟨g, 0, (Option.some.inj he).symm⟩
/-- A law that returns true wherever the listed variables hold what they are listed with. -/
theorem returnsInHanded_of_laid {H : Type} {enc : TypeId × Value → H} {a : Assume} {C : Checked} {os : Os} {f : FuncId} {fn : Func} {s : ChangeSpec} {conds : List PathCond} {apart fresh handsOn again : Bool} {L : List (String × DataW Unit)}
    (own : ownKnob C.prog.godebug = none) (started : os.Started) (noInit : C.prog.inits.idxOf? f = none) (hfn : C.prog.funcs[f]? = some fn)
    (witness : ∃ (w : World) (tape : Tape) (i : Input), w.os = os ∧ (w.forCall tape i).Shaped C.prog ∧ i.vars = [] ∧ Input.okWide C.prog (w.forCall tape i) .any w.heap.size f i ∧
      ((s.pre enc C.prog fn conds apart (w.forCall tape i).memory i.args ∧ laidMetH C.prog L (w.forCall tape i).memory) ∧ sizedMet enc C.prog fn (OpenSpec.ofChange s) apart (w.forCall tape i).memory i.args) ∧ a.holds C.prog (lone (Frame.enter C.prog f i.args .normal) [] (w.forCall tape i)))
    (contract : ∀ (W : World) (base : Nat) (args : Array Value) (ds gs : List (DataW H)) (before : List MemPlace),
      (∀ (j : Nat) t v, fn.params[j]? = some t → args[j]? = some v → Value.okWide C.prog W .any base t v) →
      DataW.Whole enc C.prog fn.params.toList s.vars apart W args.toList ds gs before →
      conds.all (PathCond.test C.prog ⟨fn.params.toList, ds, s.plain.varTypes C.prog, gs⟩) = true →
      (DataW.weightsEach C.prog (fn.params.toList ++ s.plain.varTypes C.prog) (ds ++ gs)).all (· ≤ reachBytes) = true →
      laidMetH C.prog L W → W.ShapedOpen C.prog →
      a.holds C.prog (lone (Frame.enter C.prog f args .normal) [] W) →
      Calls C.prog f args W fun e W' => ∃ v, e = .returned v ∧ s.post enc C.prog fn apart fresh handsOn again W args v W') :
    ReturnsInHanded a C os f .any (fun w args => (s.pre enc C.prog fn conds apart w args ∧ laidMetH C.prog L w) ∧ sizedMet enc C.prog fn (OpenSpec.ofChange s) apart w args) (s.post enc C.prog fn apart fresh handsOn again) := by
  refine returnsInHanded_of_calls own started noInit witness ?_
  intro w tape i _ hsh _ hok hpre hholds
  obtain ⟨_, _, _, fn', hfn', _, _, _, _, hval⟩ := hok
  have e : fn' = fn := Option.some.inj (hfn'.symm.trans hfn)
  subst e
  obtain ⟨⟨⟨ds, gs, before, hw, hc⟩, hx⟩, hz⟩ := hpre
  have hw' := DataW.Whole.of_heap (w' := w.forCall tape i) (by rfl) hw
  refine (contract (w.forCall tape i) w.heap.size i.args ds gs before hval hw' hc (hz.weights hw) (laidMetH.of_heap (w := (w.forCall tape i).memory) (w' := w.forCall tape i) (by rfl) hx) hsh hholds).mono fun e W' ⟨v, he, hp⟩ => ?_
  subst he
  exact ChangeSpec.post_blind hp
/-- A variable of one cell. -/
theorem var_up {name : String} {g : Nat} {w W : World} (hg : Tryz.prog.globalNamed name = some g) {t : TypeId} {p : Value} (h : w.var? Tryz.prog name = some #[.iface t p]) (hb : Below w.heap.size w W) : W.var? Tryz.prog name = some #[.iface t p] := by
  unfold World.var? at h ⊢
  rw [hg, Option.bind_some] at h ⊢
  cases e : w.heap[g]? with
  | none => rw [e] at h; cases h
  | some o =>
    rw [hb.block g (Array.getElem?_eq_some_iff.1 e).1, e]
    rw [e] at h
    exact h
theorem door_up {w W : World} (h : Door w) (hb : Below w.heap.size w W) : Door W := by
  obtain ⟨t1, p1, h1⟩ := h.syn
  obtain ⟨t2, p2, h2⟩ := h.rng
  obtain ⟨m, hm⟩ := h.most
  exact ⟨Lib.tabBelow_of_tabIs h.tab W hb, ⟨t1, p1, var_up (g := 2) (by kernel_rfl) h1 hb⟩, ⟨t2, p2, var_up (g := 3) (by kernel_rfl) h2 hb⟩, ⟨m, lx hb hm⟩, Lib.tabBelow_of_tabIs h.asc W hb, WhiteTab_below h.white hb⟩
/-- THE ONE ROW OF THAT NAME. -/
theorem star : "*" ++ "errors.errorString" = "*errors.errorString" := by decide
theorem row_err (u : TypeId) (h : Tryz.prog.typeName? 3 u = some "*errors.errorString") : u = 138 :=
  typeName_ptr_named (nm := "errors.errorString") (by rw [star]; kernel_rfl) (by kernel_rfl) (by decide) u (by rw [star]; exact h)
theorem sen {n : String} {g : Nat} {text : List UInt8} {r : List (String × DataW Unit)} {W : World} (hg : Tryz.prog.globalNamed n = some g) (ht : (Tryz.prog.globals[g]?).map (·.type) = some 46) (h : laidMet Tryz.prog ((n, .iface "*errors.errorString" (.ptr (.agg [.lit (.string text)]))) :: r) W) : ∃ t p, W.var? Tryz.prog n = some #[.iface t p] := by
  obtain ⟨a, s, hv, -, -, -⟩ := laid_sentinel h hg ht Tryz.underlying46 row_err Tryz.underlying138 Tryz.underlying140 rfl rfl Tryz.underlying9 (by kernel_rfl) (by kernel_rfl)
  exact ⟨_, _, hv⟩
theorem tab_of {W : World} {r : List (String × DataW Unit)} (h : laidMet Tryz.prog (("internal/strconv.uint64pow10", Go.Proofs.YtojfbgegankddaaGreatDoor.Rows.laid_internal_strconv_uint64pow10) :: r) W) : Lib.TabIs Tryz.prog W "internal/strconv.uint64pow10" .u64 Lib.pow10Tab :=
  Lib.tabIs_of_head (g := 5) (n := 20) (by kernel_rfl) (by kernel_rfl) Tryz.underlying133 Tryz.underlying102 (by kernel_rfl) (by kernel_rfl) (show laidMet _ (("internal/strconv.uint64pow10", Lib.tabData .u64 Lib.pow10Tab) :: r) W from h)
theorem white_is : (Go.Proofs.YtojfbgegankddaaGreatDoor.Rows.laid_unicode_White_Space : DataW Unit) = Lib.whiteData := by kernel_rfl
theorem white_of {W : World} {l : List (String × DataW Unit)} (h : laidMet Tryz.prog l W) (hm : ("unicode.White_Space", (Go.Proofs.YtojfbgegankddaaGreatDoor.Rows.laid_unicode_White_Space : DataW Unit)) ∈ l) : Lib.WhiteTab 1 W :=
  whiteTab_of_reads Tryz.lays199 ⟨by kernel_rfl, by kernel_rfl, by kernel_rfl, by kernel_rfl, by kernel_rfl, by kernel_rfl, by kernel_rfl, by kernel_rfl⟩ (Lib.laidMet.reads h (white_is ▸ hm))
theorem asc_is : (Go.Proofs.YtojfbgegankddaaGreatDoor.Rows.laid_strings_asciiSpace : DataW Unit) = Lib.tabData .u8 Lib.asciiSpaceTab := by kernel_rfl
theorem asc_of {W : World} {r : List (String × DataW Unit)} (h : laidMet Tryz.prog (("strings.asciiSpace", Go.Proofs.YtojfbgegankddaaGreatDoor.Rows.laid_strings_asciiSpace) :: r) W) : Lib.TabIs Tryz.prog W "strings.asciiSpace" .u8 Lib.asciiSpaceTab :=
  Lib.tabIs_of_head (g := 0) (n := 256) (by kernel_rfl) (by kernel_rfl) Tryz.underlying75 Tryz.underlying5 (by kernel_rfl) (by kernel_rfl) (asc_is ▸ h)
theorem door_of_deBruijn32tab_deBruijn64tab_uint64pow10_acceptRanges_ErrRange_ErrSyntax_White_Space_asciiSpace_first {W : World} (hsh : W.ShapedOpen Tryz.prog) {a b c d : DataW Unit} (h : laidMet Tryz.prog [("math/bits.deBruijn32tab", a), ("math/bits.deBruijn64tab", b), ("internal/strconv.uint64pow10", Go.Proofs.YtojfbgegankddaaGreatDoor.Rows.laid_internal_strconv_uint64pow10), ("unicode/utf8.acceptRanges", c), ("strconv.ErrRange", Go.Proofs.YtojfbgegankddaaGreatDoor.Rows.laid_strconv_ErrRange), ("strconv.ErrSyntax", Go.Proofs.YtojfbgegankddaaGreatDoor.Rows.laid_strconv_ErrSyntax), ("unicode.White_Space", Go.Proofs.YtojfbgegankddaaGreatDoor.Rows.laid_unicode_White_Space), ("strings.asciiSpace", Go.Proofs.YtojfbgegankddaaGreatDoor.Rows.laid_strings_asciiSpace), ("unicode/utf8.first", d)] W) : Door W :=
  ⟨tab_of h.tail.tail, sen (g := 2) (by kernel_rfl) (by kernel_rfl) h.tail.tail.tail.tail.tail, sen (g := 3) (by kernel_rfl) (by kernel_rfl) h.tail.tail.tail.tail, Tryz.laysM146.s1_3 W hsh, asc_of h.tail.tail.tail.tail.tail.tail.tail, white_of h (by simp only [List.mem_cons, true_or, or_true])⟩
end Go.Proofs.YtojfbgegankddaaGreatDoorW.PrintWords
