/- Small laws of this claim: a row of structs of one-cell fields that comes in. -/
import Derived.Test.YtojfbgegankddaaDoorMyWords
import Derived.Deep.Slices
import Derived.Deep.Fields
import Derived.ChangeSame
set_option linter.unusedVariables false
set_option linter.unusedSimpArgs false
namespace Go.Proofs.YtojfbgegankddaaDoorW.PrintWords
open Go.RowKit Go.ChangeShapes Go.WideShapes Go.Deep
section
variable {H : Type} {enc : TypeId × Value → H} {P : Program} {w : World} {base : Nat} {spare : Nat → Bool} {held : Bool}
/-- A slice of structs that comes in: none, or at each place and field a cell that can be read by the field's type. -/
theorem struct_rows {t e : TypeId} {fs : Array Field} {fuel : Nat} {cs : List Value} {x : DataW H × List MemPlace} (ht : P.underlying t = some (.slice e)) (he : P.underlying e = some (.struct fs)) (hone : oneCellFields P fs = true) (hC : P.cellsOf e = fs.size)
    (h : DataW.trod enc P w base spare held fuel t cs = some x) :
    cs = [.slice none 0 0] ∨ ∃ (a : Addr) (len cap m : Nat), cs = [.slice (some a) len cap] ∧ len ≤ cap ∧ cap ≤ maxLen ∧ m = (if spare a.block then cap else len) ∧
      ∀ i, i < m → ∃ n : Nat, ∀ (j : Nat) (f : Field), fs[j]? = some f → ∃ (v : Value) (y : DataW H × List MemPlace), w.cell? (a.add (i * fs.size + j)) = some v ∧ DataW.trod enc P w base spare held n f.type [v] = some y := by
  rcases open_slice ht h with h0 | ⟨a, len, cap, m, n, D, Pl, e1, _, e2, e3, e4, _, hat⟩
  · exact .inl h0.1
  refine .inr ⟨a, len, cap, m, e1, e2, e3, e4, fun i hi => ?_⟩
  obtain ⟨cs', hcs, htr⟩ := hat i hi
  rw [hC] at hcs
  obtain ⟨ys, n', _, _, hlen, hyl, hfs⟩ := DataW.trod_struct he htr
  obtain ⟨_, hcl, hcell⟩ := World.cells?_some hcs
  refine ⟨n', fun j f hj => ?_⟩
  have hj' : j < fs.size := (Array.getElem?_eq_some_iff.1 hj).1
  have hjc : j < cs'.length := by omega
  have hjy : j < ys.length := by omega
  obtain ⟨h1, h2⟩ := hone_of hone j f hj
  have h3 := hfs j f hj
  rw [h1, h2, show (cs'.drop j).take 1 = [cs'[j]] by rw [List.drop_eq_getElem_cons hjc]; rfl, List.getElem?_eq_getElem hjy] at h3
  refine ⟨cs'[j], ys[j], ?_, h3⟩
  have h4 := hcell j hj'
  rw [List.getElem?_eq_getElem hjc] at h4
  rw [← Go.Deep.add_add]
  exact h4
end
theorem rows_none {α : Type} (d : Kd α) (W : World) : Kd.C d W none 0 [] := ⟨rfl, by omega, fun h => absurd h (by omega)⟩
theorem rows_of {α : Type} (d : Kd α) (W : World) (b : Addr) (n : Nat) (P : α → Prop) (hn : n ≤ 9223372036854775807) (f : ∀ i, i < n → ∃ x cs, P x ∧ d.K W x cs ∧ ∀ j u, cs[j]? = some u → W.cell? (b.add (i * d.sz + j)) = some u) :
    ∃ L : List α, L.length = n ∧ (∀ x ∈ L, P x) ∧ Kd.C d W (some b) L.length L := by
  have g : ∀ i : Fin n, ∃ x, P x ∧ ∃ cs, d.K W x cs ∧ ∀ j u, cs[j]? = some u → W.cell? (b.add (i.val * d.sz + j)) = some u := fun i => by
    obtain ⟨x, cs, h1, h2, h3⟩ := f i.val i.isLt
    exact ⟨x, h1, cs, h2, h3⟩
  refine ⟨List.ofFn fun i => Classical.choose (g i), by simp, ?_, ?_⟩
  · intro x hx
    obtain ⟨i, rfl⟩ := List.mem_ofFn.1 hx
    exact (Classical.choose_spec (g i)).1
  · refine ⟨rfl, by simpa using hn, fun _ => ⟨b, rfl, fun j p hp => ?_⟩⟩
    obtain ⟨hj, rfl⟩ := List.getElem?_eq_some_iff.1 hp
    rw [List.length_ofFn] at hj
    rw [List.getElem_ofFn]
    obtain ⟨cs, h1, h2⟩ := (Classical.choose_spec (g ⟨j, hj⟩)).2
    exact ⟨cs, d.K_len h1, h1, h2⟩
end Go.Proofs.YtojfbgegankddaaDoorW.PrintWords
