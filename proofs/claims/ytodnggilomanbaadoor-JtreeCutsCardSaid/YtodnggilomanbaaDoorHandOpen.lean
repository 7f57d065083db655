/-
  A seed that came in, as a list of numbers. No walk.
-/
import Derived.Test.YtodnggilomanbaaDoorHandSeed
import Derived.ChangeSame
import Derived.ChangeSlices
namespace Go.Proofs.YtodnggilomanbaaDoor.Hand
open Go.ChangeShapes Go.WideShapes Go.RowKit Go.Proofs.YtodnggilomanbaaDoorW.PrintWords Go.Proofs.YtodnggilomanbaaDoorW.PrintLast Go.Proofs.YtodnggilomanbaaDoorW.PrintMore Go.Proofs.YtodnggilomanbaaDoor.PAll
set_option linter.unusedVariables false
set_option linter.unusedSimpArgs false
section
variable {H : Type} {enc : TypeId × Value → H} {w : World} {base : Nat} {held : Bool}
theorem open_row {fuel : Nat} {v : Value} {y : DataW H × List MemPlace} (h : DataW.trod enc Tryd.prog w base (fun _ => true) held fuel 22 [v] = some y) :
    ∃ (A : Option Addr) (c : Nat) (l : List Int), v = .slice A l.length c ∧ l.length ≤ c ∧ (Kd.int .i64).C w A l.length l := by
  rcases open_ints Tryd.underlying22 Tryd.underlying3 (by kernel_rfl) h with ⟨hcs, _⟩ | ⟨x, l, c, zs, hcs, _, hl, hm, hz, _, hcell, hwz⟩
  · simp only [List.cons.injEq, and_true] at hcs
    obtain ⟨l0, e0, hr0, _, hw0, hc0⟩ := ReadsInt.ofRowC (k := .i64) (w := w) (a := none) (len := 0) (cap := 0) (zs := []) (.inl ⟨rfl, rfl, rfl, rfl⟩)
    have hl0 : l0 = [] := List.eq_nil_of_length_eq_zero e0.symm
    subst hl0
    exact ⟨none, 0, [], hcs, Nat.le_refl _, Kd.C_of_reads (d := (0 : Int)) (h1 := fun _ => rfl) hr0⟩
  · simp only [List.cons.injEq, and_true] at hcs
    subst hcs
    obtain ⟨l0, e0, hr0, _, hw0, hc0⟩ := ReadsInt.ofRowC (k := .i64) (w := w) (a := some x) (len := l) (cap := c) (zs := zs) (.inr ⟨x, rfl, hl, hm, by simpa using hz, hcell, hwz⟩)
    subst e0
    exact ⟨some x, c, l0, rfl, hc0, Kd.C_of_reads (d := (0 : Int)) (h1 := fun _ => rfl) hr0⟩
theorem open_seed {v : Value} {cs : Array Value} {x : DataW H × List MemPlace} (hv : v = .agg cs) (h : ∃ fuel, DataW.trod enc Tryd.prog w base (fun _ => true) held fuel 38 v.cells.toList = some x) :
    ∃ (A : Option Addr) (c : Nat) (l : List Int), v = .agg #[.slice A l.length c] ∧ l.length ≤ c ∧ (Kd.int .i64).C w A l.length l := by
  subst hv
  obtain ⟨fuel, hf⟩ := h
  obtain ⟨y, n, _, hlen, h1⟩ := trod_struct1 Tryd.underlying38 hf
  have hl1 : (Value.cells (.agg cs)).toList.length = 1 := hlen.trans (by kernel_rfl)
  obtain ⟨L⟩ := cs
  have hL : (Value.cells (.agg ⟨L⟩)).toList = L := rfl
  rw [hL] at hl1
  obtain ⟨z, rfl⟩ := List.length_eq_one_iff.1 hl1
  have hc : Tryd.prog.cellsOf 22 = 1 := by kernel_rfl
  simp only at h1
  rw [hc] at h1
  have h1 : DataW.trod enc Tryd.prog w base (fun _ => true) held n 22 [z] = some y := h1
  obtain ⟨A, c, l, rfl, h2, h3⟩ := open_row h1
  exact ⟨A, c, l, rfl, h2, h3⟩
end
end Go.Proofs.YtodnggilomanbaaDoor.Hand
