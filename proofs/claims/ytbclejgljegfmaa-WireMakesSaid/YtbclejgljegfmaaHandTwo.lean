/-
  An array of two numbers that came in, opened. No walk.
-/
import Derived.OpenShut
import Derived.Test.YtbclejgljegfmaaHandOpen
namespace Go.Proofs.Ytbclejgljegfmaa.Hand
open Go.ChangeShapes Go.WideShapes Go.RowKit Go.Deep
variable {H : Type} {enc : TypeId × Value → H} {w : World} {base : Nat}
theorem open_two {v : Value} {fuel : Nat} {x : DataW H × List MemPlace} {b : Nat} (hv : Value.okWide Try.prog w .any b 52 v) (h : DataW.trod enc Try.prog w base (fun _ => true) true fuel 52 v.cells.toList = some x) :
    ∃ (x0 x1 : Int), v = .agg #[.int .i64 x0, .int .i64 x1] := by
  unfold Value.okWide at hv
  rw [Try.underlying52] at hv
  obtain ⟨cs, rfl, hsz2, _⟩ := hv
  obtain ⟨l⟩ := cs
  have h2c : l.length = 2 := hsz2.trans (by kernel_rfl)
  match l, h2c with
  | [e0, e1], _ =>
    obtain ⟨xs, m, _, _, _, hxl, hg⟩ := DataW.trod_array Try.underlying52 h
    have hc : Try.prog.cellsOf 3 = 1 := by kernel_rfl
    have g0 := hg 0 (by omega)
    have g1 := hg 1 (by omega)
    rw [hc] at g0 g1
    match xs, hxl with
    | [y0, y1], _ =>
      obtain ⟨n0, z0, _, _⟩ := DataW.trod_int Try.underlying3 g0
      obtain ⟨n1, z1, _, _⟩ := DataW.trod_int Try.underlying3 g1
      obtain rfl : e0 = .int .i64 n0 := List.head_eq_of_cons_eq (show [e0] = [Value.int .i64 n0] from z0)
      obtain rfl : e1 = .int .i64 n1 := List.head_eq_of_cons_eq (show [e1] = [Value.int .i64 n1] from z1)
      exact ⟨_, _, rfl⟩
end Go.Proofs.Ytbclejgljegfmaa.Hand
