/-
  math/bits.Len64, as a caller is told of it.
-/
import Derived.Test.YtbclejgljegfmaaHandVar
import Derived.Test.YtbclejgljegfmaaShelf
namespace Go.Proofs.Ytbclejgljegfmaa.Hand
open Go.RowKit Go.Proofs.YtbclejgljegfmaaW.PrintWords
def bits_Len64.f (a0 : Int) : Option Int := if isU64 a0 = true then some (Lib.bitLen a0.toNat) else none
theorem bits_Len64.calls (a0 : Int) (r : Int) (w : World) (h : bits_Len64.f a0 = some r) : Calls Try.prog 41 #[.int .u64 a0] w fun e w' => e = .returned (.int .i64 r) ∧ w = w' := by
 unfold bits_Len64.f at h
 split at h
 ·rename_i hh
  obtain rfl := Option.some.inj h
  simp only [isU64, Bool.and_eq_true, decide_eq_true_eq] at hh
  refine (Try.bits_Len64 a0 w hh.1 (by omega)).mono ?_
  rintro e w' ⟨rfl, rfl⟩
  exact ⟨rfl, rfl⟩
 ·cases h
end Go.Proofs.Ytbclejgljegfmaa.Hand
