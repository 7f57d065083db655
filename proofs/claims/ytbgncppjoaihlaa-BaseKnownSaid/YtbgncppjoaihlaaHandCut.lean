/-
  A length that was brought down to a number that can be parted by three, as the walk tells it.
-/
import Derived.RowKit
namespace Go.Proofs.Ytbgncppjoaihlaa.Hand
open Go.RowKit
theorem third_cut {L : Nat} {z j : Int} (hl : L = z.toNat) (h0 : 0 ≤ z) (hz : z ≤ 150) (h : wrap64 (wrap64 ((L : Int) / 3) * 3) = j) : max z 0 / 3 * 3 = j := by
  have e : (L : Int) = z := by omega
  rw [e] at h
  have h1 : wrap64 (z / 3) = z / 3 := by unfold wrap64; omega
  have h2 : wrap64 (z / 3 * 3) = z / 3 * 3 := by unfold wrap64; omega
  rw [h1, h2] at h
  omega
end Go.Proofs.Ytbgncppjoaihlaa.Hand
