/-
  What the document's sameness answers of records and themselves, in plain words: no walk.
-/
import Derived.Test.YtbclejgljegfmaaGG
import Derived.Test.YtbclejgljegfmaaPlainWire
namespace Go.Proofs.Ytbclejgljegfmaa.Plain
open Go.RowKit Go.Proofs.Ytbclejgljegfmaa.PAll Go.Proofs.YtbclejgljegfmaaW.PrintWords Go.Proofs.YtbclejgljegfmaaW.PrintLast Go.Proofs.YtbclejgljegfmaaW.PrintMore Go.Proofs.Ytbclejgljegfmaa.Hand

theorem same_refl_f (a b c : Int) (x y : List Int) : signetryref01_Same.f a b c x y a b c x y = some true := by simp [signetryref01_Same.f, eq_refl_f]
theorem sames_l0 (a : List S33) (ha : a.length ≤ 1099511627776) : ∀ (d k i : Nat), a.length - i = d → i ≤ a.length → d + 1 ≤ k → signetrylaw01_same.l0 k a a i = some true
  | d, k, i, hd, hi, hk => by
    obtain ⟨k, rfl⟩ : ∃ q, k = q + 1 := ⟨k - 1, by omega⟩
    simp only [signetrylaw01_same.l0]
    by_cases h : i < a.length
    · rw [if_pos (by omega), if_pos (by omega), if_pos (by omega), same_refl_f]
      simp only [Option.bind_some, if_true]
      rw [w64 (by omega) (by omega)]
      obtain ⟨d, rfl⟩ : ∃ q, d = q + 1 := ⟨d - 1, by omega⟩
      exact sames_l0 a ha d k (i + 1) (by omega) (by omega) (by omega)
    · rw [if_neg (by omega)]
theorem sames_f (a : List S33) (ha : a.length ≤ 1099511627776) (k : Nat) (hk : a.length + 1 ≤ k) : signetrylaw01_same.f k a a = some true := by
  unfold signetrylaw01_same.f
  rw [if_pos rfl]
  exact sames_l0 a ha a.length k 0 rfl (by omega) hk
end Go.Proofs.Ytbclejgljegfmaa.Plain
