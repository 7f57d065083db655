/-
  WireSizes: a number has a byte for each seven bits, one at least; Make's bytes are the fewest.
-/
import Derived.Test.YtbclejgljegfmaaLSizes
import Derived.Test.YtbclejgljegfmaaPlainMade
namespace Go.Proofs.Ytbclejgljegfmaa.Pure
open Go.RowKit Go.Proofs.Ytbclejgljegfmaa.PAll Go.Proofs.Ytbclejgljegfmaa.Plain Go.Proofs.YtbclejgljegfmaaW.PrintWords Go.Proofs.YtbclejgljegfmaaW.PrintLast Go.Proofs.YtbclejgljegfmaaW.PrintMore Go.Proofs.Ytbclejgljegfmaa.Hand

theorem bits_known : ∀ k : Fin 64, wire_Size.f (shl .u64 1 ((k.val : Nat) : Int)) = some (wrap64 ((wrap64 (Int.tdiv ((k.val : Nat) : Int) 7)) + 1)) ∧ wire_Size.f (IntKind.u64.wrap ((shl .u64 1 ((k.val : Nat) : Int)) - 1)) = some (mx 1 (wrap64 (Int.tdiv (wrap64 (((k.val : Nat) : Int) + 6)) 7))) := by decide +kernel
theorem sizes_j0 (a0 a1 a2 : Int) (l : List Int) (a4 : Int) (n0 : 0 ≤ a2) (n1 : a2 ≤ 18446744073709551615) (hB : isB l = true) (k : Nat) (hk : 2001 ≤ k) : signetrylaw01_WireSizes.j0 k false a0 a1 a2 l a4 = some true := by
  obtain ⟨k, rfl⟩ : ∃ q, k = q + 1 := ⟨k - 1, by omega⟩
  obtain ⟨r, hm, _, _, hf⟩ := made_f a0 a1 a2 l a4 n0 n1 hB k (by omega)
  obtain ⟨raw, hk, hl⟩ := few_make hf k (by omega)
  simp only [signetrylaw01_WireSizes.j0]
  rw [if_neg (by simp), hm, Option.bind_some]
  simp only
  rw [hk, Option.bind_some]
  simp only
  rw [if_pos trivial, if_pos trivial, if_pos (by omega), if_pos trivial, eq_refl_f, Option.bind_some, if_pos rfl, signetrylaw01_works.f]
  rfl
theorem WireSizes (n bit : Int) (a0 a1 a2 : Int) (l : List Int) (a4 : Int) (h0 : 0 ≤ n) (h1 : n ≤ 18446744073709551615) (n0 : 0 ≤ a2) (n1 : a2 ≤ 18446744073709551615) (hB : isB l = true) : signetrylaw01_WireSizes.f 2100 n bit a0 a1 a2 l a4 = some true := by
  obtain ⟨x, hx, hx1⟩ := bring_f (a := bit) (m := 64) (by omega) (by omega)
  obtain ⟨e1, e2⟩ := bits_known ⟨x, by omega⟩
  have hv := vr_le n 9
  have hmo := vr_mono 9 (n / 2) n (by omega) (by omega)
  have hs := size_f h0 h1
  have hs2 := size_f (n := n / 2) (by omega) (by omega)
  have ht : IntKind.u64.wrap (Int.tdiv n 2) = n / 2 := by rw [Int.tdiv_eq_ediv_of_nonneg h0, wu64 (by omega) (by omega)]
  unfold signetrylaw01_WireSizes.f
  rw [hx, Option.bind_some, if_pos (by omega), e1, Option.bind_some, if_pos rfl, e2, Option.bind_some, if_pos rfl, hs, Option.bind_some, if_neg (by omega), Option.bind_some, if_neg (by omega), ht, hs2, Option.bind_some, Option.bind_some, if_neg (by omega), wire_Var.f, if_pos ⟨by simp, by simp [isU64]; omega⟩, Option.bind_some, Option.bind_some, List.length_append, w64 (by omega) (by omega)]
  rw [show ((((([1, 2] : List Int).length + (vr 9 n).length : Nat) : Int)) != 2 + ((vr 9 n).length : Int)) = false by simp]
  exact sizes_j0 a0 a1 a2 l a4 n0 n1 hB 2100 (by omega)
end Go.Proofs.Ytbclejgljegfmaa.Pure
