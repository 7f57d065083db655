/-
  WireReads: Next and Split answer as the chapter says, of all bytes (400 at most); what is answered is memory of its own.
-/
import Derived.Test.YtbclejgljegfmaaAp
import Derived.Test.YtbclejgljegfmaaLReads
import Derived.Test.YtbclejgljegfmaaPlainRef
namespace Go.Proofs.Ytbclejgljegfmaa.PureR
open Go.RowKit Go.Proofs.Ytbclejgljegfmaa.PAll Go.Proofs.Ytbclejgljegfmaa.PlainR Go.Proofs.YtbclejgljegfmaaW.PrintWords Go.Proofs.YtbclejgljegfmaaW.PrintLast Go.Proofs.YtbclejgljegfmaaW.PrintMore Go.Proofs.Ytbclejgljegfmaa.Hand

theorem reads_l0 (a : List S33) (ha : a.length ≤ 1000) (p q r : Int) (x y : List Int) (K : Nat) (hK : 1002 ≤ K) : ∀ (d k i : Nat) (l : List Int), l.length - i = d → i ≤ l.length → l.length ≤ 1000 → d + K ≤ k → a8.l0 k l a a i p q r x y p q r x y = some true
 | d, k, i, l, hd, hi, hl, hk => by
  obtain ⟨k, rfl⟩ : ∃ m, k = m + 1 := ⟨k - 1, by omega⟩
  simp only [a8.l0]
  by_cases h : i < l.length
  case neg =>
   rw [if_neg (by omega), eN]
   simp only [Option.bind_some, if_true]
   rw [sames_f a (by omega) k (by omega)]
   rfl

  rw [if_pos (by omega), if_pos (by omega), w64 (by omega) (by omega)]
  obtain ⟨d, rfl⟩ : ∃ m, d = m + 1 := ⟨d - 1, by omega⟩
  exact reads_l0 a ha p q r x y K hK d k (i + 1) _ p240z p240z p240z (by omega)
theorem WireReads : a8.Pure := by
  intro l0 _ _ hw
  obtain ⟨l, hl⟩ : ∃ l, l = l0.take 400 := ⟨_, rfl⟩
  have hB : isB l = true := by rw [hl]; exact isB_take _ (isB_of hw)
  have hlen : l.length ≤ 400 := by rw [hl, List.length_take]; omega
  refine ⟨4000, ?_⟩
  unfold a8.f
  rw [cut_f, ← hl]
  simp only [Option.bind_some]
  rw [copy_f (by omega)]
  simp only [Option.bind_some]
  rw [wire_Next.f, if_pos ⟨hB, by omega⟩]
  simp only [Option.bind_some]
  rw [next_f hB (by omega) _ (by omega)]
  simp only [Option.bind_some]
  rw [wsplit_f hB (by omega) _ (by omega), rsplit_f hB (by omega) _ (by omega)]
  simp only [Option.bind_some]
  have hs := split_len l
  rw [eN, sames_f _ (by omega) _ (by omega)]
  simp only [Option.bind_some, if_true]
  rw [show ((split l).2 != (split l).2) = false from by simp]
  show a8.j0 (3999 + 1) _ _ _ _ _ _ _ _ _ _ _ _ _ _ = _
  simp only [a8.j0, Bool.false_eq_true, if_false]
  exact reads_l0 _ (by omega) _ _ _ _ _ 1002 (Nat.le_refl _) l.length 3999 0 l rfl (by omega) (by omega) (by omega)
end Go.Proofs.Ytbclejgljegfmaa.PureR
