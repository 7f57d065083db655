/-
  JtreeBlanks: blanks between parts change nothing: no walk.
-/
import Derived.Test.YtodnggilomanbaaGreatDoorPlainSpaced
import Derived.Test.YtodnggilomanbaaGreatDoorLBlanks
namespace Go.Proofs.YtodnggilomanbaaGreatDoor.Pure
open Go.RowKit Go.Lib Go.Proofs.YtodnggilomanbaaGreatDoor.PAll Go.Proofs.YtodnggilomanbaaGreatDoorW.PrintWords Go.Proofs.YtodnggilomanbaaGreatDoorW.PrintLast Go.Proofs.YtodnggilomanbaaGreatDoorW.PrintMore Go.Proofs.YtodnggilomanbaaGreatDoor.Hand
set_option linter.unusedVariables false
set_option linter.unusedSimpArgs false

theorem JtreeBlanks (a1 : Int) (n : S28) (hs : Sml n) (hc : cnt n ≤ 601) : ∃ k, signetrylaw14_JtreeBlanks.f k n.f0 n.f1 n.f2 n.f3 a1 = some true := by
  cases hm : mayF n 1 with
  | false =>
    obtain ⟨k0, h0⟩ := seed_not hs hc hm
    refine ⟨max k0 60, ?_⟩
    unfold signetrylaw14_JtreeBlanks.f
    rw [(h0 _ (Nat.le_max_left _ _)).2, Option.bind_some, if_neg (by decide), works_le (Nat.le_max_right _ _), Option.bind_some]
  | true =>
    obtain ⟨k0, h0⟩ := seed_may hs hc hm
    have hz := bringZ_bd a1 4 (by decide)
    have hbr := bring_z a1 4 (by decide) (by decide)
    obtain ⟨j, hj⟩ : ∃ j, bringZ a1 4 = j := ⟨_, rfl⟩
    rw [hj] at hz hbr
    obtain ⟨bl, hbl⟩ : ∃ bl, rdOf ByteArray.empty ([(⟨#[32]⟩ : ByteArray), (⟨#[10]⟩ : ByteArray), (⟨#[9, 13]⟩ : ByteArray), (⟨#[32, 32]⟩ : ByteArray)] : List ByteArray) j = bl := ⟨_, rfl⟩
    have hb : AB (bytesOf bl) ∧ bl.size ≤ 2 := by
      have h4 : j = 0 ∨ j = 1 ∨ j = 2 ∨ j = 3 := by omega
      rw [← hbl]
      rcases h4 with rfl | rfl | rfl | rfl <;> exact ⟨by unfold AB; decide, by decide⟩
    obtain ⟨hab, hb2⟩ := hb
    have hlen := hs.len (bytesOf bl) (by rw [bytesOf_length]; exact hb2)
    obtain ⟨k1, s, h1, hsb⟩ := spaced_at bl _ n 1 (Nat.le_refl _) hm (by decide) (by omega) (by omega)
    have hsz : s.size ≤ 1048576 := by
      rw [by_len, hsb]
      simp only [List.length_append, bytesOf_length]
      omega
    have hp := parse_spc hab hab hab hsb hm (by omega) hsz
    obtain ⟨K, hK⟩ : ∃ K, max (max k0 60) k1 = K := ⟨_, rfl⟩
    obtain ⟨f1, f2, f3, f4⟩ := h0 K (by omega)
    have hsp := sp_le (show k1 ≤ K by omega) h1
    have hpa : jtree_Parse.f K s = some (n.f0, n.f1, n.f2, n.f3, 0, 0) := by
      unfold jtree_Parse.f
      rw [hp]
    refine ⟨K, ?_⟩
    unfold signetrylaw14_JtreeBlanks.f
    rw [f2, Option.bind_some, if_pos rfl, Option.bind_some, hbr, Option.bind_some, if_pos hz.1, if_pos (by exact hz.2), hbl, hsp, Option.bind_some, hpa, Option.bind_some]
    simp only
    rw [if_pos trivial, f4, Option.bind_some, if_pos rfl, works_le (show 60 ≤ K by omega), Option.bind_some]
end Go.Proofs.YtodnggilomanbaaGreatDoor.Pure
