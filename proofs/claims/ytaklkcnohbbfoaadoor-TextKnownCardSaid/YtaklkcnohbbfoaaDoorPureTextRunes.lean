/-
  TextRunes: the plain law.
-/
import Derived.Test.YtaklkcnohbbfoaaDoorPlainDec
import Derived.Test.YtaklkcnohbbfoaaDoorLRunes
namespace Go.Proofs.YtaklkcnohbbfoaaDoor.Pure
open Go.RowKit Go.Lib Go.Proofs.YtaklkcnohbbfoaaDoor.PAll Go.Proofs.YtaklkcnohbbfoaaDoorW.PrintWords Go.Proofs.YtaklkcnohbbfoaaDoorW.PrintLast Go.Proofs.YtaklkcnohbbfoaaDoorW.PrintMore Go.Proofs.YtaklkcnohbbfoaaDoor.Hand
set_option linter.unusedVariables false
set_option linter.unusedSimpArgs false

theorem tRune {l : List Int} {n : Int} (hl : l.length ≤ 1099511627776) : text_Rune.f l n = some (if isRn n = true then (l ++ encodeRuneZ n, 0) else ([], 20)) := by
  unfold text_Rune.f
  by_cases h : isRn n = true
  · rw [if_pos h, if_pos hl, if_pos h]
  · rw [if_neg h, if_neg h]
theorem runes_at (l0 : List Int) (a1 : Int) (hb : isBy l0 = true) : signetrylaw02_TextRunes.f 1000 l0 a1 = some true := by
  unfold signetrylaw02_TextRunes.f
  have hm : mn (l0.length : Int) 200 = ((min l0.length 200 : Nat) : Int) := mn_nat l0.length 200
  rw [hm, if_pos (by omega), if_pos (by omega), Int.toNat_natCast]
  obtain ⟨l, hl⟩ : ∃ l, l0.take (min l0.length 200) = l := ⟨_, rfl⟩
  have hn : l.length ≤ 200 := by rw [← hl, List.length_take]; omega
  have hB : isBy l = true := by rw [← hl]; exact isBy_take hb _
  rw [hl]
  clear hl hm
  have h4 : ([7, 7, 7, 7] : List Int).length = 4 := rfl
  have hz : (l ++ [7, 7, 7, 7]).length = l.length + 4 := by rw [List.length_append, h4]
  have hw : wrap64 ((l.length : Int) + 4) = ((l.length + 4 : Nat) : Int) := by rw [w64 (by omega) (by omega)]; omega
  have ht1 : (l ++ [7, 7, 7, 7]).take l.length = l := List.take_left
  have ht2 : (l ++ [7, 7, 7, 7]).take (l.length + 4) = l ++ [7, 7, 7, 7] := List.take_of_length_le (by omega)
  have hd : (l ++ [7, 7, 7, 7]).drop l.length = [7, 7, 7, 7] := List.drop_left
  have g1 : (l.length : Int) ≤ ((l ++ [7, 7, 7, 7]).length : Int) := by omega
  have g2 : ((l.length + 4 : Nat) : Int) ≤ ((l ++ [7, 7, 7, 7]).length : Int) := by omega
  have hR : text_Runes.f l = some (rnsL (l.length + 1) (u8s l) 0 []) := by unfold text_Runes.f; rw [if_pos ⟨by omega, hB⟩]
  have hV : text_Valid.f l = some (validD (u8s l)) := by unfold text_Valid.f utf8_Valid.f; rw [if_pos ⟨by omega, hB⟩]; rfl
  rw [copy_f (by omega), Option.bind_some, Option.bind_some, h4, if_pos (by omega), Option.bind_some, if_pos (by omega), if_pos g1, Option.bind_some, Int.toNat_natCast, ht1, hR, Option.bind_some, rRunes hB (by omega) (by omega), Option.bind_some, tRune (by omega), Option.bind_some, rRune (by omega), Option.bind_some]
  have hlen : (rnsL (l.length + 1) (u8s l) 0 []).1.length ≤ 200 ∧ (validD (u8s l) == ((rnsL (l.length + 1) (u8s l) 0 []).2.2 == 0)) = true := by
    rcases rns_like (l.length + 1) l 0 [] hB (by omega) with ⟨v, rs, g1, g2, g3, g4⟩ | ⟨v, a, g1, g2, g3, g4⟩
    · rw [g4, v]; simp; omega
    · rw [g2, v]; simp
  have hVr : signetryref02_Valid.f 1000 l = some ((rnsL (l.length + 1) (u8s l) 0 []).2.2 == 0) := by unfold signetryref02_Valid.f; rw [rRunes hB (by omega) (by omega), Option.bind_some]
  rw [eqInts_refl (by omega) (by omega), Option.bind_some, if_pos rfl, if_pos rfl, if_pos rfl, eq_refl_f, Option.bind_some, if_pos rfl, if_pos rfl, hV, Option.bind_some, hVr, Option.bind_some, if_pos hlen.2, hw, if_pos (by omega), if_pos g2, Option.bind_some, Int.toNat_natCast, ht2, if_pos g1, hd, eq_refl_f, Option.bind_some, if_pos rfl, eq_refl_f, Option.bind_some, if_pos rfl, works_up (by omega)]
  rfl
theorem TextRunes : signetrylaw02_TextRunes.Pure := fun l0 a1 _ _ h _ => ⟨1000, runes_at l0 a1 (isBy_of h)⟩
end Go.Proofs.YtaklkcnohbbfoaaDoor.Pure
