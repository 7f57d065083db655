/-
  TextBack: the plain law.
-/
import Derived.Test.YtaklkcnohbbfoaaDoorLBack
import Derived.Test.YtaklkcnohbbfoaaDoorPlainRune
namespace Go.Proofs.YtaklkcnohbbfoaaDoor.Pure
open Go.RowKit Go.Lib Go.Proofs.YtaklkcnohbbfoaaDoor.PAll Go.Proofs.YtaklkcnohbbfoaaDoorW.PrintWords Go.Proofs.YtaklkcnohbbfoaaDoorW.PrintLast Go.Proofs.YtaklkcnohbbfoaaDoorW.PrintMore Go.Proofs.YtaklkcnohbbfoaaDoor.Hand
set_option linter.unusedVariables false
set_option linter.unusedSimpArgs false

theorem runeOf_f (a : Int) : ∃ r, signetrylaw02_runeOf.f a = some r ∧ isRn r = true := by
  have hm1 := Int.tmod_lt_of_pos a (show (0 : Int) < 1112064 by decide)
  have hm2 : -1112064 < Int.tmod a 1112064 := by
    have := Int.tmod_lt_of_pos (-a) (show (0 : Int) < 1112064 by decide)
    rw [Int.neg_tmod] at this
    omega
  have key : ∀ t : Int, 0 ≤ t → t < 1112064 → ∃ r, (if t ≥ 55296 then some (wrap64 (t + 2048)) else some t) = some r ∧ isRn r = true := by
    intro t h0 h1
    split
    · refine ⟨_, rfl, ?_⟩
      rw [w64 (by omega) (by omega)]
      simp only [isRn, Bool.or_eq_true, decide_eq_true_eq]
      omega
    · refine ⟨_, rfl, ?_⟩
      simp only [isRn, Bool.or_eq_true, decide_eq_true_eq]
      omega
  unfold signetrylaw02_runeOf.f signetryref00_Bring.f
  rw [if_neg (by decide)]
  split
  · rw [Option.bind_some]
    exact key _ (by rw [w64 (by omega) (by omega)]; omega) (by rw [w64 (by omega) (by omega)]; omega)
  · rw [Option.bind_some]
    exact key _ (by omega) hm1
theorem rune_app {l : List Int} {r : Int} (hr : isRn r = true) (hl : l.length ≤ 1099511627776) : text_Rune.f l r = some (l ++ encodeRuneZ r, 0) := by
  unfold text_Rune.f
  rw [if_pos hr, if_pos hl]
theorem runes_f {rs : List Int} (h : ∀ r ∈ rs, isRn r = true) (hl : rs.length ≤ 268435456) : text_Runes.f (encs8 rs) = some (rs, 0, 0) := by
  unfold text_Runes.f
  have h1 := encs8_len rs
  rw [if_pos ⟨by omega, encs8_isBy rs⟩, rns_enc rs _ 0 [] h (by omega), List.nil_append]
theorem valid_f {rs : List Int} (h : ∀ r ∈ rs, isRn r = true) (hl : rs.length ≤ 268435456) : text_Valid.f (encs8 rs) = some true := by
  have h1 := encs8_len rs
  unfold text_Valid.f utf8_Valid.f
  rw [if_pos ⟨by omega, encs8_isBy rs⟩, valid_enc rs h]
  rfl
theorem encs8_snoc (rs : List Int) (r : Int) : encs8 (rs ++ [r]) = encs8 rs ++ encodeRuneZ r := by simp [encs8]
theorem back_loop (l : List Int) : ∀ (n i k : Nat) (rs : List Int), i + n = min l.length 100 → rs.length = i → (∀ r ∈ rs, isRn r = true) →
    signetrylaw02_TextBack.l0 (2 * n + 2 + (200 + k)) l (encs8 rs) rs (i : Int) = some true
  | 0, i, k, rs, hi, hr, h => by
    rw [show 2 * 0 + 2 + (200 + k) = (200 + k) + 1 + 1 by omega, signetrylaw02_TextBack.l0]
    have hlen : rs.length ≤ 100 := by omega
    have fin : signetrylaw02_TextBack.j1 (200 + k + 1) l (encs8 rs) rs (i : Int) false = some true := by
      rw [signetrylaw02_TextBack.j1, if_neg (by simp), runes_f h (by omega), Option.bind_some, if_pos rfl, if_pos rfl, eqInts_refl (l := rs) (by omega) (by omega), Option.bind_some, if_pos rfl, valid_f h (by omega)]
      rfl
    split
    · rw [show decide ((i : Int) < 100) = false from decide_eq_false (by omega)]
      exact fin
    · exact fin
  | n + 1, i, k, rs, hi, hr, h => by
    obtain ⟨r, hrf, hrn⟩ := runeOf_f (rd l (i : Int))
    have h1 := encs8_len rs
    have h2 := encodeRuneZ_length r
    have hw : wrap64 ((i : Int) + 1) = ((i + 1 : Nat) : Int) := by rw [w64 (by omega) (by omega)]; omega
    rw [show 2 * (n + 1) + 2 + (200 + k) = (2 * n + 2 + (200 + k)) + 1 + 1 by omega, signetrylaw02_TextBack.l0, if_pos (by omega), show decide ((i : Int) < 100) = true from decide_eq_true (by omega), signetrylaw02_TextBack.j1, if_pos rfl, if_pos (by omega), if_pos (by omega), hrf, Option.bind_some, rune_app hrn (by omega), Option.bind_some]
    simp only [if_true]
    rw [if_neg (by rw [List.length_append]; omega), if_neg (by rw [List.length_append, w64 (by omega) (by omega)]; omega), if_pos (by omega), if_pos (by rw [List.length_append]; omega), Int.toNat_natCast, List.take_left', eq_refl_f, Option.bind_some, if_pos rfl, if_pos (by omega), hw, ← encs8_snoc]
    · exact back_loop l n (i + 1) k (rs ++ [r]) (by omega) (by simp [hr]) (by
        intro x hx
        rcases List.mem_append.1 hx with hx | hx
        · exact h x hx
        · rw [List.mem_singleton.1 hx]; exact hrn)
    · rfl
theorem TextBack : signetrylaw02_TextBack.Pure := by
  intro l0 _ _ _
  refine ⟨2 * min l0.length 100 + 2 + (200 + 0), ?_⟩
  unfold signetrylaw02_TextBack.f
  rw [works_up (by omega), Option.bind_some, if_pos rfl]
  exact back_loop l0 (min l0.length 100) 0 0 [] (by omega) rfl (by simp)
end Go.Proofs.YtaklkcnohbbfoaaDoor.Pure
