/-
  TextValid: the plain law.
-/
import Derived.Test.YtaklkcnohbbfoaaDoorPlainDec
import Derived.Test.YtaklkcnohbbfoaaDoorLValid
namespace Go.Proofs.YtaklkcnohbbfoaaDoor.Pure
open Go.RowKit Go.Lib Go.Proofs.YtaklkcnohbbfoaaDoor.PAll Go.Proofs.YtaklkcnohbbfoaaDoorW.PrintWords Go.Proofs.YtaklkcnohbbfoaaDoorW.PrintLast Go.Proofs.YtaklkcnohbbfoaaDoorW.PrintMore Go.Proofs.YtaklkcnohbbfoaaDoor.Hand
set_option linter.unusedVariables false
set_option linter.unusedSimpArgs false

theorem va_rune {l : List Int} {r : Int} (hr : isRn r = true) (hl : l.length ≤ 1099511627776) : text_Rune.f l r = some (l ++ encodeRuneZ r, 0) := by
  unfold text_Rune.f
  rw [if_pos hr, if_pos hl]
theorem va_f {l : List Int} (hB : isBy l = true) (hl : l.length ≤ 1000) : text_Valid.f l = some (validD (u8s l)) := by
  unfold text_Valid.f utf8_Valid.f
  rw [if_pos ⟨by omega, hB⟩]
  rfl
theorem va_snoc (rs : List Int) (r : Int) : encs8 (rs ++ [r]) = encs8 rs ++ encodeRuneZ r := by simp [encs8]
theorem va_back (l rs : List Int) (h : ∀ r ∈ rs, isRn r = true) (hl : encs8 rs = l) (hn : rs.length ≤ 200) : ∀ (u : List Int) (i : Nat) (x7 : List Int), rs.drop i = u → x7 = encs8 (rs.take i) → signetrylaw02_TextValid.l1 (u.length + 100) l rs x7 (i : Int) = some true
  | [], i, x7, hu, hx => by
    have hge := List.drop_eq_nil_iff.1 hu
    rw [List.take_of_length_le hge, hl] at hx
    rw [show ([] : List Int).length + 100 = 99 + 1 from rfl, signetrylaw02_TextValid.l1, if_neg (by omega), hx, eq_refl_f, Option.bind_some, if_pos rfl, works_up (by omega)]
    rfl
  | r :: u, i, x7, hu, hx => by
    obtain ⟨e1, e2, e3⟩ := rd_drop hu
    have hr := h r (List.mem_of_mem_drop (show r ∈ rs.drop i by rw [hu]; simp))
    have hlen := (encs8_len (rs.take i)).2
    rw [List.length_take] at hlen
    have hw : wrap64 ((i : Int) + 1) = ((i + 1 : Nat) : Int) := by rw [w64 (by omega) (by omega)]; omega
    have hxl : x7.length ≤ 1099511627776 := by rw [hx]; omega
    have ht : rs.take (i + 1) = rs.take i ++ [r] := by
      rw [List.take_add_one, List.getElem?_eq_getElem e3]
      rw [List.drop_eq_getElem_cons e3] at hu
      rw [(List.cons.inj hu).1]
      rfl
    rw [List.length_cons, show u.length + 1 + 100 = (u.length + 100) + 1 by omega, signetrylaw02_TextValid.l1, if_pos (by omega), if_pos (by omega), e1, va_rune hr hxl, Option.bind_some, if_pos rfl, hw]
    exact va_back l rs h hl hn u (i + 1) _ e2 (by rw [ht, va_snoc, hx])
theorem va_none {l : List Int} {a n : Nat} (hB : isBy l = true) (hbad : isBad (l.drop a)) (hn : 1 ≤ n) (h : a + n ≤ l.length) : validD (u8s ((l.take (a + n)).drop a)) = false := by
  have hB2 : isBy ((l.take (a + n)).drop a) = true := isBy_drop (isBy_take hB _) _
  have hlen : ((l.take (a + n)).drop a).length = n := by rw [List.length_drop, List.length_take]; omega
  rcases rns_like (n + 1) ((l.take (a + n)).drop a) 0 [] hB2 (by omega) with ⟨v, rs, g1, g2, g3, g4⟩ | ⟨v, _⟩
  · exfalso
    rcases rs with _ | ⟨r, rs⟩
    · rw [g3] at hlen
      simp [encs8] at hlen
      omega
    · have e : l.drop a = encodeRuneZ r ++ (encs8 rs ++ l.drop (a + n)) := by
        rw [← List.append_assoc, show encodeRuneZ r ++ encs8 rs = encs8 (r :: rs) from rfl, ← g3]
        conv => lhs; rw [← List.take_append_drop (a + n) l]
        rw [List.drop_append_of_le_length (by rw [List.length_take]; omega)]
      exact (enc_good (g1 r (by simp)) _).1 (by rw [← e]; exact hbad)
  · exact v
theorem va_loop (l : List Int) (a : Nat) (hB : isBy l = true) (hl : l.length ≤ 200) (hbad : isBad (l.drop a)) (ha : a < l.length) : ∀ (d n : Nat), n + d = 5 → 1 ≤ n → signetrylaw02_TextValid.l0 (2 * d + 100) l (a : Int) (n : Int) = some true := by
  have fin : ∀ (k : Nat) (n : Int), 90 ≤ k → signetrylaw02_TextValid.j2 (k + 1) l (a : Int) n false = some true := by
    intro k n hk
    rw [signetrylaw02_TextValid.j2, if_neg Bool.false_ne_true, works_up (by omega)]
    rfl
  intro d
  induction d with
  | zero =>
    intro n hn h1
    rw [show 2 * 0 + 100 = (98 + 1) + 1 from rfl, signetrylaw02_TextValid.l0, if_neg (by omega)]
    exact fin 98 _ (by omega)
  | succ d ih =>
    intro n hn h1
    have hw : wrap64 ((a : Int) + (n : Int)) = ((a + n : Nat) : Int) := w_nat (by omega)
    have hw1 : wrap64 ((n : Int) + 1) = ((n + 1 : Nat) : Int) := w_one (by omega)
    rw [show 2 * (d + 1) + 100 = ((2 * d + 100) + 1) + 1 by omega, signetrylaw02_TextValid.l0, if_pos (by omega), hw]
    by_cases hle : a + n ≤ l.length
    · have hB2 : isBy ((l.take (a + n)).drop a) = true := isBy_drop (isBy_take hB _) _
      have hlen : ((l.take (a + n)).drop a).length ≤ 1000 := by rw [List.length_drop, List.length_take]; omega
      rw [decide_eq_true (by omega), signetrylaw02_TextValid.j2, if_pos rfl, hw, if_pos (by omega), if_pos (by omega), if_pos (by omega), Int.toNat_natCast, Int.toNat_natCast, va_f hB2 hlen, va_none hB hbad h1 hle, Option.bind_some, if_neg Bool.false_ne_true, hw1]
      exact ih (n + 1) (by omega) (by omega)
    · rw [decide_eq_false (by omega)]
      exact fin _ _ (by omega)
theorem TextValid : signetrylaw02_TextValid.Pure := by
  intro l0 _ _ hb0
  have hb := isBy_of hb0
  obtain ⟨l, hl⟩ : ∃ l, l0.take (min l0.length 200) = l := ⟨_, rfl⟩
  have hn : l.length ≤ 200 := by rw [← hl, List.length_take]; omega
  have hB : isBy l = true := by rw [← hl]; exact isBy_take hb _
  have hm : mn (l0.length : Int) 200 = ((min l0.length 200 : Nat) : Int) := mn_nat l0.length 200
  have hR : text_Runes.f l = some (rnsL (l.length + 1) (u8s l) 0 []) := by unfold text_Runes.f; rw [if_pos ⟨by omega, hB⟩]
  rcases rns_like (l.length + 1) l 0 [] hB (by omega) with ⟨v, rs, g1, g2, g3, g4⟩ | ⟨v, a, g1, g2, g3, rs, g4, g5, g6⟩
  · refine ⟨rs.length + 100, ?_⟩
    unfold signetrylaw02_TextValid.f
    rw [hm, if_pos (by omega), if_pos (by omega), Int.toNat_natCast, hl, hR, g4, Option.bind_some, if_pos rfl, List.nil_append]
    exact va_back l rs g1 g3.symm (by omega) rs 0 [] rfl rfl
  · refine ⟨2 * 4 + 100 + 1, ?_⟩
    have hv : text_Valid.f (l.take a) = some true := by
      rw [va_f (isBy_take hB a) (by rw [List.length_take]; omega), g6, valid_enc rs g4]
    have e0 : ((0 + a : Nat) : Int) = (a : Int) := by rw [Nat.zero_add]
    unfold signetrylaw02_TextValid.f
    rw [hm, if_pos (by omega), if_pos (by omega), Int.toNat_natCast, hl, hR, g2, e0, Option.bind_some, if_neg (show ¬ (20 : Int) = 0 by decide), if_pos rfl]
    simp only
    rw [if_neg (by omega), if_neg (by omega), if_pos (by omega), if_pos (by omega), Int.toNat_natCast, hv, Option.bind_some, if_pos rfl, signetrylaw02_TextValid.j0, if_neg (by simp)]
    exact va_loop l a hB hn g3 g1 4 1 rfl (Nat.le_refl _)
end Go.Proofs.YtaklkcnohbbfoaaDoor.Pure
