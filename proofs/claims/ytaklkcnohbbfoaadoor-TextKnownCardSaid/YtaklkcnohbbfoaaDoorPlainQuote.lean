/-
  What the program's Unquote answers, over lists of bytes. No walk.
-/
import Derived.Test.YtaklkcnohbbfoaaDoorPlainEsc
namespace Go.Proofs.YtaklkcnohbbfoaaDoor.Pure
open Go.RowKit Go.Lib Go.Proofs.YtaklkcnohbbfoaaDoor.PAll Go.Proofs.YtaklkcnohbbfoaaDoorW.PrintWords Go.Proofs.YtaklkcnohbbfoaaDoorW.PrintLast Go.Proofs.YtaklkcnohbbfoaaDoorW.PrintMore Go.Proofs.YtaklkcnohbbfoaaDoor.Hand
set_option linter.unusedVariables false
set_option linter.unusedSimpArgs false

theorem ext_tail (s : ByteArray) (n : Nat) : bytesOf (s.extract n s.size) = (bytesOf s).drop n := by
  rw [bytesOf_extract]
  have := bytesOf_length s
  rw [List.take_of_length_le (by omega)]
theorem spell_none {s : ByteArray} (h : escL (bytesOf s) = none) : (spell s).2.2 = false := by
  have hlen := bytesOf_length s
  unfold spell
  by_cases h0 : s.size = 0
  · rw [if_pos h0]
  · rw [if_neg h0]
    obtain ⟨c, t, hu⟩ : ∃ c t, bytesOf s = c :: t := by
      rcases h : bytesOf s with _ | ⟨c, t⟩
      · rw [h] at hlen; exact absurd hlen.symm h0
      · exact ⟨c, t, rfl⟩
    have e0 : bt s 0 = c := by
      have := bt_getD s 0
      rw [hu] at this
      exact this
    have et : bytesOf (s.extract 1 s.size) = t := by rw [ext_tail, hu]; rfl
    rw [e0, et, hu]
    rw [hu] at h
    rw [escL] at h
    by_cases hH : escH c = true
    · rw [if_pos hH] at h; cases h
    · rw [if_neg hH] at h ⊢
      by_cases hx : c = 120 ∨ c = 88
      · rw [if_pos hx] at h ⊢
        split at h
        · rename_i hz; simp [hz]
        · cases h
      · rw [if_neg hx] at h ⊢
        by_cases h2 : c = 117 ∨ c = 85
        · rw [if_pos h2] at h ⊢
          split at h
          · cases h
          · rename_i hn
            simp only [Bool.and_eq_false_iff, decide_eq_false_iff_not]
            by_cases hd : (digs 16 (want c) t 0).2 = want c
            · right
              have : isRn (digs 16 (want c) t 0).1 ≠ true := fun e => hn ⟨hd, e⟩
              unfold runeB
              rw [if_neg this]
              decide
            · exact Or.inl hd
        · rw [if_neg h2] at h ⊢
          split at h
          · rename_i hz
            simp only [Bool.and_eq_false_iff, decide_eq_false_iff_not]
            omega
          · cases h
theorem spell_some {s : ByteArray} {b : List Int} {n : Nat} (h : escL (bytesOf s) = some (b, n)) : (spell s).1 = b ∧ bytesOf (spell s).2.1 = (bytesOf s).drop n ∧ (spell s).2.2 = true := by
  have hlen := bytesOf_length s
  unfold spell
  by_cases h0 : s.size = 0
  · have : bytesOf s = [] := List.eq_nil_of_length_eq_zero (by omega)
    rw [this] at h
    cases h
  · rw [if_neg h0]
    obtain ⟨c, t, hu⟩ : ∃ c t, bytesOf s = c :: t := by
      rcases h : bytesOf s with _ | ⟨c, t⟩
      · rw [h] at hlen; exact absurd hlen.symm h0
      · exact ⟨c, t, rfl⟩
    have e0 : bt s 0 = c := by
      have := bt_getD s 0
      rw [hu] at this
      exact this
    have et : bytesOf (s.extract 1 s.size) = t := by rw [ext_tail, hu]; rfl
    have e2 : ∀ m, bytesOf ((s.extract 1 s.size).extract m (s.extract 1 s.size).size) = t.drop m := fun m => by rw [ext_tail, et]
    have e3 : ∀ m, bytesOf (s.extract m s.size) = (c :: t).drop m := fun m => by rw [ext_tail, hu]
    rw [e0, et, hu]
    rw [hu] at h
    rw [escL] at h
    by_cases hH : escH c = true
    · rw [if_pos hH] at h ⊢
      simp only [Option.some.injEq, Prod.mk.injEq] at h
      obtain ⟨rfl, rfl⟩ := h
      exact ⟨rfl, by rw [et]; rfl, rfl⟩
    · rw [if_neg hH] at h ⊢
      by_cases hx : c = 120 ∨ c = 88
      · rw [if_pos hx] at h ⊢
        split at h
        · cases h
        · rename_i hz
          simp only [Option.some.injEq, Prod.mk.injEq] at h
          obtain ⟨rfl, rfl⟩ := h
          refine ⟨rfl, ?_, by simp only [decide_eq_true_eq]; omega⟩
          simp only [e2]
          rw [Nat.add_comm, List.drop_succ_cons]
      · rw [if_neg hx] at h ⊢
        by_cases h2 : c = 117 ∨ c = 85
        · rw [if_pos h2] at h ⊢
          split at h
          · rename_i hz
            simp only [Option.some.injEq, Prod.mk.injEq] at h
            obtain ⟨rfl, rfl⟩ := h
            refine ⟨?_, ?_, ?_⟩
            · unfold runeB; rw [if_pos hz.2]
            · simp only [e2]
              rw [Nat.add_comm, List.drop_succ_cons]
            · unfold runeB; rw [if_pos hz.2]; simp [hz.1]
          · cases h
        · rw [if_neg h2] at h ⊢
          split at h
          · cases h
          · rename_i hz
            simp only [Option.some.injEq, Prod.mk.injEq] at h
            obtain ⟨rfl, rfl⟩ := h
            refine ⟨rfl, ?_, ?_⟩
            · simp only [e3]
            · simp only [Bool.and_eq_true, decide_eq_true_eq]
              omega
theorem tUnq_loop (q : Int) (k0 : Nat) : ∀ (f : Nat) (x : ByteArray) (acc : List Int), x.size < f → x.size ≤ 1099511627776 → acc.length + 4 * x.size ≤ 70368744177664 →
    text_Unquote.l0 (3 * f + k0) q acc x = some (uq q f (bytesOf x) acc)
  | 0, x, acc, hf, hs, ha => by omega
  | f + 1, x, acc, hf, hs, ha => by
    have hlen := bytesOf_length x
    rw [show 3 * (f + 1) + k0 = (3 * f + k0) + 1 + 1 + 1 by omega, text_Unquote.l0]
    rcases hu : bytesOf x with _ | ⟨c, t⟩
    · have h0 : x.size = 0 := by rw [← hlen, hu]; rfl
      rw [if_pos (by rw [ByteArray.toList_eq]; exact List.eq_nil_of_length_eq_zero (by rw [data_length]; exact h0))]
      rfl
    · have hn : t.length + 1 = x.size := by rw [← hlen, hu]; rfl
      have e0 : bt x 0 = c := by
        have := bt_getD x 0
        rw [hu] at this
        exact this
      have et : bytesOf (x.extract 1 x.size) = t := by rw [ext_tail, hu]; rfl
      have hz : (x.extract 1 x.size).size = t.length := by rw [ByteArray.size_extract]; omega
      rw [if_neg (toList_ne (by omega)), if_pos (by omega), e0]
      have hj : (if c = q then text_Unquote.j2 (3 * f + k0 + 2) q acc x c ((x.size : Int) == 1) else text_Unquote.j2 (3 * f + k0 + 2) q acc x c false) = text_Unquote.j2 (3 * f + k0 + 2) q acc x c (decide (c = q ∧ t = [])) := by
        by_cases h : c = q
        · rw [if_pos h]
          congr 1
          rw [Bool.eq_iff_iff]
          simp only [beq_iff_eq, decide_eq_true_eq, h, true_and]
          constructor
          · intro e; exact List.eq_nil_of_length_eq_zero (by omega)
          · rintro rfl; simp at hn; omega
        · rw [if_neg h, decide_eq_false (fun e => h e.1)]
      rw [hj, text_Unquote.j2]
      unfold uq
      by_cases hd : c = q ∧ t = []
      · rw [decide_eq_true hd, if_pos rfl, if_pos hd.1, if_pos hd.2]
      · rw [decide_eq_false hd, if_neg (by simp)]
        have hj3 : (if c = q then text_Unquote.j3 (3 * f + k0 + 1) q acc x c (c == q) else text_Unquote.j3 (3 * f + k0 + 1) q acc x c (decide (c < 32))) = text_Unquote.j3 (3 * f + k0 + 1) q acc x c (decide (c = q ∨ c < 32)) := by
          by_cases h : c = q
          · rw [if_pos h]
            congr 1
            simp [h]
          · rw [if_neg h]
            congr 1
            simp [h]
        rw [hj3, text_Unquote.j3]
        by_cases hq : c = q
        · rw [decide_eq_true (Or.inl hq), if_pos rfl, if_pos hq, if_neg (fun e => hd ⟨hq, e⟩)]
        · rw [if_neg hq]
          by_cases h32 : c < 32
          · rw [decide_eq_true (Or.inr h32), if_pos rfl, if_pos h32]
          · rw [decide_eq_false (by simp [hq, h32]), if_neg (by simp), if_neg h32]
            by_cases h92 : c = 92
            · rw [if_pos h92, if_pos (by omega), if_pos h92]
              unfold text_spelt.f
              rw [if_pos (by omega), Option.bind_some]
              rcases he : escL t with _ | ⟨b, n⟩
              · rw [if_neg (by rw [spell_none (by rw [et]; exact he)]; simp)]
              · obtain ⟨s1, s2, s3⟩ := spell_some (s := x.extract 1 x.size) (by rw [et]; exact he)
                obtain ⟨l1, l2, l3⟩ := escL_len he
                rw [if_pos s3, s1, if_pos (by omega)]
                rw [et] at s2
                have h3 : (spell (x.extract 1 x.size)).2.1.size = t.length - n := by
                  have := bytesOf_length (spell (x.extract 1 x.size)).2.1
                  rw [s2, List.length_drop] at this
                  exact this.symm
                rw [tUnq_loop q k0 f _ (acc ++ b) (by omega) (by omega) (by rw [List.length_append]; omega), s2]
            · rw [if_neg h92, if_neg h92, if_pos (by omega), if_pos (by omega), tUnq_loop q k0 f _ (acc ++ [c]) (by omega) (by omega) (by rw [List.length_append]; simp only [List.length_cons, List.length_nil]; omega), et]
theorem tUnq {s : ByteArray} {k : Nat} (hs : s.size ≤ 1099511627776) (hk : 3 * s.size + 10 ≤ k) : text_Unquote.f k s = some (uqF (bytesOf s)) := by
  have hlen : (bytesOf s).length = s.size := bytesOf_length s
  obtain ⟨r, rfl⟩ : ∃ r, k = r + 1 := ⟨k - 1, by omega⟩
  unfold text_Unquote.f uqF
  rw [hlen]
  by_cases h2 : s.size < 2
  · rw [if_pos (by omega), text_Unquote.j0, if_pos rfl, if_pos h2]
  · rw [if_neg (by omega), if_pos (by omega), if_neg h2]
    have e0 : bt s 0 = (bytesOf s).getD 0 0 := bt_getD s 0
    have hw : wrap64 ((s.size : Int) - 1) = ((s.size - 1 : Nat) : Int) := by rw [w64 (by omega) (by omega)]; omega
    have g1 : (0 : Int) ≤ ((s.size - 1 : Nat) : Int) := by omega
    have g2 : ((s.size - 1 : Nat) : Int) < (s.size : Int) := by omega
    rw [← e0, hw]
    have hl : bt s 0 = 34 ∨ bt s 0 = 39 → text_Unquote.j0 (r + 1) s (bt s ((s.size - 1 : Nat) : Int) != bt s 0) = some (uq (bt s 0) s.size ((bytesOf s).drop 1) []) := by
      intro h
      rw [text_Unquote.j0]
      have hd : bytesOf (s.extract 1 s.size) = (bytesOf s).drop 1 := ext_tail s 1
      have hz : (s.extract 1 s.size).size = s.size - 1 := by rw [ByteArray.size_extract]; omega
      by_cases hb : bt s ((s.size - 1 : Nat) : Int) = bt s 0
      · rw [if_neg (by simp [hb]), if_pos (by omega), if_pos (by omega)]
        have := tUnq_loop (bt s 0) (r - 3 * s.size) s.size (s.extract 1 s.size) [] (by omega) (by omega) (by simp only [List.length_nil]; omega)
        rw [hd, show 3 * s.size + (r - 3 * s.size) = r by omega] at this
        exact this
      · rw [if_pos (by simpa using hb)]
        rcases uq_or (bt s 0) s.size ((bytesOf s).drop 1) [] with h3 | h3
        · rw [h3]
        · exfalso
          have h4 := uq_last (bt s 0) s.size ((bytesOf s).drop 1) [] (uq (bt s 0) s.size ((bytesOf s).drop 1) []).1 (Prod.ext rfl h3)
          rw [List.getLast?_drop, if_neg (by omega), List.getLast?_eq_getElem?, hlen] at h4
          apply hb
          rw [bt_getD, List.getD_eq_getElem?_getD, h4]
          rfl
    by_cases h34 : bt s 0 = 34
    · rw [if_pos h34, if_pos (Or.inl h34), if_pos g1, if_pos g2, hl (Or.inl h34)]
    · rw [if_neg h34]
      by_cases h39 : bt s 0 = 39
      · rw [if_pos h39, if_pos (Or.inr h39), if_pos g1, if_pos g2, hl (Or.inr h39)]
      · rw [if_neg h39, if_neg (by simp [h34, h39]), text_Unquote.j0, if_pos rfl]
end Go.Proofs.YtaklkcnohbbfoaaDoor.Pure
