/-
  TextQuotes: the plain law.
-/
import Derived.Test.YtaklkcnohbbfoaaDoorPlainQuote
import Derived.Test.YtaklkcnohbbfoaaDoorLQuotes
namespace Go.Proofs.YtaklkcnohbbfoaaDoor.Pure
open Go.RowKit Go.Lib Go.Proofs.YtaklkcnohbbfoaaDoor.PAll Go.Proofs.YtaklkcnohbbfoaaDoorW.PrintWords Go.Proofs.YtaklkcnohbbfoaaDoorW.PrintLast Go.Proofs.YtaklkcnohbbfoaaDoorW.PrintMore Go.Proofs.YtaklkcnohbbfoaaDoor.Hand
set_option linter.unusedVariables false
set_option linter.unusedSimpArgs false

theorem q_oct {c : Int} (h0 : 0 ≤ c) (h1 : c ≤ 255) : ([92, (48 + ((Int.tdiv c 64) % 256)) % 256, 48 + (((Int.tdiv c 8) % 256) % 8), (48 + (Int.tmod c 8)) % 256] : List Int) = [92, 48 + c / 64, 48 + c / 8 % 8, 48 + c % 8] := by
  rw [Int.tdiv_eq_ediv_of_nonneg h0, Int.tdiv_eq_ediv_of_nonneg h0, Int.tmod_eq_emod_of_nonneg h0]
  simp only [List.cons.injEq, and_true, true_and]
  omega
theorem q_ar {n i tl a k : Nat} (hn : n ≤ 1099511627776) (h : i < n) (ht : tl + 1 = n - i) (ha : a ≤ 4 * i + 1) : 2 * (tl + 1) + 1 + k = (2 * tl + 1 + k) + 1 + 1 ∧ (i : Int) < (n : Int) ∧ (0 : Int) ≤ (i : Int) ∧ wrap64 ((i : Int) + 1) = ((i + 1 : Nat) : Int) ∧ a < 140737488355328 ∧ a + 2 < 140737488355328 ∧ a + 4 < 140737488355328 :=
  ⟨by omega, by omega, by omega, by rw [w64 (by omega) (by omega)]; omega, by omega, by omega, by omega⟩
theorem q_len {x y : List Int} {i : Nat} (ha : x.length ≤ 4 * i + 1) (hy : y.length ≤ 4) : (x ++ y).length ≤ 4 * (i + 1) + 1 := by
  rw [List.length_append]
  omega
theorem q_end {n i : Nat} {l : List Int} (hn : n = l.length) (h : l.drop i = []) : ¬ (i : Int) < (n : Int) := by
  have := List.drop_eq_nil_iff.1 h
  omega
theorem q_tail {l : List Int} {i : Nat} {c : Int} {u : List Int} (h : l.drop i = c :: u) : u.length + 1 = l.length - i := by
  have := congrArg List.length h
  rw [List.length_drop, List.length_cons] at this
  exact this.symm
theorem rQuote_loop (l : List Int) (hB : isBy l = true) (hl : l.length ≤ 1099511627776) (k : Nat) : ∀ (u : List Int) (i : Nat) (acc : List Int), l.drop i = u → acc.length ≤ 4 * i + 1 → acc.length < 140737488355328 →
    signetryref02_Quote.l0 (2 * u.length + 1 + k) l acc (i : Int) = some (strOfNums (acc ++ u.flatMap qt ++ [34]))
  | [], i, acc, hu, ha, hb => by
    rw [show 2 * ([] : List Int).length + 1 + k = k + 1 by simp; omega, signetryref02_Quote.l0, if_neg (q_end rfl hu), if_pos hb]
    simp
  | c :: u, i, acc, hu, ha, hb => by
    obtain ⟨h1, h2, h3⟩ := rd_drop hu
    obtain ⟨b0, b1⟩ := isBy_mem (isBy_drop hB i) (show c ∈ l.drop i by rw [hu]; simp)
    obtain ⟨a1, a2, a3, a4, a5, a6, a7⟩ := q_ar (k := k) hl h3 (q_tail hu) ha
    have go : ∀ (j : Nat) (x : List Int), qt c = x → x.length ≤ 4 → signetryref02_Quote.l0 (2 * u.length + 1 + (k + j)) l (acc ++ x) ((i + 1 : Nat) : Int) = some (strOfNums (acc ++ (c :: u).flatMap qt ++ [34])) := by
      intro j x hx h4
      have hlen := q_len ha h4
      rw [rQuote_loop l hB hl (k + j) u (i + 1) (acc ++ x) h2 hlen (by rw [List.length_append]; omega), List.flatMap_cons, hx, List.append_assoc acc]
    rw [List.length_cons, a1, signetryref02_Quote.l0, if_pos a2, if_pos a3, h1, a4]
    by_cases e10 : c = 10
    · rw [if_pos e10, Option.bind_some]
      exact (if_pos a6).trans (go 1 _ (by rw [e10]; rfl) (by simp))
    · by_cases e13 : c = 13
      · rw [if_neg e10, if_pos e13, Option.bind_some]
        exact (if_pos a6).trans (go 1 _ (by rw [e13]; rfl) (by simp))
      · by_cases e9 : c = 9
        · rw [if_neg e10, if_neg e13, if_pos e9, Option.bind_some]
          exact (if_pos a6).trans (go 1 _ (by rw [e9]; rfl) (by simp))
        · rw [if_neg e10, if_neg e13, if_neg e9]
          have hj : (if c = 34 then signetryref02_Quote.j1 (2 * u.length + 1 + k + 1) l acc (i : Int) c true else signetryref02_Quote.j1 (2 * u.length + 1 + k + 1) l acc (i : Int) c (c == 92)) = signetryref02_Quote.j1 (2 * u.length + 1 + k + 1) l acc (i : Int) c (decide (c = 34 ∨ c = 92)) := by
            by_cases h : c = 34
            · rw [if_pos h, decide_eq_true (Or.inl h)]
            · rw [if_neg h]
              congr 1
              rw [Bool.eq_iff_iff]
              simp [h]
          rw [hj, signetryref02_Quote.j1, a4]
          by_cases eq : c = 34 ∨ c = 92
          · rw [decide_eq_true eq, if_pos rfl, Option.bind_some]
            exact (if_pos a6).trans (go 0 _ (by unfold qt; rcases eq with rfl | rfl <;> rfl) (by simp))
          · have n34 : c ≠ 34 := fun e => eq (Or.inl e)
            have n92 : c ≠ 92 := fun e => eq (Or.inr e)
            rw [decide_eq_false eq, if_neg Bool.false_ne_true, q_oct b0 b1]
            by_cases e32 : c < 32
            · rw [if_pos e32, Option.bind_some]
              exact (if_pos a7).trans (go 0 _ (by unfold qt; rw [if_neg e10, if_neg e13, if_neg e9, if_neg n34, if_neg n92, if_pos (Or.inl e32)]) (by simp))
            · by_cases e126 : c > 126
              · rw [if_neg e32, if_pos e126, Option.bind_some]
                exact (if_pos a7).trans (go 0 _ (by unfold qt; rw [if_neg e10, if_neg e13, if_neg e9, if_neg n34, if_neg n92, if_pos (Or.inr e126)]) (by simp))
              · rw [if_neg e32, if_neg e126, if_pos a5]
                exact go 0 _ (by unfold qt; rw [if_neg e10, if_neg e13, if_neg e9, if_neg n34, if_neg n92, if_neg (fun e => e.elim e32 e126)]) (by simp)
theorem rQuote {l : List Int} {k : Nat} (hB : isBy l = true) (hl : l.length ≤ 1099511627776) (hk : 2 * l.length + 1 ≤ k) : signetryref02_Quote.f k l = some (strOfNums (34 :: l.flatMap qt ++ [34])) := by
  unfold signetryref02_Quote.f
  have := rQuote_loop l hB hl (k - (2 * l.length + 1)) l 0 [34] (by simp) (by simp) (by simp)
  rw [show 2 * l.length + 1 + (k - (2 * l.length + 1)) = k by omega] at this
  rw [show ((0 : Nat) : Int) = 0 from rfl] at this
  rw [this]
  simp
theorem quotes_at (l0 : List Int) (a1 : ByteArray) (hb : isBy l0 = true) : signetrylaw02_TextQuotes.f 1100 l0 a1 = some true := by
  unfold signetrylaw02_TextQuotes.f
  have hm : mn (l0.length : Int) 300 = ((min l0.length 300 : Nat) : Int) := mn_nat l0.length 300
  have hm2 : mn (a1.size : Int) 300 = ((min a1.size 300 : Nat) : Int) := mn_nat a1.size 300
  rw [hm, hm2, if_pos (by omega), if_pos (by omega), if_pos (by omega), if_pos (by omega), Int.toNat_natCast, Int.toNat_natCast]
  obtain ⟨t, ht⟩ : ∃ t, a1.extract 0 (min a1.size 300) = t := ⟨_, rfl⟩
  have hz : t.size ≤ 300 := by rw [← ht, ByteArray.size_extract]; omega
  obtain ⟨l, hl⟩ : ∃ l, l0.take (min l0.length 300) = l := ⟨_, rfl⟩
  have hn : l.length ≤ 300 := by rw [← hl, List.length_take]; omega
  have hB : isBy l = true := by rw [← hl]; exact isBy_take hb _
  rw [ht, hl]
  clear ht hl
  rw [copy_f (by omega), Option.bind_some, tUnq (by omega) (by omega), Option.bind_some, rUnq (by omega) (by omega), Option.bind_some, show text_Quote.f l = some (strOfNums (34 :: l.flatMap qt ++ [34])) by unfold text_Quote.f; rw [if_pos ⟨by omega, hB⟩], Option.bind_some, rQuote hB (by omega) (by omega), Option.bind_some, if_pos rfl, eq_refl_f, Option.bind_some, if_pos rfl, eq_refl_f, Option.bind_some, if_pos rfl, if_pos rfl, works_up (by omega)]
  rfl
theorem TextQuotes : signetrylaw02_TextQuotes.Pure := fun l0 a1 _ _ h _ => ⟨1100, quotes_at l0 a1 (isBy_of h)⟩
end Go.Proofs.YtaklkcnohbbfoaaDoor.Pure
