/-
  TextTidy: the plain law.
-/
import Derived.Test.YtaklkcnohbbfoaaDoorPlainSpell
import Derived.Test.YtaklkcnohbbfoaaDoorLTidy
namespace Go.Proofs.YtaklkcnohbbfoaaDoor.Pure
open Go.RowKit Go.Lib Go.Proofs.YtaklkcnohbbfoaaDoor.PAll Go.Proofs.YtaklkcnohbbfoaaDoorW.PrintWords Go.Proofs.YtaklkcnohbbfoaaDoorW.PrintLast Go.Proofs.YtaklkcnohbbfoaaDoorW.PrintMore Go.Proofs.YtaklkcnohbbfoaaDoor.Hand
set_option linter.unusedVariables false
set_option linter.unusedSimpArgs false

theorem qt_plain {c : Int} (h0 : 0 ≤ c) (h1 : c ≤ 255) : ∀ x ∈ qt c, 32 ≤ x ∧ x ≤ 126 := by
  intro x hx
  unfold qt at hx
  split at hx
  · simp at hx; omega
  · split at hx
    · simp at hx; omega
    · split at hx
      · simp at hx; omega
      · split at hx
        · simp at hx; omega
        · split at hx
          · simp at hx; omega
          · split at hx
            · simp at hx; omega
            · simp at hx; omega
theorem quoted_plain {l : List Int} (hB : isBy l = true) : ∀ x ∈ 34 :: l.flatMap qt ++ [34], 32 ≤ x ∧ x ≤ 126 := by
  intro x hx
  simp only [List.cons_append, List.mem_cons, List.mem_append, List.mem_flatMap, List.not_mem_nil, or_false] at hx
  rcases hx with rfl | ⟨c, hc, hx⟩ | rfl
  · decide
  · obtain ⟨h0, h1⟩ := isBy_mem hB hc
    exact qt_plain h0 h1 x hx
  · decide
theorem tidy_ar {n i : Nat} (hn : n ≤ 1099511627776) (h : i < n) : (i : Int) < (n : Int) ∧ (0 : Int) ≤ (i : Int) ∧ wrap64 ((i : Int) + 1) = ((i + 1 : Nat) : Int) := ⟨by omega, by omega, by rw [w64 (by omega) (by omega)]; omega⟩
theorem tidy_loop (b c : List Int) (s t : ByteArray) (hp : ∀ x ∈ bytesOf s, 32 ≤ x ∧ x ≤ 126) (hs : s.size ≤ 1099511627776) (fin : Option Bool) (k : Nat)
    (hfin : ∀ k' i, ¬ (i : Int) < (s.size : Int) → k ≤ k' → signetrylaw02_TextTidy.l0 (k' + 1) b c s t i = fin) : ∀ (u : List Int) (i : Nat), (bytesOf s).drop i = u → signetrylaw02_TextTidy.l0 (u.length + 1 + k) b c s t (i : Int) = fin
  | [], i, hu => by
    rw [show ([] : List Int).length + 1 + k = k + 1 by simp; omega]
    exact hfin k i (by have := drop_nil hu; omega) (Nat.le_refl _)
  | x :: u, i, hu => by
    obtain ⟨h1, h2, h3⟩ := bt_cons hu
    obtain ⟨p0, p1⟩ := hp x (List.mem_of_mem_drop (show x ∈ (bytesOf s).drop i by rw [hu]; simp))
    obtain ⟨a1, a2, a3⟩ := tidy_ar hs h3
    rw [List.length_cons, show u.length + 1 + 1 + k = (u.length + 1 + k) + 1 by omega, signetrylaw02_TextTidy.l0, if_pos a1, if_pos a2, h1, if_neg (by omega), if_neg (by omega), a3]
    exact tidy_loop b c s t hp hs fin k hfin u (i + 1) h2
theorem tidy_at (b c : List Int) (hb : isBy b = true) (hc : isBy c = true) : signetrylaw02_TextTidy.f 4000 b c = some true := by
  unfold signetrylaw02_TextTidy.f
  have hm : mn (b.length : Int) 200 = ((min b.length 200 : Nat) : Int) := mn_nat b.length 200
  have hm2 : mn (c.length : Int) 200 = ((min c.length 200 : Nat) : Int) := mn_nat c.length 200
  rw [hm, hm2, if_pos (by omega), if_pos (by omega), if_pos (by omega), if_pos (by omega), Int.toNat_natCast, Int.toNat_natCast]
  obtain ⟨l, hl⟩ : ∃ l, b.take (min b.length 200) = l := ⟨_, rfl⟩
  obtain ⟨m, hm⟩ : ∃ m, c.take (min c.length 200) = m := ⟨_, rfl⟩
  have hn : l.length ≤ 200 := by rw [← hl, List.length_take]; omega
  have hn2 : m.length ≤ 200 := by rw [← hm, List.length_take]; omega
  have hB : isBy l = true := by rw [← hl]; exact isBy_take hb _
  have hM : isBy m = true := by rw [← hm]; exact isBy_take hc _
  rw [hl, hm]
  clear hl hm
  have hfl := flat_len l
  have hfm := flat_len m
  rw [quote_f hB (by omega), Option.bind_some, quote_f hM (by omega), Option.bind_some]
  obtain ⟨s, hs⟩ : ∃ s, strOfNums (34 :: l.flatMap qt ++ [34]) = s := ⟨_, rfl⟩
  obtain ⟨t, ht⟩ : ∃ t, strOfNums (34 :: m.flatMap qt ++ [34]) = t := ⟨_, rfl⟩
  have hbs : bytesOf s = 34 :: l.flatMap qt ++ [34] := by rw [← hs]; exact quoted_bytes hB
  have hbt : bytesOf t = 34 :: m.flatMap qt ++ [34] := by rw [← ht]; exact quoted_bytes hM
  have hzs : s.size = (l.flatMap qt).length + 2 := by rw [← bytesOf_length s, hbs]; simp
  have hzt : t.size = (m.flatMap qt).length + 2 := by rw [← bytesOf_length t, hbt]; simp
  have hrd : uqF (bytesOf s) = (l, 0) := by rw [← hs]; exact quoted_read hB
  have hpl : ∀ x ∈ bytesOf s, 32 ≤ x ∧ x ≤ 126 := by rw [hbs]; exact quoted_plain hB
  rw [hs, ht, tUnq (by omega) (by omega), hrd, Option.bind_some, if_pos rfl, eq_refl_f, Option.bind_some, if_pos rfl, quote_f hB (by omega), hs, Option.bind_some, if_pos rfl, if_neg (by omega), decide_eq_false (by omega), show (4000 : Nat) = 3999 + 1 from rfl, signetrylaw02_TextTidy.j0, if_neg Bool.false_ne_true]
  have hfin : ∀ k' i, ¬ (i : Int) < (s.size : Int) → 500 ≤ k' → signetrylaw02_TextTidy.l0 (k' + 1) l m s t i = some true := by
    intro k' i hi hk
    have hw : wrap64 ((s.size : Int) - 1) = ((s.size - 1 : Nat) : Int) := by rw [w64 (by omega) (by omega)]; omega
    have hq : (strOfNums (34 :: (l ++ m).flatMap qt ++ [34])).toList = (s.extract 0 (s.size - 1) ++ t.extract 1 t.size).toList := by
      refine toList_of ?_
      rw [quoted_bytes (isBy_append hB hM), bytesOf_append, ext_tail, bytesOf_extract, List.drop_zero, hbs, hbt]
      rw [show s.size - 1 = (34 :: l.flatMap qt).length by rw [hzs]; simp, List.take_left', List.flatMap_append]
      · simp
      · rfl
    have hz1 : (s.extract 0 (s.size - 1)).size ≤ s.size := by rw [ByteArray.size_extract]; omega
    have hz2 : (t.extract 1 t.size).size ≤ t.size := by rw [ByteArray.size_extract]; omega
    rw [signetrylaw02_TextTidy.l0, if_neg hi, copy_f (by omega), Option.bind_some, if_pos (by omega), quote_f (isBy_append hB hM) (by rw [List.length_append]; omega), Option.bind_some, hw, if_pos (by omega), if_pos (by omega), if_pos (by omega), Int.toNat_natCast, if_pos (by omega), if_pos hq, works_up (by omega)]
    rfl
  have := tidy_loop l m s t hpl (by omega) (some true) (3999 - (s.size + 1)) (fun k' i h1 h2 => hfin k' i h1 (by omega)) (bytesOf s) 0 (by simp)
  rw [bytesOf_length, show s.size + 1 + (3999 - (s.size + 1)) = 3999 by omega] at this
  exact this
theorem TextTidy : signetrylaw02_TextTidy.Pure := fun l0 l1 _ _ h _ _ g => ⟨4000, tidy_at l0 l1 (isBy_of h) (isBy_of g)⟩
end Go.Proofs.YtaklkcnohbbfoaaDoor.Pure
