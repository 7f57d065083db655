/-
  A record's bytes alone tell the same record; all records of bytes, one behind the other, are the bytes. No walk.
-/
import Derived.Test.YtbclejgljegfmaaPlainWire
import Derived.Test.YtbclejgljegfmaaHandChk
import Derived.Test.YtbclejgljegfmaaHandLong
namespace Go.Proofs.Ytbclejgljegfmaa.Plain
open Go.RowKit Go.Proofs.Ytbclejgljegfmaa.PAll Go.Proofs.YtbclejgljegfmaaW.PrintWords Go.Proofs.Ytbclejgljegfmaa.Hand

theorem rdn_take {l : List Int} {n : Int} {m : Nat} (h : rdn l 0 0 = (n, m, 0)) (k : Nat) (hk : m ≤ k) : rdn (l.take k) 0 0 = (n, m, 0) := by
  obtain ⟨_, _, h3⟩ := rdn_pre l 0 0 n m h
  have := h3 ((l.drop m).take (k - m))
  rw [Nat.sub_zero] at this
  rw [show l.take k = l.take m ++ (l.drop m).take (k - m) from ?_]
  · exact this
  · rw [← List.take_append_drop m (l.take k), List.take_take, Nat.min_eq_left hk, List.drop_take]
theorem rdn_eta {l : List Int} (h : (rdn l 0 0).2.2 = 0) : rdn l 0 0 = ((rdn l 0 0).1, (rdn l 0 0).2.1, 0) := by
  generalize rdn l 0 0 = t at *
  obtain ⟨n, c, e⟩ := t
  simp only at h
  rw [h]
theorem body_one (r : List Int) : body 1 r = (if 8 ≤ r.length then (gr (r.take 8), [], 8, 0) else (0, [], 0, 3)) := rfl
theorem body_five (r : List Int) : body 5 r = (if 4 ≤ r.length then (gr (r.take 4), [], 4, 0) else (0, [], 0, 3)) := rfl
theorem body_nil (r : List Int) : body 0 r = ((rdn r 0 0).1, [], (rdn r 0 0).2.1, (rdn r 0 0).2.2) := rfl
theorem body_take {w : Int} {r : List Int} (h : (body w r).2.2.2 = 0) : body w (r.take (body w r).2.2.1) = body w r := by
  have hc := body_cnt h
  obtain ⟨c, hcd⟩ : ∃ c, c = (body w r).2.2.1 := ⟨_, rfl⟩
  rw [← hcd] at hc ⊢
  have hlen : (r.take c).length = c := by rw [List.length_take]; omega
  by_cases h0 : w = 0
  · subst h0
    rw [body_nil] at h hcd ⊢
    simp only at h hcd
    rw [body_nil, rdn_take (rdn_eta h) c (by omega), ← rdn_eta h]
  · by_cases h1 : w = 1
    · subst h1
      rw [body_one] at h hcd ⊢
      rw [body_one]
      by_cases h8 : 8 ≤ r.length
      · rw [if_pos h8] at hcd ⊢
        simp only at hcd
        rw [if_pos (by omega), hcd, List.take_take]
        rfl
      · rw [if_neg h8] at h
        simp at h
    · by_cases h2 : w = 2
      · subst h2
        by_cases h3 : (rdn r 0 0).2.2 = 0
        · by_cases h4 : (rdn r 0 0).1 > 1048576
          · rw [body_two, if_neg (by omega), if_pos h4] at h
            simp at h
          · by_cases h5 : (rdn r 0 0).1 > (r.length : Int) - ((rdn r 0 0).2.1 : Int)
            · rw [body_two, if_neg (by omega), if_neg h4, if_pos h5] at h
              simp at h
            · have e1 : body 2 r = (0, (r.drop (rdn r 0 0).2.1).take (rdn r 0 0).1.toNat, (rdn r 0 0).2.1 + (rdn r 0 0).1.toNat, 0) := by rw [body_two, if_neg (by omega), if_neg h4, if_neg h5]
              rw [e1] at hcd ⊢
              simp only at hcd
              have hr := rdn_take (rdn_eta h3) c (by omega)
              rw [body_two, hr]
              simp only
              rw [if_neg (by simp), if_neg h4, if_neg (by rw [hlen]; omega), List.drop_take, List.take_take, Nat.min_eq_left (by omega)]
        · rw [body_two, if_pos h3] at h
          exact absurd h h3
      · by_cases h5 : w = 5
        · subst h5
          rw [body_five] at h hcd ⊢
          rw [body_five]
          by_cases h8 : 4 ≤ r.length
          · rw [if_pos h8] at hcd ⊢
            simp only at hcd
            rw [if_pos (by omega), hcd, List.take_take]
            rfl
          · rw [if_neg h8] at h
            simp at h
        · unfold body at h
          rw [if_neg h0, if_neg h1, if_neg h2, if_neg h5] at h
          simp at h
/-- What is told, where there is a record. -/
theorem nxt_take {l : List Int} (h : (nxt l).2.2.2.2.2.2 = 0) : nxt (l.take (nxt l).2.2.2.2.2.1.toNat) = nxt l := by
  have hn := h
  unfold nxt at h
  by_cases h0 : (rdn l 0 0).2.2 = 0
  · rw [if_neg (by omega)] at h
    by_cases h1 : (rdn l 0 0).1 < 8 ∨ (rdn l 0 0).1 > 4294967295
    · rw [if_pos h1] at h
      simp [noR] at h
    · rw [if_neg h1] at h
      by_cases h2 : (body ((rdn l 0 0).1 % 8) (l.drop (rdn l 0 0).2.1)).2.2.2 = 0
      · have e : nxt l = ((rdn l 0 0).1 / 8, (rdn l 0 0).1 % 8, (body ((rdn l 0 0).1 % 8) (l.drop (rdn l 0 0).2.1)).1, (body ((rdn l 0 0).1 % 8) (l.drop (rdn l 0 0).2.1)).2.1,
            l.take ((rdn l 0 0).2.1 + (body ((rdn l 0 0).1 % 8) (l.drop (rdn l 0 0).2.1)).2.2.1), (((rdn l 0 0).2.1 + (body ((rdn l 0 0).1 % 8) (l.drop (rdn l 0 0).2.1)).2.2.1 : Nat) : Int), 0) := by
          unfold nxt
          rw [if_neg (by omega), if_neg h1, if_neg (by omega)]
        rw [e]
        have hb := body_take h2
        have hr : ∀ k, (rdn l 0 0).2.1 ≤ k → rdn (l.take k) 0 0 = rdn l 0 0 := fun k hk => by rw [rdn_take (rdn_eta h0) k hk, ← rdn_eta h0]
        have hc := body_cnt h2
        rw [List.length_drop] at hc
        have hcn := cnt_le h0
        generalize rdn l 0 0 = t at *
        obtain ⟨n, c, er⟩ := t
        simp only at h0 h1 h2 hb hr hc hcn ⊢
        subst h0
        generalize hbd : body (n % 8) (l.drop c) = b at *
        obtain ⟨bN, bB, bc, be⟩ := b
        simp only at h2 hb hc ⊢
        subst h2
        rw [Int.toNat_natCast]
        unfold nxt
        have hr2 := hr (c + bc) (by omega)
        rw [hr2]
        simp only
        rw [if_neg (by simp), if_neg h1]
        have hd : (l.take (c + bc)).drop c = (l.drop c).take bc := by rw [List.drop_take, Nat.add_sub_cancel_left]
        rw [hd, hb]
        simp only
        rw [if_neg (by simp), List.take_take, Nat.min_self]
      · rw [if_pos h2] at h
        exact absurd h h2
  · rw [if_pos h0] at h
    simp [noR] at h
    exact absurd h h0
/-- A record that Next told. -/
def GoodRec (r : S33) : Prop := ∃ l, isB l = true ∧ l.length ≤ 1099511627776 ∧ (nxt l).2.2.2.2.2.2 = 0 ∧ r = recOf (nxt l)
theorem spl_ok : ∀ (m : Nat) (l : List Int) (acc : List S33), isB l = true → l.length ≤ 1099511627776 → l.length < m → (spl m l acc).2 = 0 → ∃ recs, (spl m l acc).1 = acc ++ recs ∧ recs.flatMap S33.f4 = l ∧ recs.length ≤ l.length ∧ ∀ r ∈ recs, GoodRec r
  | 0, l, _, _, _, h, _ => absurd h (by omega)
  | m + 1, l, acc, hB, hl, hm, h => by
    simp only [spl] at h ⊢
    by_cases h0 : l.length = 0
    · rw [if_pos h0]
      obtain rfl := List.eq_nil_of_length_eq_zero h0
      exact ⟨[], by simp, rfl, by simp, by simp⟩
    · rw [if_neg h0] at h ⊢
      by_cases he : (nxt l).2.2.2.2.2.2 = 0
      · rw [if_neg (fun h => h he)] at h ⊢
        obtain ⟨n, hn, n0, n1, n2⟩ := nxt_ok he
        rw [hn, Int.toNat_natCast] at h ⊢
        obtain ⟨recs, e1, e2, e3, e4⟩ := spl_ok m (l.drop n) (acc ++ [recOf (nxt l)]) (isB_drop _ hB) (by rw [List.length_drop]; omega) (by rw [List.length_drop]; omega) h
        refine ⟨recOf (nxt l) :: recs, by rw [e1, List.append_assoc]; rfl, ?_, ?_, ?_⟩
        · rw [List.flatMap_cons, e2]
          show (nxt l).2.2.2.2.1 ++ l.drop n = l
          rw [n2, List.take_append_drop]
        · rw [List.length_drop] at e3
          rw [List.length_cons]
          omega
        · intro r hr
          rcases List.mem_cons.1 hr with rfl | hr
          · exact ⟨l, hB, hl, he, rfl⟩
          · exact e4 r hr
      · rw [if_pos he] at h
        exact absurd h he
theorem spl_bad : ∀ (m : Nat) (l : List Int) (acc : List S33), (spl m l acc).2 ≠ 0 → (spl m l acc).1 = []
  | 0, l, _, h => absurd rfl h
  | m + 1, l, acc, h => by
    simp only [spl] at h ⊢
    split
    · rename_i h0
      rw [if_pos h0] at h
      exact absurd rfl h
    · rename_i h0
      rw [if_neg h0] at h
      split
      · rfl
      · rename_i h1
        rw [if_neg h1] at h
        exact spl_bad m _ _ h
theorem body_kind {w : Int} {r : List Int} (h : (body w r).2.2.2 = 0) : (w = 2 → (body w r).1 = 0) ∧ (w ≠ 2 → (body w r).2.1 = []) := by
  constructor
  · rintro rfl
    rw [body_two]
    split
    · rfl
    · split
      · rfl
      · split <;> rfl
  · intro h2
    unfold body
    split
    · rfl
    · split
      · split <;> rfl
      · split
        · split <;> rfl
        · rfl
theorem body_isB {w : Int} {r : List Int} (hB : isB r = true) : isB (body w r).2.1 = true ∧ (body w r).2.1.length ≤ r.length := by
  unfold body
  repeat' split
  all_goals (first | exact ⟨rfl, Nat.zero_le _⟩ | exact ⟨isB_take _ (isB_drop _ hB), by simp only [List.length_take, List.length_drop]; omega⟩)
theorem good_parts {r : S33} (h : GoodRec r) : isRec r = true ∧ nxt r.f4 = (r.f0, r.f1, r.f2, r.f3, r.f4, (r.f4.length : Int), 0) ∧ (r.f1 = 2 → r.f2 = 0) ∧ (r.f1 ≠ 2 → r.f3 = []) := by
  obtain ⟨l, hB, hl, he, rfl⟩ := h
  obtain ⟨n, hn, n0, n1, n2⟩ := nxt_ok he
  have ht := nxt_take he
  rw [hn, Int.toNat_natCast] at ht
  have hf4 : (recOf (nxt l)).f4 = l.take n := n2
  have hlen : (l.take n).length = n := by rw [List.length_take]; omega
  have hk : ((nxt l).2.1 = 2 → (nxt l).2.2.1 = 0) ∧ ((nxt l).2.1 ≠ 2 → (nxt l).2.2.2.1 = []) ∧ isB (nxt l).2.2.2.1 = true ∧ (nxt l).2.2.2.1.length ≤ l.length := by
    unfold nxt at he ⊢
    split at he
    · rename_i h0
      exact absurd he h0
    · rename_i h0
      split at he
      · simp [noR] at he
      · rename_i h1
        split at he
        · rename_i h2
          exact absurd he h2
        · rename_i h2
          rw [if_neg h0, if_neg h1, if_neg h2]
          obtain ⟨k1, k2⟩ := body_kind (show (body ((rdn l 0 0).1 % 8) (l.drop (rdn l 0 0).2.1)).2.2.2 = 0 by omega)
          obtain ⟨k3, k4⟩ := body_isB (w := (rdn l 0 0).1 % 8) (isB_drop (rdn l 0 0).2.1 hB)
          rw [List.length_drop] at k4
          exact ⟨k1, k2, k3, by simp only; omega⟩
  obtain ⟨k1, k2, k3, k4⟩ := hk
  refine ⟨?_, ?_, k1, k2⟩
  · simp only [isRec, Bool.and_eq_true, decide_eq_true_eq]
    rw [hf4]
    exact ⟨⟨⟨k3, isB_take _ hB⟩, by show (nxt l).2.2.2.1.length ≤ _; omega⟩, by omega⟩
  · rw [hf4, ht, hlen]
    rw [← n2, ← hn]
    show nxt l = ((nxt l).1, (nxt l).2.1, (nxt l).2.2.1, (nxt l).2.2.2.1, (nxt l).2.2.2.2.1, (nxt l).2.2.2.2.2.1, 0)
    rw [← he]
theorem good_chk {r : S33} (h : GoodRec r) : chk r = 0 := by
  unfold chk
  rw [if_pos (good_parts h).2.1]
end Go.Proofs.Ytbclejgljegfmaa.Plain
