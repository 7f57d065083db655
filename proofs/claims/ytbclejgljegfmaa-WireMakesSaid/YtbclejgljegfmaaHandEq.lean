/-
  wire.Check in plain words; a row of slices that is filled, one a round. No walk.
-/
import Derived.Test.YtbclejgljegfmaaGB
namespace Go.Proofs.Ytbclejgljegfmaa.Hand
open Go.RowKit Go.Proofs.YtbclejgljegfmaaW.PrintWords Go.Proofs.Ytbclejgljegfmaa.PAll

def isRec (r : S33) : Bool := isB r.f3 && isB r.f4 && decide (r.f3.length ≤ 1099511627776) && decide (r.f4.length ≤ 1099511627776)
def chk (r : S33) : Int := if nxt r.f4 = (r.f0, r.f1, r.f2, r.f3, r.f4, (r.f4.length : Int), 0) then 0 else 2
theorem isRec_parts {r : S33} (h : isRec r = true) : isB r.f3 = true ∧ isB r.f4 = true ∧ r.f3.length ≤ 1099511627776 ∧ r.f4.length ≤ 1099511627776 := by
  simp only [isRec, Bool.and_eq_true, decide_eq_true_eq] at h
  exact ⟨h.1.1.1, h.1.1.2, h.1.2, h.2⟩

theorem rd_eq (l : List Int) (i : Nat) (h : i < l.length) : rd l (i : Int) = l[i] := by
  simp [rd, List.getD_eq_getElem?_getD, List.getElem?_eq_getElem h]
theorem equal_l0 (a b : List Int) (hab : a.length = b.length) (ha : a.length ≤ 1099511627776) : ∀ (d k i : Nat), a.length - i = d → i ≤ a.length → d + 1 ≤ k → slices_Equal_byte_byte.l0 k a b (a.length : Int) i = some (decide (a.drop i = b.drop i))
  | d, k, i, hd, hi, hk => by
    obtain ⟨k, rfl⟩ : ∃ q, k = q + 1 := ⟨k - 1, by omega⟩
    simp only [slices_Equal_byte_byte.l0]
    by_cases h : i < a.length
    · have hb : i < b.length := by omega
      obtain ⟨d, rfl⟩ : ∃ q, d = q + 1 := ⟨d - 1, by omega⟩
      rw [if_pos (by omega), if_pos (by omega), if_pos (by omega), if_pos (by omega), rd_eq a i h, rd_eq b i hb, List.drop_eq_getElem_cons h, List.drop_eq_getElem_cons hb]
      by_cases he : a[i] = b[i]
      · have hw : wrap64 ((i : Int) + 1) = ((i + 1 : Nat) : Int) := by unfold wrap64; omega
        rw [if_pos he, hw, equal_l0 a b hab ha d k (i + 1) (by omega) (by omega) (by omega)]
        simp only [List.cons.injEq, he, true_and]
      · rw [if_neg he]
        simp only [List.cons.injEq, he, false_and, decide_false]
    · rw [if_neg (by omega), List.drop_of_length_le (by omega), List.drop_of_length_le (by omega)]
      simp
theorem equal_f (a b : List Int) (ha : a.length ≤ 1099511627776) (k : Nat) (hk : a.length + 1 ≤ k) : slices_Equal_byte_byte.f k a b = some (decide (a = b)) := by
  unfold slices_Equal_byte_byte.f
  by_cases h : a.length = b.length
  · rw [if_pos (by omega)]
    have := equal_l0 a b h ha a.length k 0 (by omega) (by omega) hk
    simpa using this
  · rw [if_neg (by omega), decide_eq_false (fun e => h (by rw [e]))]
theorem wsame_f (a0 a1 a2 : Int) (a3 a4 : List Int) (b0 b1 b2 : Int) (b3 b4 : List Int) (hb : b3.length ≤ 1099511627776) (hb' : b4.length ≤ 1099511627776) (k : Nat) (hk : b3.length + b4.length + 1 ≤ k) : wire_Same.f k a0 a1 a2 a3 a4 b0 b1 b2 b3 b4 = some (decide ((a0, a1, a2, a3, a4) = (b0, b1, b2, b3, b4))) := by
  unfold wire_Same.f
  have e : ∀ a b : List Int, b.length ≤ 1099511627776 → b.length + 1 ≤ k → slices_Equal_byte_byte.f k a b = some (decide (a = b)) := by
    intro a b hb hk
    by_cases h : a.length = b.length
    · exact equal_f a b (by omega) k (by omega)
    · unfold slices_Equal_byte_byte.f
      rw [if_neg (by omega), decide_eq_false (fun e => h (by rw [e]))]
  rw [e a3 b3 hb (by omega), e a4 b4 hb' (by omega)]
  by_cases h0 : a0 = b0 <;> by_cases h1 : a1 = b1 <;> by_cases h2 : a2 = b2 <;> by_cases h3 : a3 = b3 <;> simp [h0, h1, h2, h3]
theorem check_f {r : S33} (h : isRec r = true) (k : Nat) (hk : r.f3.length + r.f4.length + 1 ≤ k) : wire_Check.f k r.f0 r.f1 r.f2 r.f3 r.f4 = some (chk r) := by
  obtain ⟨_, h4, h5, h6⟩ := isRec_parts h
  unfold wire_Check.f chk
  rw [wire_Next.f, if_pos ⟨h4, h6⟩, Option.bind_some]
  obtain ⟨t, ht⟩ : ∃ t, t = nxt r.f4 := ⟨_, rfl⟩
  rw [← ht]
  obtain ⟨t0, t1, t2, t3, t4, t5, t6⟩ := t
  simp only
  rw [wsame_f _ _ _ _ _ _ _ _ _ _ h5 h6 k hk]
  by_cases he : t6 = 0
  · by_cases hn : t5 = (r.f4.length : Int)
    · rw [if_pos he, if_pos hn]
      by_cases hs : (t0, t1, t2, t3, t4) = (r.f0, r.f1, r.f2, r.f3, r.f4)
      · rw [decide_eq_true hs]
        simp only [Prod.mk.injEq] at hs
        simp [hs, hn, he]
      · rw [decide_eq_false hs, if_neg]
        · simp
        · rintro ⟨⟩
          exact hs rfl
    · rw [if_pos he, if_neg hn, if_neg]
      rintro ⟨⟩
      exact hn rfl
  · rw [if_neg he, if_neg]
    rintro ⟨⟩
    exact he rfl
end Go.Proofs.Ytbclejgljegfmaa.Hand
