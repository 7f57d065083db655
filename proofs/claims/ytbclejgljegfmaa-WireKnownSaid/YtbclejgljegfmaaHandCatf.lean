/-
  slices.Concat in plain words: all the bytes, one slice behind the other.
-/
import Derived.Test.YtbclejgljegfmaaAp
import Derived.Test.YtbclejgljegfmaaHandCat
namespace Go.Proofs.Ytbclejgljegfmaa.Hand
open Go.RowKit

theorem rdL_eq (l : List (List Int)) (i : Nat) (h : i < l.length) : Cat.rd_L1 l (i : Int) = l[i] := by
  simp [Cat.rd_L1, List.getD_eq_getElem?_getD, List.getElem?_eq_getElem h]
theorem flat_at (l : List (List Int)) (i : Nat) (h : i < l.length) : (l.drop i).flatten = l[i] ++ (l.drop (i + 1)).flatten := by
  rw [List.drop_eq_getElem_cons h, List.flatten_cons]
theorem cat_l1 (l : List (List Int)) (hn : l.length ≤ 1048576) (ht : l.flatten.length ≤ 1048576) : ∀ (d k i : Nat) (x : List Int), l.length - i = d → i ≤ l.length → x.length + (l.drop i).flatten.length ≤ 1048576 → d + 1 ≤ k → Cat.am.l1 k x l (l.length : Int) i = some (x ++ (l.drop i).flatten)
 | d, k, i, x, hd, hi, hx, hk => by
  obtain ⟨k, rfl⟩ : ∃ q, k = q + 1 := ⟨k - 1, by omega⟩
  simp only [Cat.am.l1]
  by_cases h : i < l.length
  case neg =>
   rw [if_neg (by omega), List.drop_of_length_le (by omega)]
   simp
  obtain ⟨d, rfl⟩ : ∃ q, d = q + 1 := ⟨d - 1, by omega⟩
  have hw : wrap64 ((i : Int) + 1) = ((i + 1 : Nat) : Int) := p236z
  rw [flat_at l i h, List.length_append] at hx
  rw [if_pos (by omega), if_pos (by omega), if_pos (by omega), rdL_eq l i h, if_pos (by omega), hw, cat_l1 l hn ht d k (i + 1) _ (by omega) (by omega) (by rw [List.length_append]; omega) (by omega), flat_at l i h, List.append_assoc]
theorem grow_f (s : Nat) (h : s ≤ 1048576) : dd.f [] (s : Int) = some [] := by
  unfold dd.f
  have h2 : (0 : Int) ≤ s ∧ (s : Int) ≤ 1048576 := by omega
  rw [if_pos ⟨rfl, h2⟩]
theorem arith1 (s m R F : Nat) (h : s + (m + R) = F) (ht : F ≤ 1048576) : s + m ≤ 1048576 ∧ s + m + R = F := by omega
theorem arith2 (s m : Nat) : ¬ (((s + m : Nat) : Int) < 0) := by omega
theorem wrap_sum (s m : Nat) (h : s + m ≤ 1048576) : wrap64 ((s : Int) + (m : Int)) = ((s + m : Nat) : Int) := p236z
theorem cat_l0 (l : List (List Int)) (hn : l.length ≤ 1048576) (ht : l.flatten.length ≤ 1048576) (d : Nat) : ∀ (k i s : Nat), l.length - i = d → i ≤ l.length → s + (l.drop i).flatten.length = l.flatten.length → d + l.length + 2 ≤ k → Cat.am.l0 k l (s : Int) l (l.length : Int) i = some l.flatten := by
  induction d with
  | zero =>
    intro k i s hd hi hs hk
    obtain ⟨k, rfl⟩ : ∃ q, k = q + 1 := ⟨k - 1, by omega⟩
    simp only [Cat.am.l0]
    rw [List.drop_of_length_le (by omega)] at hs
    simp only [List.flatten_nil, List.length_nil, Nat.add_zero] at hs
    rw [if_neg (by omega), grow_f s (by omega), Option.bind_some]
    have := cat_l1 l hn ht l.length k 0 [] rfl (Nat.zero_le _) (by rw [List.length_nil, Nat.zero_add, List.drop_zero]; exact ht) (by omega)
    rw [List.drop_zero, List.nil_append] at this
    exact this
  | succ d ih =>
    intro k i s hd hi hs hk
    obtain ⟨k, rfl⟩ : ∃ q, k = q + 1 := ⟨k - 1, by omega⟩
    have h : i < l.length := by omega
    have hA : l.length - (i + 1) = d := by omega
    have hK : d + l.length + 2 ≤ k := by omega
    have hw : wrap64 ((i : Int) + 1) = ((i + 1 : Nat) : Int) := wrap_sum i 1 (by omega)
    have hi2 : (i : Int) < (l.length : Int) := by omega
    have hi0 : (0 : Int) ≤ (i : Int) := by omega
    rw [flat_at l i h, List.length_append] at hs
    obtain ⟨hsm, hs3⟩ := arith1 _ _ _ _ hs ht
    have hneg := arith2 s l[i].length
    have hw2 := wrap_sum s l[i].length hsm
    have := ih k (i + 1) (s + l[i].length) hA h hs3 hK
    simp only [Cat.am.l0]
    rw [if_pos hi2, if_pos hi0, if_pos hi2, rdL_eq l i h, hw2, if_neg hneg, hw]
    exact this
theorem cat_f (l : List (List Int)) (hn : l.length ≤ 1048576) (ht : l.flatten.length ≤ 1048576) : Cat.am.f (l.length + l.length + 2) l = some l.flatten := by
  unfold Cat.am.f
  exact cat_l0 l hn ht l.length _ 0 0 (by omega) (by omega) (by simp) (Nat.le_refl _)
end Go.Proofs.Ytbclejgljegfmaa.Hand
