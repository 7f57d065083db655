/-
  What the document's Check and Bytes answer, in plain words: what the program's do. No walk.
-/
import Derived.Test.YtbclejgljegfmaaGN
import Derived.Test.YtbclejgljegfmaaPlainNext
import Derived.Test.YtbclejgljegfmaaHandBytes
namespace Go.Proofs.Ytbclejgljegfmaa.Plain
open Go.RowKit Go.Proofs.Ytbclejgljegfmaa.PAll Go.Proofs.YtbclejgljegfmaaW.PrintWords Go.Proofs.YtbclejgljegfmaaW.PrintLast Go.Proofs.YtbclejgljegfmaaW.PrintMore Go.Proofs.Ytbclejgljegfmaa.Hand

theorem f5 {l : List Int} (h : ∀ x ∈ l, 0 ≤ x ∧ x < 256) : bytesOf (strOfNums l) = l := by
 simp only [strOfNums, bytesOf, List.map_map]
 rw [List.map_congr_left (g := id) fun x hx => ?_]
 ·exact List.map_id _
 ·have := h x hx
  simp only [Function.comp_apply, id_eq, UInt8.toNat_ofNat']
  omega
theorem isB_num {l : List Int} (h : isB l = true) : bytesOf (strOfNums l) = l := f5 fun x hx => by
  unfold isB at h
  rw [List.all_eq_true] at h
  have := h x hx
  simp only [Bool.and_eq_true, decide_eq_true_eq] at this
  omega
theorem toList_inj {s t : ByteArray} (h : s.toList = t.toList) : s = t := by
  rw [ByteArray.toList_eq, ByteArray.toList_eq] at h
  cases s
  cases t
  congr 1
  exact Array.toList_inj.1 h
theorem eqB_f {a b : List Int} (ha : isB a = true) (hb : isB b = true) : ab.f a b = some (decide (a = b)) := by
 unfold ab.f
 congr 1
 by_cases h : a = b
 case pos =>
  subst h
  simp
 rw [decide_eq_false h, beq_eq_false_iff_ne]
 intro he
 apply h
 rw [← isB_num ha, ← isB_num hb, toList_inj he]
theorem nxt_isB {l : List Int} (hB : isB l = true) : isB (nxt l).2.2.2.1 = true ∧ isB (nxt l).2.2.2.2.1 = true := by
 unfold nxt
 split
 ·exact ⟨rfl, rfl⟩
 ·split
  ·exact ⟨rfl, rfl⟩
  ·split
   ·exact ⟨rfl, rfl⟩
   ·refine ⟨?_, isB_take _ hB⟩
    show isB (body _ _).2.1 = true
    unfold body
    repeat' split
    all_goals (first | rfl | exact isB_take _ (isB_drop _ (isB_drop _ hB)))
theorem rsame_f (a0 a1 a2 : Int) (a3 a4 : List Int) (b0 b1 b2 : Int) (b3 b4 : List Int) (h3 : isB a3 = true) (h4 : isB a4 = true) (k3 : isB b3 = true) (k4 : isB b4 = true) : ai.f a0 a1 a2 a3 a4 b0 b1 b2 b3 b4 = some (decide ((a0, a1, a2, a3, a4) = (b0, b1, b2, b3, b4))) := by
 unfold ai.f
 rw [eqB_f h3 k3, eqB_f h4 k4]
 by_cases h0 : a0 = b0 <;> by_cases h1 : a1 = b1 <;> by_cases h2 : a2 = b2 <;> by_cases h3 : a3 = b3 <;> simp [h0, h1, h2, h3]
theorem rcheck_f {r : S33} (h : isRec r = true) (k : Nat) (hk : 2 * r.f4.length + 20 ≤ k) : ar.f k r.f0 r.f1 r.f2 r.f3 r.f4 = some (chk r) := by
 obtain ⟨h3, h4, h5, h6⟩ := fr h
 unfold ar.f chk
 rw [next_f h4 h6 k hk, Option.bind_some]
 obtain ⟨i3, i4⟩ := nxt_isB h4
 obtain ⟨t, ht⟩ : ∃ t, t = nxt r.f4 := ⟨_, rfl⟩
 rw [← ht] at i3 i4 ⊢
 obtain ⟨t0, t1, t2, t3, t4, t5, t6⟩ := t
 simp only at i3 i4 ⊢
 rw [rsame_f _ _ _ _ _ _ _ _ _ _ i3 i4 h3 h4]
 by_cases he : t6 = 0
 case neg =>
  rw [if_neg he, if_neg]
  rintro ⟨⟩
  exact he rfl
 by_cases hn : t5 = (r.f4.length : Int)
 case neg =>
  rw [if_pos he, if_neg hn, if_neg]
  rintro ⟨⟩
  exact hn rfl
 rw [if_pos he, if_pos hn]
 by_cases hs : (t0, t1, t2, t3, t4) = (r.f0, r.f1, r.f2, r.f3, r.f4)
 case neg =>
  rw [decide_eq_false hs, if_neg]
  ·simp
  ·rintro ⟨⟩
   exact hs rfl
 rw [decide_eq_true hs]
 simp only [Prod.mk.injEq] at hs
 simp [hs, hn, he]
theorem flat_drop (l : List S33) (i : Nat) (h : i < l.length) : (l.drop i).flatMap S33.f4 = (rd_T33 l (i : Int)).f4 ++ (l.drop (i + 1)).flatMap S33.f4 := by
  have := rdT_eq l i h
  rw [List.getElem?_eq_getElem h] at this
  rw [← Option.some.inj this, List.drop_eq_getElem_cons h, List.flatMap_cons]
theorem le_of_sum {a b c F : Nat} (h : a + (b + c) = F) (hF : F ≤ 1048576) : a + b ≤ 1048576 ∧ a + b + c = F := by omega
theorem rbytes_l1 (l : List S33) (hn : l.length ≤ 1048576) (F : Nat) (hF : F ≤ 1048576) (d : Nat) : ∀ (k i : Nat) (x : List Int), l.length - i = d → i ≤ l.length → x.length + ((l.drop i).flatMap S33.f4).length = F → d + 1 ≤ k → ao.l1 k l x i = some (x ++ (l.drop i).flatMap S33.f4, 0) := by
  induction d with
  | zero =>
    intro k i x hd hi hx hk
    obtain ⟨k, rfl⟩ : ∃ q, k = q + 1 := ⟨k - 1, by omega⟩
    simp only [ao.l1]
    rw [if_neg (by omega), List.drop_of_length_le (by omega)]
    simp
  | succ d ih =>
    intro k i x hd hi hx hk
    obtain ⟨k, rfl⟩ : ∃ q, k = q + 1 := ⟨k - 1, by omega⟩
    have h : i < l.length := by omega
    have hA : l.length - (i + 1) = d := by omega
    have hK : d + 1 ≤ k := by omega
    have hw : wrap64 ((i : Int) + 1) = ((i + 1 : Nat) : Int) := wrap_sum i 1 (by omega)
    have hi2 : (i : Int) < (l.length : Int) := by omega
    have hi0 : (0 : Int) ≤ (i : Int) := by omega
    rw [flat_drop l i h, List.length_append] at hx
    rw [flat_drop l i h]
    simp only [ao.l1]
    generalize rd_T33 l (i : Int) = r at *
    obtain ⟨h1, h2⟩ := le_of_sum hx hF
    rw [← List.length_append] at h1 h2
    have h3 : x.length + r.f4.length < 140737488355328 := by rw [List.length_append] at h1; exact Nat.lt_of_le_of_lt h1 (by decide)
    have h4 : ¬ (((x ++ r.f4).length : Int) > 1048576) := by intro h; have := Int.ofNat_lt.1 h; omega
    have := ih k (i + 1) (x ++ r.f4) hA h h2 hK
    rw [if_pos hi2, if_pos hi0, if_pos h3, Option.bind_some, if_neg h4, hw, this, List.append_assoc]
theorem rbytes_l0 (l : List S33) (hn : l.length ≤ 1048576) (hr : l.all isRec = true) (B : Nat) (hB : ∀ r ∈ l, r.f4.length ≤ B) (F : Nat) (hF : F ≤ 1048576) (hx : (l.flatMap S33.f4).length = F) (d : Nat) : ∀ (k i : Nat), l.length - i = d → i ≤ l.length → d + l.length + 2 * B + 30 ≤ k →
 (∀ j x, j < i → l[j]? = some x → chk x = 0) → ao.l0 k l i = some (if l.all (fun r => decide (chk r = 0)) = true then (l.flatMap S33.f4, 0) else ([], 2)) := by
 induction d with
 | zero =>
  intro k i hd hi hk hck
  obtain ⟨k, rfl⟩ : ∃ q, k = q + 1 := ⟨k - 1, by omega⟩
  obtain rfl : i = l.length := by omega
  simp only [ao.l0]
  have h0 := rbytes_l1 l hn F hF l.length k 0 [] rfl (Nat.zero_le _) (by rw [List.length_nil, Nat.zero_add, List.drop_zero]; exact hx) (by omega)
  rw [List.drop_zero, List.nil_append] at h0
  rw [if_neg (by omega), if_pos (all_ok hck)]
  exact h0
 | succ d ih =>
  intro k i hd hi hk hck
  obtain ⟨k, rfl⟩ : ∃ q, k = q + 1 := ⟨k - 1, by omega⟩
  have h : i < l.length := by omega
  have hA : l.length - (i + 1) = d := by omega
  have hK : d + l.length + 2 * B + 30 ≤ k := by omega
  have hw : wrap64 ((i : Int) + 1) = ((i + 1 : Nat) : Int) := wrap_sum i 1 (by omega)
  have hi2 : (i : Int) < (l.length : Int) := by omega
  have hi0 : (0 : Int) ≤ (i : Int) := by omega
  have hx1 := rdT_eq l i h
  have hm := List.mem_of_getElem? hx1
  have hb := hB _ hm
  have hrec := List.all_eq_true.1 hr _ hm
  simp only [ao.l0]
  generalize rd_T33 l (i : Int) = r at *
  rw [if_pos hi2, if_pos hi0, rcheck_f hrec k (by omega), Option.bind_some]
  by_cases hc : chk r = 0
  case neg =>
   rw [if_neg hc, not_ok hx1 hc]
   rcases chk_cases r with h0 | h0
   ·exact absurd h0 hc
   ·rw [h0]
    rfl
  rw [if_pos hc, hw]
  refine ih k (i + 1) hA h hK ?_
  intro j y hj hy
  by_cases he : j = i
  case neg =>
   exact hck j y (by omega) hy
  subst he
  rw [hx1] at hy
  cases hy
  exact hc
end Go.Proofs.Ytbclejgljegfmaa.Plain
