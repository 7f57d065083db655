/-
  What the document's Check answers, in plain words: what the program's does. No walk.
-/
import Derived.Test.YtbclejgljegfmaaGN
import Derived.Test.YtbclejgljegfmaaPlainNext
import Derived.Test.YtbclejgljegfmaaHandChk
namespace Go.Proofs.Ytbclejgljegfmaa.Plain
open Go.RowKit Go.Proofs.Ytbclejgljegfmaa.PAll Go.Proofs.YtbclejgljegfmaaW.PrintWords Go.Proofs.YtbclejgljegfmaaW.PrintLast Go.Proofs.YtbclejgljegfmaaW.PrintMore Go.Proofs.Ytbclejgljegfmaa.Hand

theorem f5 {l : List Int} (h : ∀ x ∈ l, 0 ≤ x ∧ x < 256) : bytesOf (strOfNums l) = l := by
 simp only [strOfNums, bytesOf, List.map_map]
 rw [List.map_congr_left (g := id) fun x hx => ?_]
 ·exact List.map_id _
 ·have := h x hx
  simp only [Function.comp_apply, id_eq, UInt8.toNat_ofNat']
  omega
theorem isB_num {l : List Int} (h : isB l = true) : bytesOf (strOfNums l) = l := f5 fun x hx => by
  unfold isB at h
  rw [List.all_eq_true] at h
  have := h x hx
  simp only [Bool.and_eq_true, decide_eq_true_eq] at this
  omega
theorem toList_inj {s t : ByteArray} (h : s.toList = t.toList) : s = t := by
  rw [ByteArray.toList_eq, ByteArray.toList_eq] at h
  cases s
  cases t
  congr 1
  exact Array.toList_inj.1 h
theorem eqB_f {a b : List Int} (ha : isB a = true) (hb : isB b = true) : ab.f a b = some (decide (a = b)) := by
 unfold ab.f
 congr 1
 by_cases h : a = b
 case pos =>
  subst h
  simp
 rw [decide_eq_false h, beq_eq_false_iff_ne]
 intro he
 apply h
 rw [← isB_num ha, ← isB_num hb, toList_inj he]
theorem nxt_isB {l : List Int} (hB : isB l = true) : isB (nxt l).2.2.2.1 = true ∧ isB (nxt l).2.2.2.2.1 = true := by
 unfold nxt
 split
 ·exact ⟨rfl, rfl⟩
 ·split
  ·exact ⟨rfl, rfl⟩
  ·split
   ·exact ⟨rfl, rfl⟩
   ·refine ⟨?_, isB_take _ hB⟩
    show isB (body _ _).2.1 = true
    unfold body
    repeat' split
    all_goals (first | rfl | exact isB_take _ (isB_drop _ (isB_drop _ hB)))
theorem rsame_f (a0 a1 a2 : Int) (a3 a4 : List Int) (b0 b1 b2 : Int) (b3 b4 : List Int) (h3 : isB a3 = true) (h4 : isB a4 = true) (k3 : isB b3 = true) (k4 : isB b4 = true) : ai.f a0 a1 a2 a3 a4 b0 b1 b2 b3 b4 = some (decide ((a0, a1, a2, a3, a4) = (b0, b1, b2, b3, b4))) := by
 unfold ai.f
 rw [eqB_f h3 k3, eqB_f h4 k4]
 by_cases h0 : a0 = b0 <;> by_cases h1 : a1 = b1 <;> by_cases h2 : a2 = b2 <;> by_cases h3 : a3 = b3 <;> simp [h0, h1, h2, h3]
theorem rcheck_f {r : S33} (h : isRec r = true) (k : Nat) (hk : 2 * r.f4.length + 20 ≤ k) : ar.f k r.f0 r.f1 r.f2 r.f3 r.f4 = some (chk r) := by
 obtain ⟨h3, h4, h5, h6⟩ := fr h
 unfold ar.f chk
 rw [next_f h4 h6 k hk, Option.bind_some]
 obtain ⟨i3, i4⟩ := nxt_isB h4
 obtain ⟨t, ht⟩ : ∃ t, t = nxt r.f4 := ⟨_, rfl⟩
 rw [← ht] at i3 i4 ⊢
 obtain ⟨t0, t1, t2, t3, t4, t5, t6⟩ := t
 simp only at i3 i4 ⊢
 rw [rsame_f _ _ _ _ _ _ _ _ _ _ i3 i4 h3 h4]
 by_cases he : t6 = 0
 case neg =>
  rw [if_neg he, if_neg]
  rintro ⟨⟩
  exact he rfl
 by_cases hn : t5 = (r.f4.length : Int)
 case neg =>
  rw [if_pos he, if_neg hn, if_neg]
  rintro ⟨⟩
  exact hn rfl
 rw [if_pos he, if_pos hn]
 by_cases hs : (t0, t1, t2, t3, t4) = (r.f0, r.f1, r.f2, r.f3, r.f4)
 case neg =>
  rw [decide_eq_false hs, if_neg]
  ·simp
  ·rintro ⟨⟩
   exact hs rfl
 rw [decide_eq_true hs]
 simp only [Prod.mk.injEq] at hs
 simp [hs, hn, he]
end Go.Proofs.Ytbclejgljegfmaa.Plain
