/-
  WireJoins: Bytes answers as the chapter says, of all records (40 at most, of 60 bytes at most).
-/
import Derived.Test.YtbclejgljegfmaaAp
import Derived.Test.YtbclejgljegfmaaLJoins
import Derived.Test.YtbclejgljegfmaaPlainJoin
import Derived.Test.YtbclejgljegfmaaHandOpen
namespace Go.Proofs.Ytbclejgljegfmaa.Pure
open Go.RowKit Go.Proofs.Ytbclejgljegfmaa.PAll Go.Proofs.Ytbclejgljegfmaa.Plain Go.Proofs.YtbclejgljegfmaaW.PrintWords Go.Proofs.YtbclejgljegfmaaW.PrintLast Go.Proofs.YtbclejgljegfmaaW.PrintMore Go.Proofs.Ytbclejgljegfmaa.Hand

theorem flat_le : ∀ l : List S33, (∀ r ∈ l, r.f4.length ≤ 60) → (l.flatMap S33.f4).length ≤ 60 * l.length
  | [], _ => by simp
  | r :: l, h => by
    rw [List.flatMap_cons, List.length_append, List.length_cons]
    have := flat_le l (fun x hx => h x (List.mem_cons_of_mem _ hx))
    have := h r List.mem_cons_self
    omega
theorem joins_j1 (acc : List S33) (hl : acc.length ≤ 40) (hr : ∀ r ∈ acc, isRec r = true ∧ r.f4.length ≤ 60) (k : Nat) (hk : 400 ≤ k) : ah.j1 k acc = some true := by
  obtain ⟨k, rfl⟩ : ∃ q, k = q + 1 := ⟨k - 1, by omega⟩
  have hall : acc.all isRec = true := List.all_eq_true.2 (fun r h => (hr r h).1)
  have hfl := flat_le acc (fun r h => (hr r h).2)
  have hB : dM.f acc = some (if acc.all (fun r => decide (chk r = 0)) = true then (acc.flatMap S33.f4, 0) else ([], 2)) := by
    rw [dM.f, if_pos ⟨hall, by omega⟩, if_neg (show ¬ ((acc.flatMap S33.f4).length > 1048576) by omega)]
  have hR : ao.f k acc = some (if acc.all (fun r => decide (chk r = 0)) = true then (acc.flatMap S33.f4, 0) else ([], 2)) := by
    unfold ao.f
    exact rbytes_l0 acc (by omega) hall 60 (fun r h => (hr r h).2) _ (by omega) rfl acc.length k 0 rfl (Nat.zero_le _) (by omega) (fun j x hj => absurd hj (Nat.not_lt_zero _))
  simp only [ah.j1]
  rw [hB, Option.bind_some, hR, Option.bind_some, eq_refl_f, Option.bind_some, if_pos rfl, if_pos rfl]
  rfl
theorem mn60 (n : Nat) : ∃ m : Nat, mn (n : Int) 60 = (m : Int) ∧ m ≤ n ∧ m ≤ 60 := by
 unfold mn
 split
 ·exact ⟨60, rfl, by omega, by omega⟩
 ·exact ⟨n, rfl, by omega, by omega⟩
theorem joins_l0 (l : List S33) (hl : ∀ r ∈ l, CameRec r) (d : Nat) : ∀ (k i : Nat) (acc : List S33), 40 - i = d → i ≤ 40 → acc.length = i → (∀ r ∈ acc, isRec r = true ∧ r.f4.length ≤ 60) → d + 402 ≤ k → ah.l0 k l acc i = some true := by
 induction d with
 | zero =>
  intro k i acc hd hi ha hr hk
  obtain ⟨k, rfl⟩ : ∃ q, k = q + 1 := ⟨k - 1, by omega⟩
  have hj := joins_j1 acc (by omega) hr k (by omega)
  simp only [ah.l0]
  by_cases h : (i : Int) < (l.length : Int)
  case neg =>
   rw [if_neg h, hj]
  rw [if_pos h, if_neg (by omega), hj]
 | succ d ih =>
  intro k i acc hd hi ha hr hk
  obtain ⟨k, rfl⟩ : ∃ q, k = q + 1 := ⟨k - 1, by omega⟩
  have hj := joins_j1 acc (by omega) hr k (by omega)
  simp only [ah.l0]
  by_cases h : i < l.length
  case neg =>
   rw [if_neg (by omega), hj]
  have hx := rdT_eq l i h
  have hc := hl _ (List.mem_of_getElem? hx)
  generalize rd_T33 l (i : Int) = r at *
  obtain ⟨m3, e3, p3, q3⟩ := mn60 r.f3.length
  obtain ⟨m4, e4, p4, q4⟩ := mn60 r.f4.length
  have h3 : (r.f3.take m3).length = m3 := p170z
  have h4 : (r.f4.take m4).length = m4 := p170z
  have hcopy : cw.f r.f0 r.f1 r.f2 (r.f3.take m3) (r.f4.take m4) = some (r.f0, r.f1, r.f2, r.f3.take m3, r.f4.take m4) := by
   unfold cw.f
   rw [copy_f (by omega), Option.bind_some, copy_f (by omega), Option.bind_some]
  rw [if_pos (by omega), if_pos (by omega), if_pos (by omega), e3, e4, if_pos (by omega), if_pos (by omega), if_pos (by omega), if_pos (by omega), Int.toNat_natCast, Int.toNat_natCast, hcopy, Option.bind_some, if_pos (by omega), w64 (by omega) (by omega)]
  refine ih k (i + 1) _ (by omega) (by omega) (by simp [ha]) ?_ (by omega)
  intro y hy
  rcases List.mem_append.1 hy with hy | hy
  ·exact hr y hy
  ·obtain rfl := List.mem_singleton.1 hy
   refine ⟨?_, by show (r.f4.take m4).length ≤ 60; omega⟩
   simp only [isRec, Bool.and_eq_true, decide_eq_true_eq]
   exact ⟨⟨⟨isB_take _ (isB_of hc.b3), isB_take _ (isB_of hc.b4)⟩, by omega⟩, by omega⟩
theorem WireJoins (l : List S33) (hl : ∀ r ∈ l, CameRec r) : ah.f 500 l = some true := by
  unfold ah.f
  exact joins_l0 l hl 40 500 0 [] rfl (by omega) rfl (by simp) (by omega)
end Go.Proofs.Ytbclejgljegfmaa.Pure
