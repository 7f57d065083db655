/-
  WireMakes: Make, Check, Copy and Same answer as the chapter says, of all numbers, kinds and bytes (400 at most).
-/
import Derived.Test.YtbclejgljegfmaaAp
import Derived.Test.YtbclejgljegfmaaLMakes
import Derived.Test.YtbclejgljegfmaaPlainMz
import Derived.Test.YtbclejgljegfmaaPlainChk
namespace Go.Proofs.Ytbclejgljegfmaa.Pure
open Go.RowKit Go.Proofs.Ytbclejgljegfmaa.PAll Go.Proofs.Ytbclejgljegfmaa.Plain Go.Proofs.YtbclejgljegfmaaW.PrintWords Go.Proofs.YtbclejgljegfmaaW.PrintLast Go.Proofs.YtbclejgljegfmaaW.PrintMore Go.Proofs.Ytbclejgljegfmaa.Hand

theorem eN (a b c : Int) (x y : List Int) : ai.f a b c x y a b c x y = some true := by simp [ai.f, eq_refl_f]
theorem makes_l1 (x : S33) (a b c : Int) (B : List Int) (d : Nat) : ∀ (k i : Nat) (R : List Int), R.length - i = d → R.length ≤ 1000 → i ≤ R.length → d + 1 ≤ k → a7.l1 k i x.f0 x.f1 x.f2 x.f3 x.f4 x.f0 x.f1 x.f2 x.f3 x.f4 a b c B R = some true := by
  induction d with
  | zero =>
    intro k i R hd hR hi hk
    obtain ⟨k, rfl⟩ : ∃ q, k = q + 1 := ⟨k - 1, by omega⟩
    simp only [a7.l1]
    rw [if_neg (by omega), eN, Option.bind_some, if_pos rfl, ac.f]
    rfl
  | succ d ih =>
    intro k i R hd hR hi hk
    obtain ⟨k, rfl⟩ : ∃ q, k = q + 1 := ⟨k - 1, by omega⟩
    have hw : wrap64 ((i : Int) + 1) = ((i + 1 : Nat) : Int) := by rw [w64 (by omega) (by omega)]; omega
    simp only [a7.l1]
    rw [if_pos (by omega), if_pos (by omega), hw]
    exact ih k (i + 1) _ p240z (by rw [List.length_set]; exact hR) p240z (by omega)
theorem makes_l0 (x : S33) (a b c : Int) (R : List Int) (hR : R.length ≤ 1000) (d : Nat) : ∀ (k i : Nat) (B : List Int), B.length - i = d → B.length ≤ 1000 → i ≤ B.length → d + 1100 ≤ k → a7.l0 k i x.f0 x.f1 x.f2 x.f3 x.f4 x.f0 x.f1 x.f2 x.f3 x.f4 a b c B R = some true := by
  induction d with
  | zero =>
    intro k i B hd hB hi hk
    obtain ⟨k, rfl⟩ : ∃ q, k = q + 1 := ⟨k - 1, by omega⟩
    simp only [a7.l0]
    rw [if_neg (by omega)]
    exact makes_l1 x a b c B (R.length - 0) k 0 R rfl hR (Nat.zero_le _) (by omega)
  | succ d ih =>
    intro k i B hd hB hi hk
    obtain ⟨k, rfl⟩ : ∃ q, k = q + 1 := ⟨k - 1, by omega⟩
    have hw : wrap64 ((i : Int) + 1) = ((i + 1 : Nat) : Int) := by rw [w64 (by omega) (by omega)]; omega
    simp only [a7.l0]
    rw [if_pos (by omega), if_pos (by omega), hw]
    exact ih k (i + 1) _ p240z (by rw [List.length_set]; exact hB) p240z (by omega)
theorem makes_j1 (x : S33) (h3 : x.f3.length ≤ 500) (h4 : x.f4.length ≤ 500) (k : Nat) (hk : 2200 ≤ k) : a7.j1 k false x.f0 x.f1 x.f2 x.f3 x.f4 x.f0 x.f1 x.f2 x.f3 x.f4 x.f0 x.f1 x.f2 x.f3 x.f4 = some true := by
  obtain ⟨k, rfl⟩ : ∃ q, k = q + 1 := ⟨k - 1, by omega⟩
  simp only [a7.j1]
  rw [if_neg (by simp)]
  exact makes_l0 x x.f0 x.f1 x.f2 x.f4 (by omega) (x.f3.length - 0) k 0 x.f3 rfl (by omega) (Nat.zero_le _) (by omega)
theorem copyR {x : S33} (h3 : x.f3.length ≤ 500) (h4 : x.f4.length ≤ 500) : wire_Copy.f x.f0 x.f1 x.f2 x.f3 x.f4 = some (x.f0, x.f1, x.f2, x.f3, x.f4) := by
  rw [wire_Copy.f, aG.f, if_pos (by omega), Option.bind_some, aG.f, if_pos (by omega), Option.bind_some]
theorem makes_j0 (x : S33) (hx3 : isB x.f3 = true) (hx4 : isB x.f4 = true) (h3 : x.f3.length ≤ 500) (h4 : x.f4.length ≤ 500) (b : List Int) (hb : isB b = true) (hl : b.length ≤ 500) (n num kind : Int) (k : Nat) (hk : 4000 ≤ k) :
    a7.j0 k n b false num kind x.f0 x.f1 x.f2 x.f3 x.f4 x.f0 x.f1 x.f2 x.f3 x.f4 = some true := by
  obtain ⟨k, rfl⟩ : ∃ q, k = q + 1 := ⟨k - 1, by omega⟩
  have hrx : isRec x = true := by simp only [isRec, Bool.and_eq_true, decide_eq_true_eq]; exact ⟨⟨⟨hx3, hx4⟩, by omega⟩, by omega⟩
  have hrz : isRec ⟨num, kind, n, b, b⟩ = true := by simp only [isRec, Bool.and_eq_true, decide_eq_true_eq]; exact ⟨⟨⟨hb, hb⟩, by omega⟩, by omega⟩
  have c1 := check_f hrx k (by omega)
  have c2 := rcheck_f hrx k (by omega)
  have c3 := check_f hrz k (by show b.length + b.length + 1 ≤ k; omega)
  have c4 := rcheck_f hrz k (by show 2 * b.length + 20 ≤ k; omega)
  simp only at c3 c4
  simp only [a7.j0]
  rw [if_neg (by simp), copyR h3 h4, Option.bind_some]
  simp only
  rw [wsame_f _ _ _ _ _ _ _ _ _ _ (by omega) (by omega) k (by omega), Option.bind_some, rsame_f _ _ _ _ _ _ _ _ _ _ hx3 hx4 hb hb, Option.bind_some, if_neg (by simp), wsame_f _ _ _ _ _ _ _ _ _ _ (by omega) (by omega) k (by omega), Option.bind_some, if_neg (by simp), c3, Option.bind_some, c4, Option.bind_some, if_pos rfl, c1, Option.bind_some, c2, Option.bind_some, if_pos rfl, wsame_f _ _ _ _ _ _ _ _ _ _ (by omega) (by omega) k (by omega), Option.bind_some, decide_eq_true rfl]
  exact makes_j1 x h3 h4 k (by omega)
theorem WireMakes (num kind n : Int) (b : List Int) (n0 : 0 ≤ n) (n1 : n ≤ 18446744073709551615) (hB : isB b = true) : a7.f 5000 num kind n b = some true := by
  unfold a7.f
  have hb := isB_take 400 hB
  have hl : (b.take 400).length ≤ 400 := p170z
  obtain ⟨i1, i2, i3, i4⟩ := mkR_isB (num := num) (kind := kind) n0 n1 hl hb
  rw [cut_f, Option.bind_some, copy_f (by omega), Option.bind_some, wmake_f n0 n1 (by omega) 5000 (by omega), Option.bind_some, rmake_f n0 n1 (by omega) 5000 (by omega), Option.bind_some]
  generalize mkR num kind n (b.take 400) = x at *
  rw [eN, Option.bind_some, if_pos rfl, if_pos rfl, eq_refl_f, Option.bind_some]
  exact makes_j0 ⟨x.1, x.2.1, x.2.2.1, x.2.2.2.1, x.2.2.2.2.1⟩ i1 i2 (by show x.2.2.2.1.length ≤ 500; omega) (by show x.2.2.2.2.1.length ≤ 500; omega) (b.take 400) hb (by omega) n num kind 5000 (by omega)
end Go.Proofs.Ytbclejgljegfmaa.Pure
