/-
  Plain laws of numbers in bytes and of records: no program.
-/
import Derived.Test.YtbclejgljegfmaaAp
import Derived.Test.YtbclejgljegfmaaHandSpec
namespace Go.Proofs.Ytbclejgljegfmaa.Hand

theorem isB_cons {c : Int} {r : List Int} : isB (c :: r) = true ↔ (0 ≤ c ∧ c ≤ 255) ∧ isB r = true := by simp [isB]
theorem fI {a b : List Int} : isB (a ++ b) = true ↔ isB a = true ∧ isB b = true := by simp [isB, List.all_append]
theorem isB_drop {l : List Int} (n : Nat) (h : isB l = true) : isB (l.drop n) = true := by
  have h2 : isB (l.take n ++ l.drop n) = true := by rw [List.take_append_drop]; exact h
  exact (fI.1 h2).2
theorem isB_take {l : List Int} (n : Nat) (h : isB l = true) : isB (l.take n) = true := by
  have h2 : isB (l.take n ++ l.drop n) = true := by rw [List.take_append_drop]; exact h
  exact (fI.1 h2).1

/-- What a number's bytes are worth, but for the last one. -/
def valI : List Int → Nat → Int
  | [], _ => 0
  | c :: r, i => (c - 128) * 2 ^ (7 * i) + valI r (i + 1)
/-- All bytes go on. -/
def isH (l : List Int) : Bool := l.all fun x => decide (128 ≤ x) && decide (x ≤ 255)
theorem isH_cons {c : Int} {r : List Int} : isH (c :: r) = true ↔ (128 ≤ c ∧ c ≤ 255) ∧ isH r = true := by simp [isH]
theorem rdn_code (c : Int) (hc0 : 0 ≤ c) (hc : c < 128) (rest : List Int) : ∀ (l : List Int) (i : Nat) (a : Int), isH l = true → i + l.length ≤ 9 → (i + l.length = 9 → c ≤ 1) →
    rdn (l ++ c :: rest) i a = (a + valI l i + c * 2 ^ (7 * (i + l.length)), i + l.length + 1, 0)
  | [], i, a, _, h1, h2 => by
    simp only [List.nil_append, rdn, valI, List.length_nil, Nat.add_zero]
    rw [if_neg (by simp only [List.length_nil, Nat.add_zero] at h2; omega), if_pos hc, Int.add_zero]
  | x :: r, i, a, h, h1, h2 => by
    obtain ⟨⟨hx1, hx2⟩, hr⟩ := isH_cons.1 h
    simp only [List.length_cons] at h1 h2
    simp only [List.cons_append, rdn, valI, List.length_cons]
    rw [if_neg (by omega), if_neg (by omega), rdn_code c hc0 hc rest r (i + 1) _ hr (by omega) (by intro hh; exact h2 (by omega)), show i + 1 + r.length = i + (r.length + 1) by omega]
    simp only [Prod.mk.injEq, and_true]
    omega
/-- Bytes that are a number, in whatever many bytes. -/
def Code (l : List Int) (n : Int) : Prop := ∃ i c, l = i ++ [c] ∧ isH i = true ∧ 0 ≤ c ∧ c < 128 ∧ i.length ≤ 9 ∧ (i.length = 9 → c ≤ 1) ∧ n = valI i 0 + c * 2 ^ (7 * i.length)
theorem Code.rdn {l : List Int} {n : Int} (h : Code l n) (rest : List Int) : rdn (l ++ rest) 0 0 = (n, l.length, 0) := by
  obtain ⟨i, c, rfl, hi, h0, h1, h2, h3, rfl⟩ := h
  rw [List.append_assoc, List.singleton_append, rdn_code c h0 h1 rest i 0 0 hi (by omega) (by simpa using h3)]
  simp
theorem Code.isB {l : List Int} {n : Int} (h : Code l n) : isB l = true := by
  obtain ⟨i, c, rfl, hi, h0, h1, _⟩ := h
  rw [fI]
  refine ⟨?_, by simp [Hand.isB]; omega⟩
  simp only [isH, Hand.isB, List.all_eq_true, Bool.and_eq_true, decide_eq_true_eq] at hi ⊢
  intro x hx
  have := hi x hx
  omega
theorem Code.length {l : List Int} {n : Int} (h : Code l n) : 1 ≤ l.length ∧ l.length ≤ 10 := by
  obtain ⟨i, c, rfl, hi, h0, h1, h2, _⟩ := h
  simp; omega
theorem vr_code : ∀ (k : Nat) (n : Int), 0 ≤ n → n < 2 * 128 ^ k → ∃ i c, vr k n = i ++ [c] ∧ isH i = true ∧ 0 ≤ c ∧ c < 128 ∧ i.length ≤ k ∧ (i.length = k → c ≤ 1) ∧ ∀ j, n * 2 ^ (7 * j) = valI i j + c * 2 ^ (7 * (j + i.length))
 | 0, n, h0, h1 => ⟨[], n, by simp only [vr, List.nil_append]; rw [Int.emod_eq_of_lt h0 (by omega)], rfl, h0, by omega, by simp, fun _ => by omega, fun j => by simp [valI]⟩
 | k + 1, n, h0, h1 => by
  by_cases hn : n < 128
  case pos =>
   exact ⟨[], n, by simp only [vr, List.nil_append]; rw [if_pos hn], rfl, h0, hn, by simp, fun h => by simp at h, fun j => by simp [valI]⟩
  have hp : (128 : Int) ^ (k + 1) = 128 ^ k * 128 := Int.pow_succ _ _
  obtain ⟨i, c, e, h2, h3, h4, h5, h6, h7⟩ := vr_code k (n / 128) (by omega) (by omega)
  refine ⟨(n % 128 + 128) :: i, c, by simp only [vr]; rw [if_neg hn, e]; rfl, isH_cons.2 ⟨by omega, h2⟩, h3, h4, p243z, fun hh => h6 (by simpa using hh), fun j => ?_⟩
  simp only [valI, List.length_cons]
  have := h7 (j + 1)
  rw [show j + 1 + i.length = j + (i.length + 1) by omega] at this
  have hq : (2 : Int) ^ (7 * (j + 1)) = 128 * 2 ^ (7 * j) := by rw [show 7 * (j + 1) = 7 * j + 7 by omega, Int.pow_add]; omega
  rw [hq, ← Int.mul_assoc] at this
  have hd : n = n / 128 * 128 + n % 128 := by omega
  have : n * 2 ^ (7 * j) = (n / 128 * 128) * 2 ^ (7 * j) + (n % 128) * 2 ^ (7 * j) := by rw [← Int.add_mul, ← hd]
  have h9 : (n % 128 + 128 - 128) * 2 ^ (7 * j) = (n % 128) * 2 ^ (7 * j) := by rw [Int.add_sub_cancel]
  omega
theorem Code.of_vr {n : Int} (h0 : 0 ≤ n) (h1 : n < 2 * 128 ^ 9) : Code (vr 9 n) n := by
  obtain ⟨i, c, e, h2, h3, h4, h5, h6, h7⟩ := vr_code 9 n h0 h1
  exact ⟨i, c, e, h2, h3, h4, h5, h6, by have := h7 0; simpa using this⟩
theorem rdn_pre : ∀ (l : List Int) (i : Nat) (a n : Int) (m : Nat), rdn l i a = (n, m, 0) → i < m ∧ m ≤ i + l.length ∧ ∀ rest, rdn (l.take (m - i) ++ rest) i a = (n, m, 0)
 | [], i, a, n, m, h => by simp [rdn] at h
 | c :: r, i, a, n, m, h => by
  simp only [rdn] at h
  split at h
  ·simp at h
  ·rename_i h9
   split at h
   ·rename_i hc
    simp only [Prod.mk.injEq, and_true] at h
    obtain ⟨rfl, rfl⟩ := h
    refine ⟨by omega, by simp, fun rest => ?_⟩
    rw [show i + 1 - i = 1 by omega]
    simp only [List.take_succ_cons, List.take_zero, List.cons_append, List.nil_append, rdn]
    rw [if_neg h9, if_pos hc]
   ·rename_i hc
    obtain ⟨h1, h2, h3⟩ := rdn_pre r (i + 1) _ n m h
    refine ⟨by omega, by simp only [List.length_cons]; omega, fun rest => ?_⟩
    rw [show m - i = (m - (i + 1)) + 1 by omega]
    simp only [List.take_succ_cons, List.cons_append, rdn]
    rw [if_neg h9, if_neg hc]
    exact h3 rest
theorem rdn_range : ∀ (l : List Int) (i : Nat) (a : Int), isB l = true → i ≤ 9 → 0 ≤ a → a < 2 ^ (7 * i) → 0 ≤ (rdn l i a).1 ∧ (rdn l i a).1 < 2 ^ 64 ∧ ((rdn l i a).2.2 = 0 ∨ (rdn l i a).2.2 = 3 ∨ (rdn l i a).2.2 = 4)
 | [], i, a, _, _, _, _ => by simp [rdn]
 | c :: r, i, a, h, hi, h0, h1 => by
  obtain ⟨⟨hc0, hc1⟩, hr⟩ := isB_cons.1 h
  simp only [rdn]
  split
  ·simp
  ·rename_i h9
   have hp : (0 : Int) < 2 ^ (7 * i) := Int.pow_pos (by omega)
   have hq : (2 : Int) ^ (7 * (i + 1)) = 128 * 2 ^ (7 * i) := by rw [show 7 * (i + 1) = 7 * i + 7 by omega, Int.pow_add]; omega
   split
   ·rename_i hc
    refine ⟨Int.add_nonneg h0 (Int.mul_nonneg hc0 (by omega)), ?_, .inl rfl⟩
    show a + c * 2 ^ (7 * i) < 2 ^ 64
    rcases Nat.lt_or_ge i 9 with h8 | h8
    ·have h3 : c * 2 ^ (7 * i) ≤ 127 * 2 ^ (7 * i) := Int.mul_le_mul_of_nonneg_right (by omega) (by omega)
     have h4 : (2 : Int) ^ (7 * (i + 1)) ≤ 2 ^ 63 := by
      have : (2 : Nat) ^ (7 * (i + 1)) ≤ 2 ^ 63 := Nat.pow_le_pow_right (by omega) (by omega)
      exact_mod_cast this
     have h5 : (2 : Int) ^ 63 < 2 ^ 64 := by decide
     omega
    ·obtain rfl : i = 9 := by omega
     have : c ≤ 1 := by omega
     have h3 : c * 2 ^ (7 * 9) ≤ 1 * 2 ^ (7 * 9) := Int.mul_le_mul_of_nonneg_right this (by omega)
     have h5 : (2 : Int) ^ (7 * 9) + 2 ^ (7 * 9) = 2 ^ 64 := by decide
     omega
   ·rename_i hc
    have h8 : i ≤ 8 := by omega
    have h3 : (c - 128) * 2 ^ (7 * i) ≤ 127 * 2 ^ (7 * i) := Int.mul_le_mul_of_nonneg_right (by omega) (by omega)
    have h4 : 0 ≤ (c - 128) * 2 ^ (7 * i) := Int.mul_nonneg (by omega) (by omega)
    exact rdn_range r (i + 1) _ hr (by omega) (by omega) (by omega)
end Go.Proofs.Ytbclejgljegfmaa.Hand
