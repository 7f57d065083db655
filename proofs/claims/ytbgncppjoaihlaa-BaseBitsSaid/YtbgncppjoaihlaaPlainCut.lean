/-
  Plain laws of cut texts, of Bring and of one letter of what Text writes.
-/
import Derived.Test.YtbgncppjoaihlaaPAllx3
import Derived.Test.YtbgncppjoaihlaaPlainRef
namespace Go.Proofs.Ytbgncppjoaihlaa.Ref
open Go.RowKit Go.Proofs.Ytbgncppjoaihlaa.PAll Go.Proofs.YtbgncppjoaihlaaW.PrintWords Go.Proofs.YtbgncppjoaihlaaW.PrintLast Go.Proofs.YtbgncppjoaihlaaW.PrintMore Go.Proofs.Ytbgncppjoaihlaa.Hand Go.Proofs.Ytbgncppjoaihlaa.Ref

theorem bytesOf_append (a b : ByteArray) : bytesOf (a ++ b) = bytesOf a ++ bytesOf b := by simp [bytesOf]
theorem bytesOf_extract (s : ByteArray) (i j : Nat) : bytesOf (s.extract i j) = ((bytesOf s).take j).drop i := by
  simp [bytesOf, ByteArray.data_extract, List.map_take, List.map_drop, List.extract_eq_take_drop]
  rw [List.drop_take]
theorem bring_some (a : Int) (n : Nat) (h0 : 0 < n) (h1 : n ≤ 1000000) : ∃ k : Nat, signetryref00_Bring.f a (n : Int) = some (k : Int) ∧ k < n := by
  have l1 : Int.tmod a n < n := Int.tmod_lt_of_pos a (by omega)
  have l2 : -(n : Int) < Int.tmod a n := Int.lt_tmod_of_pos a (by omega)
  rw [signetryref00_Bring.f, if_neg (by omega)]
  by_cases h : Int.tmod a n < 0
  · refine ⟨(Int.tmod a n + n).toNat, ?_, by omega⟩
    rw [if_pos h, w64 (by omega) (by omega)]
    congr 1
    omega
  · refine ⟨(Int.tmod a n).toNat, ?_, by omega⟩
    rw [if_neg h]
    congr 1
    omega
/-- One letter, of the three bytes that it stands for; n: how many there still are. -/
def letterAt (a b c : Int) (n : Nat) (r : Nat) : Int :=
  if r = 0 then lt (a / 4) else if r = 1 then lt (a % 4 * 16 + b / 16) else if r = 2 then (if n ≤ 1 then 61 else lt (b % 16 * 4 + c / 64)) else if n ≤ 2 then 61 else lt (c % 64)
theorem enc_get : ∀ (m : Nat) (l : List Int) (r : Nat), r < 4 → 4 * m + r < (enc l).length → (enc l).getD (4 * m + r) 0 = letterAt (l.getD (3 * m) 0) (l.getD (3 * m + 1) 0) (l.getD (3 * m + 2) 0) (l.length - 3 * m) r := by
  intro m
  induction m with
  | zero =>
    intro l r hr hl
    have h4 : r = 0 ∨ r = 1 ∨ r = 2 ∨ r = 3 := by omega
    match l, hl with
    | [], hl => simp [enc] at hl
    | [a], _ => rcases h4 with rfl | rfl | rfl | rfl <;> simp [enc, letterAt]
    | [a, b], _ => rcases h4 with rfl | rfl | rfl | rfl <;> simp [enc, letterAt]
    | a :: b :: c :: q, _ => rcases h4 with rfl | rfl | rfl | rfl <;> simp [enc, letterAt]
  | succ m ih =>
    intro l r hr hl
    match l, hl with
    | [], hl => simp [enc] at hl
    | [a], hl => simp [enc] at hl; omega
    | [a, b], hl => simp [enc] at hl; omega
    | a :: b :: c :: q, hl =>
      simp only [enc, List.length_cons] at hl
      have := ih q r hr (by omega)
      have e1 : 4 * (m + 1) + r = (4 * m + r) + 1 + 1 + 1 + 1 := by omega
      have e2 : 3 * (m + 1) = 3 * m + 1 + 1 + 1 := by omega
      have e3 : 3 * m + 1 + 1 + 1 + 1 = 3 * m + 1 + 1 + 1 + 1 := rfl
      rw [enc, e1, e2]
      rw [show 3 * m + 1 + 1 + 1 + 1 = (3 * m + 1) + 1 + 1 + 1 by omega, show 3 * m + 1 + 1 + 1 + 2 = (3 * m + 2) + 1 + 1 + 1 by omega]
      simp only [List.getD_cons_succ, List.length_cons]
      rw [this, show q.length + 1 + 1 + 1 - (3 * m + 1 + 1 + 1) = q.length - 3 * m by omega]
theorem bt_enc (l : List Int) (k : Nat) : bt (strOfNums (enc l)) (k : Int) = (enc l).getD k 0 := by
  rw [← rd_bytesOf, enc_bytes, rd, Int.toNat_natCast]
end Go.Proofs.Ytbgncppjoaihlaa.Ref
