/-
  Make's answer, in plain words: the bytes of a record. No walk. Make, as the program and as the document have it: one answer for all numbers, kinds and bytes. No walk.
-/
import Derived.Test.YtbclejgljegfmaaAp
import Derived.Test.YtbclejgljegfmaaGC
import Derived.Test.YtbclejgljegfmaaPlainNum
import Derived.Test.YtbclejgljegfmaaGM
import Derived.OpenShut
section
namespace Go.Proofs.Ytbclejgljegfmaa.Plain
open Go.RowKit Go.Proofs.Ytbclejgljegfmaa.PAll Go.Proofs.YtbclejgljegfmaaW.PrintWords Go.Proofs.YtbclejgljegfmaaW.PrintLast Go.Proofs.YtbclejgljegfmaaW.PrintMore Go.Proofs.Ytbclejgljegfmaa.Hand

def le : Nat → Int → List Int
  | 0, _ => []
  | m + 1, n => (n % 256) :: le m (n / 256)
theorem le_len (n : Int) : ∀ m, (le m n).length = m
  | 0 => rfl
  | m + 1 => by simp [le, le_len]
theorem le_isB : ∀ (m : Nat) (n : Int), isB (le m n) = true
  | 0, _ => rfl
  | m + 1, n => isB_cons.2 ⟨by omega, le_isB m _⟩
theorem little_l0 (m : Nat) (hm : m ≤ 8) (d : Nat) : ∀ (k : Nat) (l : List Int) (n : Int) (j : Nat), m - j = d → j ≤ m → l.length ≤ 1000 + j → d + 1 ≤ k → bt.l0 k l n m j = some (l ++ le d n) := by
  induction d with
  | zero =>
    intro k l n j hd hj hl hk
    obtain ⟨k, rfl⟩ : ∃ q, k = q + 1 := ⟨k - 1, by omega⟩
    simp only [bt.l0]
    rw [if_neg (by omega)]
    simp [le]
  | succ d ih =>
    intro k l n j hd hj hl hk
    obtain ⟨k, rfl⟩ : ∃ q, k = q + 1 := ⟨k - 1, by omega⟩
    have hw : wrap64 ((j : Int) + 1) = ((j + 1 : Nat) : Int) := by rw [w64 (by omega) (by omega)]; omega
    simp only [bt.l0]
    rw [if_pos (by omega), if_pos (by omega), hw, ih k _ _ (j + 1) (by omega) (by omega) p243z (by omega)]
    simp [le]
theorem little_f {l : List Int} (hl : l.length ≤ 1000) (n : Int) (m : Nat) (hm : m ≤ 8) (k : Nat) (hk : 9 ≤ k) : bt.f k l n m = some (l ++ le m n) := by
  unfold bt.f
  exact little_l0 m hm m k l n 0 rfl (Nat.zero_le _) (by omega) (by omega)

theorem tag_or (num : Int) (kind : Nat) (h0 : 0 ≤ num) (h1 : num ≤ 536870911) (hk : kind < 8) : Go.bits .or .u64 (num * 8) (kind : Int) = 8 * num + kind := by
  obtain ⟨m, rfl⟩ : ∃ m : Nat, num = m := ⟨num.toNat, by omega⟩
  have := bits_or_u64_nat (m * 8) kind (by omega) (by omega)
  rw [show ((m : Int) * 8) = ((m * 8 : Nat) : Int) by omega, this, Nat.mul_comm m 8, ← Nat.two_pow_add_eq_or_of_lt (i := 3) (by omega) m]
  omega
/-- What stands behind the tag. -/
def tail (kind : Nat) (n : Int) (b : List Int) : List Int := if kind = 0 then vr 9 n else if kind = 1 then le 8 n else if kind = 2 then vr 9 b.length ++ b else le 4 n
def nOf (kind : Nat) (n : Int) : Int := if kind = 2 then 0 else n
def bOf (kind : Nat) (b : List Int) : List Int := if kind = 2 then b else []
theorem make_f {num n : Int} {kind : Nat} {b : List Int} (h0 : 1 ≤ num) (h1 : num ≤ 536870911) (hk : kind = 0 ∨ kind = 1 ∨ kind = 2 ∨ kind = 5) (n0 : 0 ≤ n) (n1 : n ≤ 18446744073709551615) (n5 : kind = 5 → n ≤ 4294967295) (hb : b.length ≤ 1000) (k : Nat) (hK : 12 ≤ k) :
 wire_Make.f k num kind n b = some (num, (kind : Int), nOf kind n, bOf kind b, vr 9 (8 * num + kind) ++ tail kind n b, 0) := by
 obtain ⟨k, rfl⟩ : ∃ q, k = q + 1 := ⟨k - 1, by omega⟩
 have hand : ∀ q : Nat, (q = 0 ∨ q = 1 ∨ q = 2 ∨ q = 5) → Go.bits .and .i64 (q : Int) 7 = (q : Int) := by
  rintro q (rfl | rfl | rfl | rfl) <;> decide
 unfold wire_Make.f
 rw [if_neg (by omega), decide_eq_false (by omega)]
 simp only [wire_Make.j0]
 have hk8 : kind < 8 := by omega
 rw [if_neg (by simp), hand kind hk, wu64 (x := num) (by omega) (by omega), wu64 (x := num * 8) (by omega) (by omega), wu64 (x := (kind : Int)) (by omega) (by omega), tag_or num kind (by omega) h1 hk8]
 have hv := vr_le (8 * num + (kind : Int)) 9
 have hvar : ∀ (l : List Int) (x : Int), l.length ≤ 2000 → 0 ≤ x → x ≤ 18446744073709551615 → wire_Var.f l x = some (l ++ vr 9 x) := fun l x hl x0 x1 => by rw [wire_Var.f, if_pos ⟨by omega, by simp [isU64]; omega⟩]
 rw [hvar [] _ (by simp) (by omega) (by omega), Option.bind_some, List.nil_append]
 rcases hk with rfl | rfl | rfl | rfl
 ·rw [if_pos (by omega), hvar _ n (by omega) n0 n1, Option.bind_some]
  rfl
 ·rw [if_neg (by omega), if_pos (by omega), show bt.f k (vr 9 (8 * num + ((1 : Nat) : Int))) n 8 = some (vr 9 (8 * num + ((1 : Nat) : Int)) ++ le 8 n) from little_f (by omega) n 8 (by omega) k (by omega), Option.bind_some]
  rfl
 ·rw [if_neg (by omega), if_neg (by omega), if_pos (by omega), if_neg (by omega), aG.f, if_pos (by omega), Option.bind_some, wu64 (by omega) (by omega), hvar _ _ (by omega) (by omega) (by omega), Option.bind_some]
  have hv2 := vr_le (b.length : Int) 9
  rw [if_pos (by rw [List.length_append]; omega), List.append_assoc]
  rfl
 ·rw [if_neg (by omega), if_neg (by omega), if_neg (by omega), if_pos (by omega), if_neg (by have := n5 rfl; omega), show bt.f k (vr 9 (8 * num + ((5 : Nat) : Int))) n 4 = some (vr 9 (8 * num + ((5 : Nat) : Int)) ++ le 4 n) from little_f (by omega) n 4 (by omega) k (by omega), Option.bind_some]
  rfl

end Go.Proofs.Ytbclejgljegfmaa.Plain
end
section
namespace Go.Proofs.Ytbclejgljegfmaa.Plain
open Go.RowKit Go.Proofs.Ytbclejgljegfmaa.PAll Go.Proofs.YtbclejgljegfmaaW.PrintWords Go.Proofs.YtbclejgljegfmaaW.PrintLast Go.Proofs.YtbclejgljegfmaaW.PrintMore Go.Proofs.Ytbclejgljegfmaa.Hand

abbrev MakeR := Int × Int × Int × List Int × List Int × Int
def kinds (x : Int) : Bool := decide (x = 0) || decide (x = 1) || decide (x = 2) || decide (x = 5)
theorem kinds_of {x : Int} (h : kinds x = true) : ∃ q : Nat, x = q ∧ (q = 0 ∨ q = 1 ∨ q = 2 ∨ q = 5) := by
  simp only [kinds, Bool.or_eq_true, decide_eq_true_eq] at h
  exact ⟨x.toNat, by omega, by omega⟩
def mkR (num kind n : Int) (b : List Int) : MakeR :=
  if num < 1 ∨ num > 536870911 then (0, 0, 0, [], [], 9)
  else if kinds kind = true then (if kind = 5 ∧ n > 4294967295 then (0, 0, 0, [], [], 9) else (num, kind, nOf kind.toNat n, bOf kind.toNat b, vr 9 (8 * num + kind) ++ tail kind.toNat n b, 0))
  else (0, 0, 0, [], [], 10)
theorem u64_bits (x y : Int) : isU64 (Go.bits .or .u64 x y) = true := by
  obtain ⟨h0, h1⟩ := u64_of (Go.wf_bits .or .u64 x y)
  simp only [isU64, Bool.and_eq_true, decide_eq_true_eq]
  omega
theorem wmake_f {num kind n : Int} {b : List Int} (n0 : 0 ≤ n) (n1 : n ≤ 18446744073709551615) (hb : b.length ≤ 1000) (k : Nat) (hK : 12 ≤ k) : wire_Make.f k num kind n b = some (mkR num kind n b) := by
 by_cases hn : num < 1 ∨ num > 536870911
 case pos =>
  rw [mkR, if_pos hn]
  obtain ⟨k, rfl⟩ : ∃ q, k = q + 1 := ⟨k - 1, by omega⟩
  unfold wire_Make.f
  by_cases h1 : num < 1
  case pos =>
   rw [if_pos h1]
   rfl
  rw [if_neg h1, decide_eq_true (by omega)]
  rfl
 rw [mkR, if_neg hn]
 by_cases hk : kinds kind = true
 case neg =>
  rw [if_neg hk]
  simp only [kinds, Bool.or_eq_true, decide_eq_true_eq] at hk
  obtain ⟨k, rfl⟩ : ∃ q, k = q + 1 := ⟨k - 1, by omega⟩
  unfold wire_Make.f
  rw [if_neg (by omega), decide_eq_false (by omega)]
  simp only [wire_Make.j0]
  rw [if_neg (by simp), wire_Var.f, if_pos ⟨by simp, u64_bits _ _⟩, Option.bind_some, if_neg (by omega), if_neg (by omega), if_neg (by omega), if_neg (by omega)]
 rw [if_pos hk]
 obtain ⟨q, rfl, hq⟩ := kinds_of hk
 by_cases h5 : (q : Int) = 5 ∧ n > 4294967295
 case neg =>
  rw [if_neg h5, Int.toNat_natCast]
  exact make_f (by omega) (by omega) hq n0 n1 (fun h => Int.not_lt.1 fun h7 => h5 ⟨(show (q : Int) = 5 by omega), h7⟩) hb k hK
 rw [if_pos h5]
 obtain ⟨h5, h6⟩ := h5
 obtain rfl : q = 5 := by omega
 obtain ⟨k, rfl⟩ : ∃ q, k = q + 1 := ⟨k - 1, by omega⟩
 unfold wire_Make.f
 rw [if_neg (by omega), decide_eq_false (by omega)]
 simp only [wire_Make.j0]
 rw [if_neg (by simp), wire_Var.f, if_pos ⟨by simp, u64_bits _ _⟩, Option.bind_some, if_neg (by omega), if_neg (by omega), if_neg (by omega), if_pos (by omega), if_pos h6]
theorem fixed_l0 (m : Nat) (hm : m ≤ 8) (d : Nat) : ∀ (k : Nat) (l : List Int) (n : Int) (j : Nat), 0 ≤ n → n ≤ 18446744073709551615 → m - j = d → j ≤ m → l.length ≤ 1000 + j → d + 1 ≤ k → ax.l0 k n m l j = some (l ++ le d n) := by
  induction d with
  | zero =>
    intro k l n j h0 h1 hd hj hl hk
    obtain ⟨k, rfl⟩ : ∃ q, k = q + 1 := ⟨k - 1, by omega⟩
    simp only [ax.l0]
    rw [if_neg (by omega)]
    simp [le]
  | succ d ih =>
    intro k l n j h0 h1 hd hj hl hk
    obtain ⟨k, rfl⟩ : ∃ q, k = q + 1 := ⟨k - 1, by omega⟩
    have hw : wrap64 ((j : Int) + 1) = ((j + 1 : Nat) : Int) := by rw [w64 (by omega) (by omega)]; omega
    simp only [ax.l0]
    rw [if_pos (by omega), if_pos (by omega), hw, Int.tdiv_eq_ediv_of_nonneg h0, Int.tmod_eq_emod_of_nonneg h0, wu64 (by omega) (by omega), ih k _ _ (j + 1) (by omega) (by omega) (by omega) (by omega) p243z (by omega)]
    simp [le]
theorem fixed_f {n : Int} (h0 : 0 ≤ n) (h1 : n ≤ 18446744073709551615) (m : Nat) (hm : m ≤ 8) (k : Nat) (hk : 9 ≤ k) : ax.f k n m = some (le m n) := by
  unfold ax.f
  exact fixed_l0 m hm m k [] n 0 h0 h1 rfl (Nat.zero_le _) (by simp) (by omega)
theorem rmake_f {num kind n : Int} {b : List Int} (n0 : 0 ≤ n) (n1 : n ≤ 18446744073709551615) (hb : b.length ≤ 1000) (k : Nat) (hK : 12 ≤ k) : b6.f k num kind n b = some (mkR num kind n b) := by
 obtain ⟨k, rfl⟩ : ∃ q, k = q + 1 := ⟨k - 1, by omega⟩
 by_cases hn : num < 1 ∨ num > 536870911
 case pos =>
  rw [mkR, if_pos hn]
  unfold b6.f
  by_cases h1 : num < 1
  case pos =>
   rw [if_pos h1]
   rfl
  rw [if_neg h1, decide_eq_true (by omega)]
  rfl
 rw [mkR, if_neg hn]
 unfold b6.f
 rw [if_neg (by omega), decide_eq_false (by omega)]
 simp only [b6.j0]
 obtain ⟨u0, u1⟩ := u64_of (Go.wf_wrap .u64 (wrap64 ((wrap64 (8 * num)) + kind)))
 have hv := vr_le (IntKind.u64.wrap (wrap64 ((wrap64 (8 * num)) + kind))) 9
 rw [if_neg (by simp), rvar_f (by simp) u0 u1 k (by omega), Option.bind_some, List.nil_append]
 by_cases hk : kinds kind = true
 case neg =>
  rw [if_neg hk]
  simp only [kinds, Bool.or_eq_true, decide_eq_true_eq] at hk
  rw [if_neg (by omega), if_neg (by omega), if_neg (by omega), if_neg (by omega)]
 rw [if_pos hk]
 obtain ⟨q, rfl, hq⟩ := kinds_of hk
 have hw : IntKind.u64.wrap (wrap64 ((wrap64 (8 * num)) + (q : Int))) = 8 * num + q := by
  rw [w64 (x := 8 * num) (by omega) (by omega), w64 (x := 8 * num + (q : Int)) (by omega) (by omega), wu64 (by omega) (by omega)]
 rw [hw] at hv ⊢
 rw [Int.toNat_natCast]
 rcases hq with rfl | rfl | rfl | rfl
 ·rw [if_pos (by omega), rvar_f (by omega) n0 n1 k (by omega), Option.bind_some, if_neg (by omega)]
  rfl
 ·rw [if_neg (by omega), if_pos (by omega), show ax.f k n 8 = some (le 8 n) from fixed_f n0 n1 8 (by omega) k (by omega), Option.bind_some, if_pos (by rw [le_len]; omega), if_neg (by omega)]
  rfl
 ·have hv2 := vr_le (b.length : Int) 9
  rw [if_neg (by omega), if_neg (by omega), if_pos (by omega), if_neg (by omega), copy_f (by omega), Option.bind_some, wu64 (by omega) (by omega), rvar_f (by omega) (by omega) (by omega) k (by omega), Option.bind_some, if_pos (by rw [List.length_append]; omega), List.append_assoc, if_neg (by omega)]
  rfl
 ·rw [if_neg (by omega), if_neg (by omega), if_neg (by omega), if_pos (by omega)]
  by_cases h6 : n ≥ 4294967296
  case pos =>
   rw [if_pos h6, if_pos ⟨by omega, by omega⟩]
  rw [if_neg h6, show ax.f k n 4 = some (le 4 n) from fixed_f n0 n1 4 (by omega) k (by omega), Option.bind_some, if_pos (by rw [le_len]; omega), if_neg (by omega)]
  rfl
/-- What Make tells is bytes and numbers, and not long. -/
theorem mkR_isB {num kind n : Int} {b : List Int} (n0 : 0 ≤ n) (n1 : n ≤ 18446744073709551615) (hb : b.length ≤ 400) (hB : isB b = true) : isB (mkR num kind n b).2.2.2.1 = true ∧ isB (mkR num kind n b).2.2.2.2.1 = true ∧ (mkR num kind n b).2.2.2.1.length ≤ 400 ∧ (mkR num kind n b).2.2.2.2.1.length ≤ 500 := by
 unfold mkR
 split
 ·simp [isB]
 ·rename_i hn
  split
  ·rename_i hk
   split
   ·simp [isB]
   ·obtain ⟨q, rfl, hq⟩ := kinds_of hk
    have c1 : Hand.Code (vr 9 (8 * num + (q : Int))) (8 * num + q) := Hand.Code.of_vr (by omega) (by omega)
    have hv := vr_le (8 * num + (q : Int)) 9
    rw [Int.toNat_natCast]
    have ht : isB (tail q n b) = true ∧ (tail q n b).length ≤ 490 := by
     rcases hq with rfl | rfl | rfl | rfl
     ·exact ⟨(Hand.Code.of_vr n0 (by omega)).isB, by have := vr_le n 9; show (vr 9 n).length ≤ 490; omega⟩
     ·exact ⟨le_isB 8 n, by show (le 8 n).length ≤ 490; rw [le_len]; omega⟩
     ·have hv2 := vr_le (b.length : Int) 9
      exact ⟨fI.2 ⟨(Hand.Code.of_vr (by omega) (by omega)).isB, hB⟩, by show (vr 9 (b.length : Int) ++ b).length ≤ 490; rw [List.length_append]; omega⟩
     ·exact ⟨le_isB 4 n, by show (le 4 n).length ≤ 490; rw [le_len]; omega⟩
    have hbb : isB (bOf q b) = true ∧ (bOf q b).length ≤ 400 := by
     unfold bOf
     split
     ·exact ⟨hB, hb⟩
     ·exact ⟨rfl, Nat.zero_le _⟩
    exact ⟨hbb.1, fI.2 ⟨c1.isB, ht.1⟩, hbb.2, by rw [List.length_append]; omega⟩
  ·simp [isB]
end Go.Proofs.Ytbclejgljegfmaa.Plain
end
