/-
  Make's answer, in plain words: the bytes of a record. No walk.
-/
import Derived.Test.YtbclejgljegfmaaGC
import Derived.Test.YtbclejgljegfmaaPlainNum
namespace Go.Proofs.Ytbclejgljegfmaa.Plain
open Go.RowKit Go.Proofs.Ytbclejgljegfmaa.PAll Go.Proofs.YtbclejgljegfmaaW.PrintWords Go.Proofs.YtbclejgljegfmaaW.PrintLast Go.Proofs.YtbclejgljegfmaaW.PrintMore Go.Proofs.Ytbclejgljegfmaa.Hand

def le : Nat → Int → List Int
  | 0, _ => []
  | m + 1, n => (n % 256) :: le m (n / 256)
theorem le_len (n : Int) : ∀ m, (le m n).length = m
  | 0 => rfl
  | m + 1 => by simp [le, le_len]
theorem le_gr : ∀ (m : Nat) (n : Int), 0 ≤ n → n < 256 ^ m → gr (le m n) = n
  | 0, n, h0, h1 => by simp [le, gr] at *; omega
  | m + 1, n, h0, h1 => by
    rw [Int.pow_succ] at h1
    simp only [le, gr]
    rw [le_gr m (n / 256) (by omega) (by omega)]
    omega
theorem le_isB : ∀ (m : Nat) (n : Int), isB (le m n) = true
  | 0, _ => rfl
  | m + 1, n => isB_cons.2 ⟨by omega, le_isB m _⟩
theorem little_l0 (m : Nat) (hm : m ≤ 8) (d : Nat) : ∀ (k : Nat) (l : List Int) (n : Int) (j : Nat), m - j = d → j ≤ m → l.length ≤ 1000 + j → d + 1 ≤ k → wire_little.l0 k l n m j = some (l ++ le d n) := by
  induction d with
  | zero =>
    intro k l n j hd hj hl hk
    obtain ⟨k, rfl⟩ : ∃ q, k = q + 1 := ⟨k - 1, by omega⟩
    simp only [wire_little.l0]
    rw [if_neg (by omega)]
    simp [le]
  | succ d ih =>
    intro k l n j hd hj hl hk
    obtain ⟨k, rfl⟩ : ∃ q, k = q + 1 := ⟨k - 1, by omega⟩
    have hw : wrap64 ((j : Int) + 1) = ((j + 1 : Nat) : Int) := by rw [w64 (by omega) (by omega)]; omega
    simp only [wire_little.l0]
    rw [if_pos (by omega), if_pos (by omega), hw, ih k _ _ (j + 1) (by omega) (by omega) (by simp; omega) (by omega)]
    simp [le]
theorem little_f {l : List Int} (hl : l.length ≤ 1000) (n : Int) (m : Nat) (hm : m ≤ 8) (k : Nat) (hk : 9 ≤ k) : wire_little.f k l n m = some (l ++ le m n) := by
  unfold wire_little.f
  exact little_l0 m hm m k l n 0 rfl (Nat.zero_le _) (by omega) (by omega)

theorem tag_or (num : Int) (kind : Nat) (h0 : 0 ≤ num) (h1 : num ≤ 536870911) (hk : kind < 8) : Go.bits .or .u64 (num * 8) (kind : Int) = 8 * num + kind := by
  obtain ⟨m, rfl⟩ : ∃ m : Nat, num = m := ⟨num.toNat, by omega⟩
  have := bits_or_u64_nat (m * 8) kind (by omega) (by omega)
  rw [show ((m : Int) * 8) = ((m * 8 : Nat) : Int) by omega, this, Nat.mul_comm m 8, ← Nat.two_pow_add_eq_or_of_lt (i := 3) (by omega) m]
  omega
/-- What stands behind the tag. -/
def tail (kind : Nat) (n : Int) (b : List Int) : List Int := if kind = 0 then vr 9 n else if kind = 1 then le 8 n else if kind = 2 then vr 9 b.length ++ b else le 4 n
def nOf (kind : Nat) (n : Int) : Int := if kind = 2 then 0 else n
def bOf (kind : Nat) (b : List Int) : List Int := if kind = 2 then b else []
theorem make_f {num n : Int} {kind : Nat} {b : List Int} (h0 : 1 ≤ num) (h1 : num ≤ 536870911) (hk : kind = 0 ∨ kind = 1 ∨ kind = 2 ∨ kind = 5) (n0 : 0 ≤ n) (n1 : n ≤ 18446744073709551615) (n5 : kind = 5 → n ≤ 4294967295) (hb : b.length ≤ 1000) (k : Nat) (hK : 12 ≤ k) :
    wire_Make.f k num kind n b = some (num, (kind : Int), nOf kind n, bOf kind b, vr 9 (8 * num + kind) ++ tail kind n b, 0) := by
  obtain ⟨k, rfl⟩ : ∃ q, k = q + 1 := ⟨k - 1, by omega⟩
  have hand : ∀ q : Nat, (q = 0 ∨ q = 1 ∨ q = 2 ∨ q = 5) → Go.bits .and .i64 (q : Int) 7 = (q : Int) := by
    rintro q (rfl | rfl | rfl | rfl) <;> decide
  unfold wire_Make.f
  rw [if_neg (by omega), decide_eq_false (by omega)]
  simp only [wire_Make.j0]
  have hk8 : kind < 8 := by omega
  rw [if_neg (by simp), hand kind hk, wu64 (x := num) (by omega) (by omega), wu64 (x := num * 8) (by omega) (by omega), wu64 (x := (kind : Int)) (by omega) (by omega), tag_or num kind (by omega) h1 hk8]
  have hv := vr_le (8 * num + (kind : Int)) 9
  have hvar : ∀ (l : List Int) (x : Int), l.length ≤ 2000 → 0 ≤ x → x ≤ 18446744073709551615 → wire_Var.f l x = some (l ++ vr 9 x) := fun l x hl x0 x1 => by rw [wire_Var.f, if_pos ⟨by omega, by simp [isU64]; omega⟩]
  rw [hvar [] _ (by simp) (by omega) (by omega), Option.bind_some, List.nil_append]
  rcases hk with rfl | rfl | rfl | rfl
  · rw [if_pos (by omega), hvar _ n (by omega) n0 n1, Option.bind_some]
    rfl
  · rw [if_neg (by omega), if_pos (by omega), show wire_little.f k (vr 9 (8 * num + ((1 : Nat) : Int))) n 8 = some (vr 9 (8 * num + ((1 : Nat) : Int)) ++ le 8 n) from little_f (by omega) n 8 (by omega) k (by omega), Option.bind_some]
    rfl
  · rw [if_neg (by omega), if_neg (by omega), if_pos (by omega), if_neg (by omega), slices_Clone_byte_byte.f, if_pos (by omega), Option.bind_some, wu64 (by omega) (by omega), hvar _ _ (by omega) (by omega) (by omega), Option.bind_some]
    have hv2 := vr_le (b.length : Int) 9
    rw [if_pos (by rw [List.length_append]; omega), List.append_assoc]
    rfl
  · rw [if_neg (by omega), if_neg (by omega), if_neg (by omega), if_pos (by omega), if_neg (by have := n5 rfl; omega), show wire_little.f k (vr 9 (8 * num + ((5 : Nat) : Int))) n 4 = some (vr 9 (8 * num + ((5 : Nat) : Int)) ++ le 4 n) from little_f (by omega) n 4 (by omega) k (by omega), Option.bind_some]
    rfl

end Go.Proofs.Ytbclejgljegfmaa.Plain
