/-
  Numbers in bytes and signed numbers, in plain words: what the document's and the program's functions come to. No walk.
-/
import Derived.Test.YtbclejgljegfmaaAp
import Derived.Test.YtbclejgljegfmaaGVz
import Derived.Test.YtbclejgljegfmaaGC
import Derived.Test.YtbclejgljegfmaaPlainWire
import Derived.Laws.DeepNot64
import Derived.Laws.Bits64b
namespace Go.Proofs.Ytbclejgljegfmaa.Plain
open Go.RowKit Go.Proofs.Ytbclejgljegfmaa.PAll Go.Proofs.YtbclejgljegfmaaW.PrintWords Go.Proofs.YtbclejgljegfmaaW.PrintLast Go.Proofs.YtbclejgljegfmaaW.PrintMore Go.Proofs.Ytbclejgljegfmaa.Hand

theorem vr_len : ∀ (m : Nat) (n : Nat), n < 2 * 128 ^ m → (vr m n).length = max 1 ((Lib.bitLenAux (7 * m + 1) n + 6) / 7)
 | 0, n, h => by
  have := Lib.bitLenAux_le 1 n 1 (by simpa using h)
  rw [show 7 * 0 + 1 = 1 from rfl]
  simp only [vr, List.length_singleton]
  omega
 | m + 1, n, h => by
  by_cases hn : n < 128
  case pos =>
   have h7 := Lib.bitLenAux_le (7 * (m + 1) + 1) n 7 (by simpa using hn)
   simp only [vr]
   rw [if_pos (by omega), List.length_singleton]
   omega
  simp only [vr]
  rw [if_neg (by omega), List.length_cons, show ((n : Int) / 128) = ((n / 128 : Nat) : Int) by omega, vr_len m (n / 128) (by rw [Nat.pow_succ] at h; omega)]
  have e : Lib.bitLenAux (7 * (m + 1) + 1) n = 7 + Lib.bitLenAux (7 * m + 1) (n / 128) := by
   rw [show 7 * (m + 1) + 1 = (7 * m + 1) + 7 by omega]
   simp only [Lib.bitLenAux]
   rw [if_neg (by omega), if_neg (by omega), if_neg (by omega), if_neg (by omega), if_neg (by omega), if_neg (by omega), if_neg (by omega), Nat.div_div_eq_div_mul, Nat.div_div_eq_div_mul, Nat.div_div_eq_div_mul, Nat.div_div_eq_div_mul, Nat.div_div_eq_div_mul, Nat.div_div_eq_div_mul]
   rw [show 2 * 2 * 2 * 2 * 2 * 2 * 2 = 128 from rfl]
   omega
  have h1 : 1 ≤ Lib.bitLenAux (7 * m + 1) (n / 128) := by
   simp only [Lib.bitLenAux]
   rw [if_neg (by omega)]
   omega
  rw [e]
  omega
theorem size_f {n : Int} (h0 : 0 ≤ n) (h1 : n ≤ 18446744073709551615) : wire_Size.f n = some ((vr 9 n).length : Int) := by
  obtain ⟨m, rfl⟩ : ∃ m : Nat, n = m := ⟨n.toNat, by omega⟩
  unfold wire_Size.f bits_Len64.f
  rw [if_pos (by simp [isU64]; omega)]
  simp only [Option.bind_some, Int.toNat_natCast]
  have h64 := Lib.bitLen_le m 64 (Nat.le_refl _) (by omega)
  have e := vr_len 9 m (by omega)
  rw [e, w64 (x := (Lib.bitLen m : Int) + 7) (by omega) (by omega), w64 (x := (Lib.bitLen m : Int) + 7 - 1) (by omega) (by omega), Int.tdiv_eq_ediv_of_nonneg (by omega), w64 (by omega) (by omega)]
  rw [show Lib.bitLenAux (7 * 9 + 1) m = Lib.bitLen m from rfl]
  obtain ⟨b, hb⟩ : ∃ b, b = Lib.bitLen m := ⟨_, rfl⟩
  rw [← hb] at h64 ⊢
  clear hb e
  unfold mx
  congr 1
  split <;> omega
theorem vr_le (n : Int) : ∀ m : Nat, 1 ≤ (vr m n).length ∧ (vr m n).length ≤ m + 1
 | 0 => by simp [vr]
 | m + 1 => by
  simp only [vr]
  split
  ·simp
  ·have := vr_le (n / 128) m
   rw [List.length_cons]
   omega
theorem rvar_l0 : ∀ (m k : Nat) (n : Int) (l : List Int), 0 ≤ n → n < 2 * 128 ^ m → m ≤ 9 → l.length + m < 140737488355328 → m + 1 ≤ k → aj.l0 k n l = some (l ++ vr m n)
 | 0, k, n, l, h0, h1, hm, hl, hk => by
  obtain ⟨k, rfl⟩ : ∃ q, k = q + 1 := ⟨k - 1, by omega⟩
  simp only [aj.l0, vr]
  rw [if_neg (by omega), if_pos (by omega), Int.emod_eq_of_lt h0 (by omega)]
 | m + 1, k, n, l, h0, h1, hm, hl, hk => by
  obtain ⟨k, rfl⟩ : ∃ q, k = q + 1 := ⟨k - 1, by omega⟩
  simp only [aj.l0, vr]
  have h2 : (2 : Int) * 128 ^ (m + 1) = 2 * 128 ^ m * 128 := by rw [Int.pow_succ, Int.mul_assoc]
  have h3 : (2 : Int) * 128 ^ m ≤ 2 * 128 ^ 9 := by
   have : (128 : Nat) ^ m ≤ 128 ^ 9 := Nat.pow_le_pow_right (by omega) (by omega)
   have : (128 : Int) ^ m ≤ 128 ^ 9 := by exact_mod_cast this
   omega
  by_cases hn : n < 128
  case pos =>
   rw [if_neg (by omega), if_pos (by omega), if_pos hn, Int.emod_eq_of_lt h0 (by omega)]
  rw [if_pos (by omega), if_pos (by omega), if_neg hn, Int.tdiv_eq_ediv_of_nonneg h0, Int.tmod_eq_emod_of_nonneg h0, wu64 (by omega) (by omega), rvar_l0 m k (n / 128) _ (by omega) (by omega) (by omega) p243z (by omega), List.append_assoc, List.singleton_append]
  have : ((n % 128) % 256 + 128) % 256 = n % 128 + 128 := by omega
  rw [this]
theorem rvar_f {l : List Int} {n : Int} (hl : l.length < 1099511627776) (h0 : 0 ≤ n) (h1 : n ≤ 18446744073709551615) (k : Nat) (hk : 10 ≤ k) : aj.f k l n = some (l ++ vr 9 n) := by
  unfold aj.f
  rw [copy_f (by omega)]
  simp only [Option.bind_some]
  exact rvar_l0 9 k n l h0 (by omega) (by omega) (by omega) hk
theorem rsize_f {n : Int} (h0 : 0 ≤ n) (h1 : n ≤ 18446744073709551615) (k : Nat) (hk : 10 ≤ k) : aA.f k n = some ((vr 9 n).length : Int) := by
  unfold aA.f
  rw [rvar_f (by simp) h0 h1 k hk]
  simp

def zg (a : Int) : Int := if 0 ≤ a then 2 * a else -2 * a - 1
def zb (n : Int) : Int := if n % 2 = 0 then n / 2 else -(n / 2) - 1
theorem xor0 {x : Int} (h0 : 0 ≤ x) (h1 : x < 2 ^ 64) : Go.bits .xor .u64 x 0 = x := by
  obtain ⟨m, rfl⟩ : ∃ m : Nat, x = m := ⟨x.toNat, by omega⟩
  have := bits_xor_u64_nat m 0 (by omega) (by omega)
  simpa using this
theorem xor1 {x : Int} (h0 : 0 ≤ x) (h1 : x < 2 ^ 64) : Go.bits .xor .u64 x 18446744073709551615 = 18446744073709551615 - x := by
  obtain ⟨m, rfl⟩ : ∃ m : Nat, x = m := ⟨x.toNat, by omega⟩
  show IntKind.u64.wrap ((BitVec.ofInt 64 (m : Int) ^^^ BitVec.ofInt 64 18446744073709551615).toNat : Int) = _
  have e : BitVec.ofInt 64 18446744073709551615 = BitVec.allOnes 64 := by decide
  rw [e, BitVec.xor_allOnes, BitVec.toNat_not, ofInt_u64 m (by omega)]
  rw [wu64 (by omega) (by omega)]
  omega
theorem xori0 {x : Int} (h0 : 0 ≤ x) (h1 : x < 9223372036854775808) : Go.bits .xor .i64 x 0 = x := by
  obtain ⟨m, rfl⟩ : ∃ m : Nat, x = m := ⟨x.toNat, by omega⟩
  show IntKind.i64.wrap ((BitVec.ofInt 64 (m : Int) ^^^ BitVec.ofInt 64 0).toNat : Int) = _
  have e : BitVec.ofInt 64 0 = 0#64 := by decide
  rw [e, BitVec.xor_zero, ofInt_u64 m (by omega)]
  simp [IntKind.wrap, IntKind.bits, IntKind.signed]
  omega
theorem xori1 {x : Int} (h0 : 0 ≤ x) (h1 : x < 9223372036854775808) : Go.bits .xor .i64 x (-1) = -1 - x := by
  obtain ⟨m, rfl⟩ : ∃ m : Nat, x = m := ⟨x.toNat, by omega⟩
  rw [← i64_not m (by omega)]
  show IntKind.i64.wrap ((BitVec.ofInt 64 (m : Int) ^^^ BitVec.ofInt 64 (-1)).toNat : Int) = IntKind.i64.wrap ((BitVec.ofInt 64 (-1) ^^^ BitVec.ofInt 64 (m : Int)).toNat : Int)
  rw [BitVec.xor_comm]
theorem and1 {x : Int} (h0 : 0 ≤ x) (h1 : x < 2 ^ 64) : Go.bits .and .u64 x 1 = x % 2 := by
  obtain ⟨m, rfl⟩ : ∃ m : Nat, x = m := ⟨x.toNat, by omega⟩
  have := bits_and_u64_nat m 1 (by omega) (by omega)
  rw [Nat.and_one_is_mod] at this
  simpa using this
theorem zig_f {a : Int} (h0 : -9223372036854775808 ≤ a) (h1 : a ≤ 9223372036854775807) : wire_Zig.f a = some (zg a) := by
 unfold wire_Zig.f zg
 by_cases h : 0 ≤ a
 case pos =>
  rw [if_pos h, wu64 (x := a) h (by omega), wu64 (x := a * 2) (by omega) (by omega), show a / 9223372036854775808 = 0 by omega, show IntKind.u64.wrap 0 = 0 from by decide, xor0 (by omega) (by omega)]
  congr 1; omega
 rw [if_neg h, show a / 9223372036854775808 = -1 by omega, show IntKind.u64.wrap (-1) = 18446744073709551615 from by decide]
 have e1 : IntKind.u64.wrap a = a + 2 ^ 64 := by simp [IntKind.wrap, IntKind.bits, IntKind.signed]; omega
 have e2 : IntKind.u64.wrap ((a + 2 ^ 64) * 2) = 2 * a + 2 ^ 64 := by simp [IntKind.wrap, IntKind.bits, IntKind.signed]; omega
 rw [e1, e2, xor1 (by omega) (by omega)]
 congr 1; omega
theorem rzig_f {a : Int} (h0 : -9223372036854775808 ≤ a) (h1 : a ≤ 9223372036854775807) : az.f a = some (zg a) := by
 unfold az.f zg
 by_cases h : 0 ≤ a
 case pos =>
  rw [if_pos h, if_pos h, wu64 (x := a) h (by omega), wu64 (by omega) (by omega)]
 rw [if_neg h, if_neg h, w64 (x := a + 1) (by omega) (by omega), w64 (by omega) (by omega), wu64 (x := -(a + 1)) (by omega) (by omega), wu64 (x := 2 * -(a + 1)) (by omega) (by omega), wu64 (by omega) (by omega)]
 congr 1; omega
theorem zag_f {n : Int} (h0 : 0 ≤ n) (h1 : n ≤ 18446744073709551615) : wire_Zag.f n = some (zb n) := by
 unfold wire_Zag.f zb
 rw [and1 h0 (by omega), w64 (x := n / 2) (by omega) (by omega), w64 (x := n % 2) (by omega) (by omega), w64 (by omega) (by omega)]
 by_cases h : n % 2 = 0
 case pos =>
  rw [if_pos h, h, show -(0 : Int) = 0 from rfl, xori0 (by omega) (by omega)]
 rw [if_neg h, show n % 2 = 1 by omega, xori1 (by omega) (by omega)]
 congr 1; omega
theorem rzag_f {n : Int} (h0 : 0 ≤ n) (h1 : n ≤ 18446744073709551615) : au.f n = some (zb n) := by
 unfold au.f zb
 rw [Int.tmod_eq_emod_of_nonneg h0, Int.tdiv_eq_ediv_of_nonneg h0, wu64 (x := n / 2) (by omega) (by omega), w64 (x := n / 2) (by omega) (by omega), w64 (x := -(n / 2)) (by omega) (by omega), w64 (x := -(n / 2) - 1) (by omega) (by omega)]
 by_cases h : n % 2 = 0
 case neg =>
  rw [if_neg h, if_neg h]
 rw [if_pos h, if_pos h]
theorem zg_zb {a : Int} : zb (zg a) = a := by unfold zg zb; split <;> split <;> omega
theorem zb_zg {n : Int} (h0 : 0 ≤ n) : zg (zb n) = n := by unfold zg zb; split <;> split <;> omega
theorem zg_in {a : Int} (h0 : -9223372036854775808 ≤ a) (h1 : a ≤ 9223372036854775807) : 0 ≤ zg a ∧ zg a ≤ 18446744073709551615 := by unfold zg; split <;> omega
theorem zb_in {n : Int} (h0 : 0 ≤ n) (h1 : n ≤ 18446744073709551615) : -9223372036854775808 ≤ zb n ∧ zb n ≤ 9223372036854775807 := by unfold zb; split <;> omega
end Go.Proofs.Ytbclejgljegfmaa.Plain
