/-
  What the document's Next answers, in plain words: no walk.
-/
import Derived.Test.YtbclejgljegfmaaAp
import Derived.Test.YtbclejgljegfmaaGE
import Derived.Test.YtbclejgljegfmaaPlainWire
namespace Go.Proofs.Ytbclejgljegfmaa.Plain
open Go.RowKit Go.Proofs.Ytbclejgljegfmaa.PAll Go.Proofs.YtbclejgljegfmaaW.PrintWords Go.Proofs.YtbclejgljegfmaaW.PrintLast Go.Proofs.YtbclejgljegfmaaW.PrintMore Go.Proofs.Ytbclejgljegfmaa.Hand

/-- A number at a place, as the document tells it. -/
def numR (t : Int × Nat × Int) (at_ : Nat) : Int × Int × Int := (t.1, if t.2.2 = 0 then ((at_ + t.2.1 : Nat) : Int) else 0, t.2.2)
theorem shl_in {x : Int} {m : Nat} (hx : 0 ≤ x) (hm : m ≤ 63) (h : x * 2 ^ m < 2 ^ 64) : shl .u64 x (m : Int) = x * 2 ^ m := by
  unfold shl
  rw [Int.toNat_natCast, show min m IntKind.u64.bits = m from Nat.min_eq_left (by show m ≤ 64; omega)]
  exact wu64 (Int.mul_nonneg hx (Int.pow_nonneg (by omega))) h
theorem num_l0 (l : List Int) (hB : isB l = true) (hl : l.length ≤ 1099511627776) (x1 : Nat) : ∀ (d k x8 : Nat) (x7 : Int), x1 + x8 ≤ l.length → x8 ≤ 9 → 0 ≤ x7 → x7 < 2 ^ (7 * x8) → l.length - (x1 + x8) = d → 2 * d + 2 ≤ k →
 af.l0 k l x1 x7 x8 = some (numR (rdn (l.drop (x1 + x8)) x8 x7) x1)
 | d, k, x8, x7, h1, h9, h0, hb, hd, hk => by
  obtain ⟨k, rfl⟩ : ∃ m, k = m + 2 := ⟨k - 2, by omega⟩
  simp only [af.l0]
  rw [w64 (by omega) (by omega)]
  by_cases hend : x1 + x8 = l.length
  case pos =>
   rw [if_pos (by omega), List.drop_of_length_le (by omega)]
   rfl
  have hlt : x1 + x8 < l.length := by omega
  rw [if_neg (by omega), if_pos (by omega), if_pos (by omega), rdn_at hlt, show ((x1 : Int) + (x8 : Int)) = ((x1 + x8 : Nat) : Int) by omega]
  obtain ⟨c, hc⟩ : ∃ c, c = rd l ((x1 + x8 : Nat) : Int) := ⟨_, rfl⟩
  have hcb := isB_rd hB (x1 + x8)
  rw [← hc] at hcb ⊢
  obtain ⟨hc0, hc1⟩ := hcb
  have hx8 : ((x8 : Int) = 9) = (x8 = 9) := p243z
  by_cases hbad : x8 = 9 ∧ c > 1
  case pos =>
   rw [if_pos (by omega), rdn, if_pos hbad]
   simp only [af.j1]
   rw [if_pos (by simpa using hbad.2)]
   rfl
  have hj : (if (x8 : Int) = 9 then af.j1 (k + 1) l x1 x7 x8 c (decide (c > 1)) else af.j1 (k + 1) l x1 x7 x8 c false) = af.j1 (k + 1) l x1 x7 x8 c false := by
   by_cases h : (x8 : Int) = 9
   case neg =>
    rw [if_neg h]
   rw [if_pos h, show decide (c > 1) = false from decide_eq_false (by omega)]
  rw [hj, rdn, if_neg hbad]
  simp only [af.j1]
  rw [if_neg (by simp), w64 (x := 7 * (x8 : Int)) (by omega) (by omega), if_pos (by omega)]
  obtain ⟨y, hy⟩ : ∃ y, y = c % 128 := ⟨_, rfl⟩
  have htm : Int.tmod c 128 = y := by rw [hy, Int.tmod_eq_emod_of_nonneg hc0]
  have hfit := num_fit h9 h0 hb (show 0 ≤ y by omega) (show y < 128 by omega) (by intro h; omega)
  have hs : shl .u64 (IntKind.u64.wrap y) (7 * (x8 : Int)) = y * 2 ^ (7 * x8) := by
   rw [wu64 (by omega) (by omega), show (7 * (x8 : Int)) = ((7 * x8 : Nat) : Int) by omega]
   exact shl_in (by omega) (by omega) hfit
  have hy0 : 0 ≤ y * 2 ^ (7 * x8) := Int.mul_nonneg (by omega) (Int.pow_nonneg (by omega))
  have hsum : x7 + y * 2 ^ (7 * x8) < 2 ^ 64 := by
   rcases Nat.lt_or_ge x8 9 with h | h
   ·have h5 := num_next h0 hb (show 0 ≤ y by omega) (show y < 128 by omega)
    have h6 := pow_le_63 (show x8 + 1 ≤ 9 by omega)
    have h7 : (2 : Int) ^ 63 < 2 ^ 64 := by decide
    omega
   ·obtain rfl : x8 = 9 := by omega
    have h5 : y ≤ 1 := by omega
    have h6 : y * 2 ^ (7 * 9) ≤ 1 * 2 ^ (7 * 9) := Int.mul_le_mul_of_nonneg_right h5 (by decide)
    have h7 : (2 : Int) ^ (7 * 9) + 2 ^ (7 * 9) = 2 ^ 64 := by decide
    omega
  rw [htm, hs, wu64 (by omega) hsum]
  by_cases hlo : c < 128
  case pos =>
   rw [if_pos hlo, if_pos hlo, w64 (x := (x1 : Int) + x8) (by omega) (by omega), w64 (by omega) (by omega), show y = c by omega]
   simp only [numR, if_true, Option.some.injEq, Prod.mk.injEq, true_and, and_true]
   omega
  rw [if_neg hlo, if_neg hlo, w64 (x := (x8 : Int) + 1) (by omega) (by omega), show y = c - 128 by omega]
  have hb2 := num_next h0 hb (show 0 ≤ y by omega) (show y < 128 by omega)
  rw [show y = c - 128 by omega] at hb2 hy0
  have := num_l0 l hB hl x1 (d - 1) (k + 1 - 1) (x8 + 1) (x7 + (c - 128) * 2 ^ (7 * x8)) (by omega) (by omega) (by omega) hb2 (by omega) (by omega)
  rw [show x1 + (x8 + 1) = x1 + x8 + 1 by omega] at this
  exact this
 termination_by d => d
theorem num_f {l : List Int} (hB : isB l = true) (hl : l.length ≤ 1099511627776) (x1 k : Nat) (h : x1 ≤ l.length) (hk : 2 * l.length + 2 ≤ k) : af.f k l x1 = some (numR (rdn (l.drop x1) 0 0) x1) := by
  unfold af.f
  exact num_l0 l hB hl x1 (l.length - x1) k 0 0 (by omega) (by omega) (by omega) (by decide) (by omega) (by omega)

theorem gr_snoc (c : Int) : ∀ l : List Int, gr (l ++ [c]) = gr l + c * 256 ^ l.length
  | [] => by simp [gr]
  | x :: r => by
    simp only [List.cons_append, gr, gr_snoc c r, List.length_cons, Int.pow_succ]
    rw [Int.mul_add]
    have : c * (256 ^ r.length * 256) = 256 * (c * 256 ^ r.length) := by rw [Int.mul_comm (256 ^ r.length) 256, Int.mul_left_comm]
    omega
theorem pow256 {m : Nat} (h : m ≤ 8) : (256 : Int) ^ m ≤ 2 ^ 64 := by
  have : m = 0 ∨ m = 1 ∨ m = 2 ∨ m = 3 ∨ m = 4 ∨ m = 5 ∨ m = 6 ∨ m = 7 ∨ m = 8 := by omega
  rcases this with rfl | rfl | rfl | rfl | rfl | rfl | rfl | rfl | rfl <;> decide
theorem next_l0 (l : List Int) (hB : isB l = true) (hl : l.length ≤ 1099511627776) (at_ many : Nat) (num wire : Int) (B : List Int) (hw : wire ≠ 2) (ham : at_ + many ≤ l.length) (hm : many ≤ 8) : ∀ (j k : Nat) (N : Int), j ≤ many → 0 ≤ N → N < 256 ^ (many - j) → j + 1 ≤ k →
    aa.l0 k l at_ many ((j : Int) - 1) num wire N B = some (num, wire, N * 256 ^ j + gr ((l.drop at_).take j), B, l.take (at_ + many), ((at_ + many : Nat) : Int), 0)
  | 0, k, N, _, h0, _, hk => by
    obtain ⟨k, rfl⟩ : ∃ m, k = m + 1 := ⟨k - 1, by omega⟩
    simp only [aa.l0]
    rw [if_neg (by omega), w64 (by omega) (by omega), if_pos (by omega), if_pos (by omega), show ((at_ : Int) + many).toNat = at_ + many by omega, copy_f p170z]
    simp [gr]
  | j + 1, k, N, hj, h0, h1, hk => by
    obtain ⟨k, rfl⟩ : ∃ m, k = m + 1 := ⟨k - 1, by omega⟩
    simp only [aa.l0]
    have e1 : (((j + 1 : Nat) : Int) - 1) = (j : Int) := by omega
    have hlt : at_ + j < l.length := by omega
    have hcb := isB_rd hB (at_ + j)
    rw [e1, if_pos (by omega), if_neg hw, w64 (x := (at_ : Int) + j) (by omega) (by omega), if_pos (by omega), if_pos (by omega), w64 (x := (j : Int) - 1) (by omega) (by omega)]
    rw [show ((at_ : Int) + j) = ((at_ + j : Nat) : Int) by omega]
    have hdr : (l.drop at_).take (j + 1) = (l.drop at_).take j ++ [rd l ((at_ + j : Nat) : Int)] := by
      rw [List.take_succ_eq_append_getElem (by rw [List.length_drop]; omega)]
      simp only [rd, Int.toNat_natCast]
      simp [List.getD_eq_getElem?_getD, List.getElem?_eq_getElem hlt]
    obtain ⟨c, hc⟩ : ∃ c, c = rd l ((at_ + j : Nat) : Int) := ⟨_, rfl⟩
    rw [← hc] at hcb hdr ⊢
    have hp : (256 : Int) ^ (many - j) = 256 ^ (many - (j + 1)) * 256 := by rw [show many - j = (many - (j + 1)) + 1 by omega, Int.pow_succ]
    have hle : (256 : Int) ^ (many - j) ≤ 2 ^ 64 := pow256 (by omega)
    rw [wu64 (x := 256 * N) (by omega) (by omega), wu64 (x := c) (by omega) (by omega), wu64 (by omega) (by omega)]
    rw [next_l0 l hB hl at_ many num wire B hw ham hm j k (256 * N + c) (by omega) (by omega) (by omega) (by omega), hdr, gr_snoc]
    have hlen : ((l.drop at_).take j).length = j := p205z
    rw [hlen]
    have : (256 * N + c) * 256 ^ j = N * 256 ^ (j + 1) + c * 256 ^ j := by
      rw [Int.add_mul, Int.pow_succ, Int.mul_comm 256 N, Int.mul_assoc, Int.mul_comm 256 (256 ^ j)]
    simp only [Option.some.injEq, Prod.mk.injEq, true_and, and_true]
    omega
theorem cut_eq (l : List Int) (a b : Nat) : (l.take (a + b)).drop a = (l.drop a).take b := by rw [List.drop_take, Nat.add_sub_cancel_left]
theorem next_j1 (l : List Int) (hB : isB l = true) (hl : l.length ≤ 1099511627776) (at_ many k : Nat) (num wire N : Int) (hat : at_ ≤ l.length) (hm : many ≤ 1048576) (h8 : wire ≠ 2 → many ≤ 8) (hN : wire ≠ 2 → many = 0 ∨ N = 0) (hN0 : 0 ≤ N) (hk : 12 ≤ k) :
 aa.j1 k l at_ many num wire N = if l.length < at_ + many then some (noR 3) else
  some (num, wire, if wire = 2 then N else N + gr ((l.drop at_).take many), if wire = 2 then (l.drop at_).take many else [], l.take (at_ + many), ((at_ + many : Nat) : Int), 0) := by
 obtain ⟨k, rfl⟩ : ∃ m, k = m + 3 := ⟨k - 3, by omega⟩
 simp only [aa.j1]
 rw [w64 (x := (l.length : Int) - at_) (by omega) (by omega)]
 by_cases hfit : l.length < at_ + many
 case pos =>
  rw [if_pos (by omega), if_pos hfit]
  rfl
 rw [if_neg (by omega), if_neg hfit]
 by_cases hw : wire = 2
 case neg =>
  rw [if_neg hw, if_neg hw, if_neg hw]
  simp only [aa.j2]
  rw [w64 (x := (many : Int) - 1) (by omega) (by omega)]
  rcases hN hw with h | h
  ·subst h
   have e : (((0 : Nat) : Int) - 1) = ((0 : Nat) : Int) - 1 := rfl
   simp only [aa.l0]
   rw [if_neg (by omega), w64 (by omega) (by omega), if_pos (by omega), if_pos (by omega), show ((at_ : Int) + (0 : Nat)).toNat = at_ + 0 by omega, copy_f p170z]
   simp [gr]
  ·subst h
   rw [next_l0 l hB hl at_ many num wire [] hw (by omega) (h8 hw) many (k + 1) 0 (Nat.le_refl _) (by omega) (by simp) (by have := h8 hw; omega)]
   simp

 rw [if_pos hw, if_pos hw, if_pos hw, if_pos (by omega), w64 (x := (at_ : Int) + many) (by omega) (by omega), if_pos (by omega), if_pos (by omega), show ((at_ : Int) + many).toNat = at_ + many by omega, Int.toNat_natCast, cut_eq, copy_f p205z]
 simp only [Option.bind_some, aa.j2, aa.l0]
 rw [w64 (x := (many : Int) - 1) (by omega) (by omega), w64 (x := (at_ : Int) + many) (by omega) (by omega)]
 rw [show ((at_ : Int) + many).toNat = at_ + many by omega, copy_f p170z]
 by_cases h0 : (many : Int) - 1 ≥ 0
 case neg =>
  rw [if_neg h0, if_pos (by omega), if_pos (by omega)]
  simp
 rw [if_pos h0, if_pos hw, if_pos (by omega), if_pos (by omega)]
 simp
theorem next_f {l : List Int} (hB : isB l = true) (hl : l.length ≤ 1099511627776) (k : Nat) (hk : 2 * l.length + 20 ≤ k) : aa.f k l = some (nxt l) := by
 obtain ⟨k, rfl⟩ : ∃ m, k = m + 1 := ⟨k - 1, by omega⟩
 have h1 := num_f hB hl 0 (k + 1) (by omega) (by omega)
 rw [List.drop_zero] at h1
 obtain ⟨r0, r1, r2⟩ := err_cases hB
 have r3 := @cnt_le l
 unfold aa.f nxt
 rw [show ((0 : Nat) : Int) = 0 from rfl] at h1
 rw [h1]
 simp only [Option.bind_some, numR]
 generalize rdn l 0 0 = t at *
 obtain ⟨n, c, e⟩ := t
 simp only at *
 by_cases he : e = 0
 case neg =>
  rw [if_neg he, if_pos he]
  rfl

 subst he
 obtain ⟨c0, c1⟩ := r3 rfl
 rw [if_pos rfl, if_neg (show ¬ ((0 : Int) ≠ 0) by simp)]
 rw [Int.tdiv_eq_ediv_of_nonneg r0, wu64 (x := n / 8) (by omega) (by omega)]
 simp only [if_true, Nat.zero_add]
 by_cases hbad : n < 8 ∨ n > 4294967295
 case pos =>
  rw [if_pos hbad]
  have hj : (if n / 8 < 1 then aa.j0 (k + 1) l n c true else aa.j0 (k + 1) l n c (decide (n / 8 > 536870911))) = aa.j0 (k + 1) l n c true := by
   by_cases h : n / 8 < 1
   case pos =>
    rw [if_pos h]
   rw [if_neg h, decide_eq_true (by omega)]
  rw [hj]
  simp only [aa.j0, if_true]
  rfl
 rw [if_neg hbad]
 have hj : (if n / 8 < 1 then aa.j0 (k + 1) l n c true else aa.j0 (k + 1) l n c (decide (n / 8 > 536870911))) = aa.j0 (k + 1) l n c false := by
  rw [if_neg (by omega), decide_eq_false (by omega)]
 rw [hj]
 simp only [aa.j0]
 rw [if_neg (by simp), Int.tmod_eq_emod_of_nonneg r0, Int.tdiv_eq_ediv_of_nonneg r0, w64 (x := n % 8) (by omega) (by omega), wu64 (x := n / 8) (by omega) (by omega), w64 (x := n / 8) (by omega) (by omega)]
 have h2 := num_f hB hl c k c1 (by omega)
 obtain ⟨q0, q1, q2⟩ := err_cases (isB_drop c hB)
 have q3 := @cnt_le (l.drop c)
 rw [List.length_drop] at q3
 obtain ⟨m, d, f, hu⟩ : ∃ m d f, rdn (l.drop c) 0 0 = (m, d, f) := ⟨_, _, _, rfl⟩
 rw [hu] at h2 q0 q1 q2 q3
 simp only [numR] at h2 q0 q1 q2 q3
 by_cases w0 : n % 8 = 0
 case pos =>
  have hb : body (n % 8) (l.drop c) = (m, [], d, f) := by rw [w0]; unfold body; rw [if_pos rfl, hu]
  rw [if_pos w0, h2, hb]
  simp only [Option.bind_some]
  by_cases hf : f = 0
  case neg =>
   rw [if_neg hf, if_pos hf]
   rfl
  subst hf
  obtain ⟨d0, d1⟩ := q3 rfl
  simp only [if_true]
  have := next_j1 l hB hl (c + d) 0 k (n / 8) (n % 8) m (by omega) (by omega) (by omega) (by intro; exact .inl rfl) q0 (by omega)
  rw [show ((0 : Nat) : Int) = 0 from rfl] at this
  rw [this, if_neg (by omega), if_neg (show ¬ n % 8 = 2 by omega), if_neg (show ¬ n % 8 = 2 by omega), if_neg (show ¬ ((0 : Int) ≠ 0) by simp)]
  simp [gr]
 rw [if_neg w0]
 by_cases w1 : n % 8 = 1
 case pos =>
  have hb : body (n % 8) (l.drop c) = if 8 ≤ (l.drop c).length then (gr ((l.drop c).take 8), [], 8, 0) else (0, [], 0, 3) := by rw [w1]; rfl
  rw [if_pos w1]
  have := next_j1 l hB hl c 8 k (n / 8) (n % 8) 0 c1 (by omega) (by omega) (by intro; exact .inr rfl) (by omega) (by omega)
  rw [show ((8 : Nat) : Int) = 8 from rfl] at this
  rw [this]
  by_cases hq : 8 ≤ (l.drop c).length
  case neg =>
   rw [if_neg hq] at hb
   rw [hb, if_pos p197z, if_pos (show ((3 : Int) ≠ 0) by simp)]
  rw [if_pos hq] at hb
  rw [hb, if_neg p197z, if_neg (show ¬ n % 8 = 2 by omega), if_neg (show ¬ n % 8 = 2 by omega), if_neg (show ¬ ((0 : Int) ≠ 0) by simp)]
  simp
 rw [if_neg w1]
 by_cases w2 : n % 8 = 2
 case neg =>
  rw [if_neg w2]
  by_cases w5 : n % 8 = 5
  case neg =>
   have hb : body (n % 8) (l.drop c) = (0, [], 0, 10) := by unfold body; rw [if_neg w0, if_neg w1, if_neg w2, if_neg w5]
   rw [if_neg w5, hb, if_pos (show ((10 : Int) ≠ 0) by simp)]
   rfl
  have hb : body (n % 8) (l.drop c) = if 4 ≤ (l.drop c).length then (gr ((l.drop c).take 4), [], 4, 0) else (0, [], 0, 3) := by rw [w5]; rfl
  rw [if_pos w5]
  have := next_j1 l hB hl c 4 k (n / 8) (n % 8) 0 c1 (by omega) (by omega) (by intro; exact .inr rfl) (by omega) (by omega)
  rw [show ((4 : Nat) : Int) = 4 from rfl] at this
  rw [this]
  by_cases hq : 4 ≤ (l.drop c).length
  case neg =>
   rw [if_neg hq] at hb
   rw [hb, if_pos p197z, if_pos (show ((3 : Int) ≠ 0) by simp)]
  rw [if_pos hq] at hb
  rw [hb, if_neg p197z, if_neg (show ¬ n % 8 = 2 by omega), if_neg (show ¬ n % 8 = 2 by omega), if_neg (show ¬ ((0 : Int) ≠ 0) by simp)]
  simp
 have hb := body_two (l.drop c)
 rw [hu, ← w2] at hb
 simp only at hb
 rw [if_pos w2, h2]
 simp only [Option.bind_some]
 by_cases hf : f = 0
 case neg =>
  rw [if_pos hf] at hb
  rw [if_neg hf, hb, if_pos hf]
  rfl
 subst hf
 obtain ⟨d0, d1⟩ := q3 rfl
 rw [if_neg (show ¬ ((0 : Int) ≠ 0) by simp)] at hb
 simp only [if_true]
 by_cases hbig : m > 1048576
 case pos =>
  rw [if_pos hbig] at hb
  rw [if_pos hbig, hb, if_pos (show ((5 : Int) ≠ 0) by simp)]
  rfl
 rw [if_neg hbig] at hb
 rw [if_neg hbig, w64 (by omega) (by omega)]
 obtain ⟨m, rfl⟩ := Int.eq_ofNat_of_zero_le q0
 have := next_j1 l hB hl (c + d) m k (n / 8) (n % 8) 0 (by omega) (by omega) (by omega) (by omega) (by omega) (by omega)
 rw [this]
 rw [List.length_drop] at hb
 by_cases hfit : l.length < c + d + m
 case pos =>
  rw [if_pos (show ((m : Int) > ((l.length - c : Nat) : Int) - d) by omega)] at hb
  rw [hb, if_pos hfit, if_pos (show ((3 : Int) ≠ 0) by simp)]
 rw [if_neg (show ¬ ((m : Int) > ((l.length - c : Nat) : Int) - d) by omega), Int.toNat_natCast, List.drop_drop] at hb
 rw [hb, if_neg hfit, if_pos w2, if_pos w2, if_neg (show ¬ ((0 : Int) ≠ 0) by simp)]
 simp [Nat.add_assoc]
end Go.Proofs.Ytbclejgljegfmaa.Plain
