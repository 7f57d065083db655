/-
  The pure statement of BaseBits.
-/
import Derived.Test.YtbgncppjoaihlaaPAllx4
import Derived.Test.YtbgncppjoaihlaaPlainCut
namespace Go.Proofs.Ytbgncppjoaihlaa.Pure
open Go.RowKit Go.Proofs.Ytbgncppjoaihlaa.PAll Go.Proofs.YtbgncppjoaihlaaW.PrintWords Go.Proofs.YtbgncppjoaihlaaW.PrintLast Go.Proofs.YtbgncppjoaihlaaW.PrintMore Go.Proofs.Ytbgncppjoaihlaa.Hand Go.Proofs.Ytbgncppjoaihlaa.Ref

/-- One bit of bytes, the highest ones first. -/
def bitAt (b : List Int) (i : Nat) : Int := b.getD (i / 8) 0 / 2 ^ (7 - i % 8) % 2
theorem get_range {b : List Int} (h : isB b = true) (i : Nat) : 0 ≤ b.getD i 0 ∧ b.getD i 0 ≤ 255 := isB_get h i
theorem and_one (x : Int) (h0 : 0 ≤ x) (h1 : x ≤ 255) : Go.bits .and .u8 x 1 = x % 2 := by
  have : ∀ n : Fin 256, Go.bits .and .u8 (n.1 : Int) 1 = (n.1 : Int) % 2 := by decide +kernel
  have := this ⟨x.toNat, by omega⟩
  simpa [Int.toNat_of_nonneg h0] using this
theorem bits_step (f : Nat) (b : List Int) (s : ByteArray) (k : Nat) (n : Int) (i : Nat) (hb : isB b = true) (hl : b.length ≤ 200) (hk : k ≤ 1000) (hi : i < 6 * k + 6) (hn : 0 ≤ n ∧ n < 1000) :
    signetrylaw15_BaseBits.l0 (f + 1) b s (k : Int) n (i : Int) = signetrylaw15_BaseBits.l0 f b s (k : Int) (2 * n + bitAt b i) ((i + 1 : Nat) : Int) := by
  rw [signetrylaw15_BaseBits.l0]
  rw [w64 (n := 6 * (k : Int)) (by omega) (by omega), w64 (n := 6 * (k : Int) + 6) (by omega) (by omega), if_pos (by omega)]
  rw [w64 (n := 8 * (b.length : Int)) (by omega) (by omega)]
  rw [w64 (n := 2 * n) (by omega) (by omega), w64 (n := (i : Int) + 1) (by omega) (by omega)]
  by_cases h : (i : Int) < 8 * (b.length : Int)
  · have hd : Int.tdiv (i : Int) 8 = ((i / 8 : Nat) : Int) := by rw [tdiv_pos (by omega)]; omega
    have hm : Int.tmod (i : Int) 8 = ((i % 8 : Nat) : Int) := by rw [tmod_pos (by omega)]; omega
    rw [if_pos h, hd, hm, w64 (n := ((i / 8 : Nat) : Int)) (by omega) (by omega), if_pos (by omega), if_pos (by omega)]
    rw [w64 (n := 7 - ((i % 8 : Nat) : Int)) (by omega) (by omega), if_pos (by omega), show (7 : Int) - ((i % 8 : Nat) : Int) = ((7 - i % 8 : Nat) : Int) by omega]
    have hr := get_range hb (i / 8)
    have hrd : rd b ((i / 8 : Nat) : Int) = b.getD (i / 8) 0 := by rw [rd, Int.toNat_natCast]
    rw [hrd]
    obtain ⟨v, hv⟩ : ∃ v, v = b.getD (i / 8) 0 := ⟨_, rfl⟩
    have hp : (0 : Int) < 2 ^ (7 - i % 8) := Int.pow_pos (by omega)
    have hsh : shr .u8 v ((7 - i % 8 : Nat) : Int) = v / 2 ^ (7 - i % 8) := by
      unfold shr
      rw [Int.toNat_natCast, Nat.min_eq_left (show 7 - i % 8 ≤ IntKind.u8.bits from Nat.le_trans (by omega) (show 7 ≤ IntKind.u8.bits by decide))]
    have hq0 : 0 ≤ v / 2 ^ (7 - i % 8) := Int.ediv_nonneg (by omega) (by omega)
    have hq1 : v / 2 ^ (7 - i % 8) ≤ v := Int.ediv_le_self _ (by omega)
    rw [← hv] at hr ⊢
    rw [hsh, and_one _ hq0 (by omega), w64 (n := v / 2 ^ (7 - i % 8) % 2) (by omega) (by omega), w64 (by omega) (by omega)]
    rw [bitAt, ← hv]
    rfl
  · rw [if_neg h]
    have : bitAt b i = 0 := by
      rw [bitAt, List.getD_eq_getElem?_getD, List.getElem?_eq_none (by omega)]
      simp
    rw [this, Int.add_zero]
    rfl
theorem bits_end (f : Nat) (b : List Int) (s : ByteArray) (k : Nat) (n : Int) (hl : b.length ≤ 200) (hk : k < s.size) (hk2 : k ≤ 1000) (hn : 0 ≤ n ∧ n < 64) (hs : bt s (k : Int) = if 8 * b.length ≤ 6 * k then 61 else lt n) :
    signetrylaw15_BaseBits.l0 (f + 1) b s (k : Int) n ((6 * k + 6 : Nat) : Int) = some true := by
  rw [signetrylaw15_BaseBits.l0]
  rw [w64 (n := 6 * (k : Int)) (by omega) (by omega), w64 (n := 6 * (k : Int) + 6) (by omega) (by omega), if_neg (by omega)]
  rw [w64 (n := 8 * (b.length : Int)) (by omega) (by omega), if_pos (by omega), if_pos (by omega)]
  by_cases h : 8 * b.length ≤ 6 * k
  · rw [if_pos h] at hs
    rw [if_pos (by omega), if_pos (by omega), if_pos (by omega), if_pos hs, works_true]
    rfl
  · rw [if_neg h] at hs
    rw [if_neg (by omega), if_pos (by omega), if_pos (by omega), works_true]
    split
    · rfl
    · rename_i hne
      exact absurd hs hne
theorem bit_range (b : List Int) (i : Nat) : 0 ≤ bitAt b i ∧ bitAt b i ≤ 1 := by unfold bitAt; omega
theorem six (b : List Int) (m r : Nat) (hr : r < 4) (hb : isB b = true) :
    2 * (2 * (2 * (2 * (2 * (2 * 0 + bitAt b (24 * m + 6 * r)) + bitAt b (24 * m + 6 * r + 1)) + bitAt b (24 * m + 6 * r + 2)) + bitAt b (24 * m + 6 * r + 3)) + bitAt b (24 * m + 6 * r + 4)) + bitAt b (24 * m + 6 * r + 5)
      = if r = 0 then b.getD (3 * m) 0 / 4 else if r = 1 then b.getD (3 * m) 0 % 4 * 16 + b.getD (3 * m + 1) 0 / 16 else if r = 2 then b.getD (3 * m + 1) 0 % 16 * 4 + b.getD (3 * m + 2) 0 / 64 else b.getD (3 * m + 2) 0 % 64 := by
  have h0 := get_range hb (3 * m)
  have h1 := get_range hb (3 * m + 1)
  have h2 := get_range hb (3 * m + 2)
  have g : ∀ (q t : Nat), t < 8 → bitAt b (24 * m + (8 * q + t)) = b.getD (3 * m + q) 0 / 2 ^ (7 - t) % 2 := by
    intro q t ht
    rw [bitAt, show (24 * m + (8 * q + t)) / 8 = 3 * m + q by omega, show (24 * m + (8 * q + t)) % 8 = t by omega]
  have h4 : r = 0 ∨ r = 1 ∨ r = 2 ∨ r = 3 := by omega
  rcases h4 with rfl | rfl | rfl | rfl
  · rw [show 24 * m + 6 * 0 = 24 * m + (8 * 0 + 0) by omega, show 24 * m + (8 * 0 + 0) + 1 = 24 * m + (8 * 0 + 1) by omega, show 24 * m + (8 * 0 + 0) + 2 = 24 * m + (8 * 0 + 2) by omega, show 24 * m + (8 * 0 + 0) + 3 = 24 * m + (8 * 0 + 3) by omega, show 24 * m + (8 * 0 + 0) + 4 = 24 * m + (8 * 0 + 4) by omega, show 24 * m + (8 * 0 + 0) + 5 = 24 * m + (8 * 0 + 5) by omega]
    rw [g 0 0 (by omega), g 0 1 (by omega), g 0 2 (by omega), g 0 3 (by omega), g 0 4 (by omega), g 0 5 (by omega), if_pos rfl, Nat.add_zero]
    omega
  · rw [show 24 * m + 6 * 1 + 1 = 24 * m + (8 * 0 + 7) by omega, show 24 * m + 6 * 1 + 2 = 24 * m + (8 * 1 + 0) by omega, show 24 * m + 6 * 1 + 3 = 24 * m + (8 * 1 + 1) by omega, show 24 * m + 6 * 1 + 4 = 24 * m + (8 * 1 + 2) by omega, show 24 * m + 6 * 1 + 5 = 24 * m + (8 * 1 + 3) by omega, show 24 * m + 6 * 1 = 24 * m + (8 * 0 + 6) by omega]
    rw [g 0 6 (by omega), g 0 7 (by omega), g 1 0 (by omega), g 1 1 (by omega), g 1 2 (by omega), g 1 3 (by omega), if_neg (by omega), if_pos rfl, Nat.add_zero]
    omega
  · rw [show 24 * m + 6 * 2 + 1 = 24 * m + (8 * 1 + 5) by omega, show 24 * m + 6 * 2 + 2 = 24 * m + (8 * 1 + 6) by omega, show 24 * m + 6 * 2 + 3 = 24 * m + (8 * 1 + 7) by omega, show 24 * m + 6 * 2 + 4 = 24 * m + (8 * 2 + 0) by omega, show 24 * m + 6 * 2 + 5 = 24 * m + (8 * 2 + 1) by omega, show 24 * m + 6 * 2 = 24 * m + (8 * 1 + 4) by omega]
    rw [g 1 4 (by omega), g 1 5 (by omega), g 1 6 (by omega), g 1 7 (by omega), g 2 0 (by omega), g 2 1 (by omega), if_neg (by omega), if_neg (by omega), if_pos rfl]
    omega
  · rw [show 24 * m + 6 * 3 + 1 = 24 * m + (8 * 2 + 3) by omega, show 24 * m + 6 * 3 + 2 = 24 * m + (8 * 2 + 4) by omega, show 24 * m + 6 * 3 + 3 = 24 * m + (8 * 2 + 5) by omega, show 24 * m + 6 * 3 + 4 = 24 * m + (8 * 2 + 6) by omega, show 24 * m + 6 * 3 + 5 = 24 * m + (8 * 2 + 7) by omega, show 24 * m + 6 * 3 = 24 * m + (8 * 2 + 2) by omega]
    rw [g 2 2 (by omega), g 2 3 (by omega), g 2 4 (by omega), g 2 5 (by omega), g 2 6 (by omega), g 2 7 (by omega), if_neg (by omega), if_neg (by omega), if_neg (by omega)]
    omega

theorem BaseBits : signetrylaw15_BaseBits.Pure := by
  intro l0 a1 _ _ hw _
  obtain ⟨m0, m1, m2⟩ := mn_cut l0.length (m := 200) (by omega)
  obtain ⟨b, hbe⟩ : ∃ b, b = l0.take (mn (l0.length : Int) 200).toNat := ⟨_, rfl⟩
  have hb : isB b = true := by rw [hbe]; exact isB_take (isB_of hw) _
  have hl : b.length ≤ 200 := by rw [hbe, List.length_take]; omega
  refine ⟨7, ?_⟩
  rw [signetrylaw15_BaseBits.f, if_pos m0, if_pos m1, ← hbe, text_f hb (by omega), Option.bind_some]
  obtain ⟨s, hs⟩ : ∃ s, s = strOfNums (enc b) := ⟨_, rfl⟩
  have hsz : s.size = (b.length + 2) / 3 * 4 := by rw [hs, enc_size]
  rw [← hs]
  by_cases h0 : (s.size : Int) = 0
  · rw [if_pos h0, if_pos (by omega), works_true]
    rfl
  · rw [if_neg h0]
    obtain ⟨k, hk, hkl⟩ := bring_some a1 s.size (by omega) (by omega)
    obtain ⟨m, r, hr, hkm⟩ : ∃ m r, r < 4 ∧ k = 4 * m + r := ⟨k / 4, k % 4, by omega, by omega⟩
    rw [hk, Option.bind_some, w64 (by omega) (by omega), show 6 * (k : Int) = ((6 * k : Nat) : Int) by omega]
    have b0 := bit_range b (6 * k)
    have b1 := bit_range b (6 * k + 1)
    have b2 := bit_range b (6 * k + 1 + 1)
    have b3 := bit_range b (6 * k + 1 + 1 + 1)
    have b4 := bit_range b (6 * k + 1 + 1 + 1 + 1)
    have b5 := bit_range b (6 * k + 1 + 1 + 1 + 1 + 1)
    rw [bits_step _ _ _ _ _ _ hb hl (by omega) (by omega) (by omega), bits_step _ _ _ _ _ _ hb hl (by omega) (by omega) (by omega), bits_step _ _ _ _ _ _ hb hl (by omega) (by omega) (by omega), bits_step _ _ _ _ _ _ hb hl (by omega) (by omega) (by omega), bits_step _ _ _ _ _ _ hb hl (by omega) (by omega) (by omega), bits_step _ _ _ _ _ _ hb hl (by omega) (by omega) (by omega)]
    refine bits_end _ _ _ _ _ hl hkl (by omega) (by omega) ?_
    have h6 := six b m r hr hb
    rw [show 24 * m + 6 * r = 6 * k by omega] at h6
    simp only [Nat.add_assoc, Nat.reduceAdd] at h6 ⊢
    rw [h6, hs, bt_enc, hkm, enc_get m b r hr (by rw [enc_length]; omega), letterAt]
    have h4 : r = 0 ∨ r = 1 ∨ r = 2 ∨ r = 3 := by omega
    rcases h4 with rfl | rfl | rfl | rfl
    · rw [if_pos rfl, if_neg (by omega), if_pos rfl]
    · rw [if_neg (by omega), if_pos rfl, if_neg (by omega), if_neg (by omega), if_pos rfl]
    · rw [if_neg (by omega), if_neg (by omega), if_pos rfl]
      by_cases hn : b.length - 3 * m ≤ 1
      · rw [if_pos hn, if_pos (by omega)]
      · rw [if_neg hn, if_neg (by omega), if_neg (by omega), if_neg (by omega), if_pos rfl]
    · rw [if_neg (by omega), if_neg (by omega), if_neg (by omega)]
      by_cases hn : b.length - 3 * m ≤ 2
      · rw [if_pos hn, if_pos (by omega)]
      · rw [if_neg hn, if_neg (by omega), if_neg (by omega), if_neg (by omega), if_neg (by omega)]

end Go.Proofs.Ytbgncppjoaihlaa.Pure
