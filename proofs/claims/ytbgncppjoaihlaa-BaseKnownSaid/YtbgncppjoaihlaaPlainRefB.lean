/-
  The document's Bytes, as a plain law: it reads as collB does.
-/
import Derived.Test.YtbgncppjoaihlaaPAllx3
import Derived.Test.YtbgncppjoaihlaaPlainRef
namespace Go.Proofs.Ytbgncppjoaihlaa.Ref
set_option linter.unusedSimpArgs false
open Go.RowKit Go.Proofs.Ytbgncppjoaihlaa.PAll Go.Proofs.YtbgncppjoaihlaaW.PrintWords Go.Proofs.YtbgncppjoaihlaaW.PrintLast Go.Proofs.YtbgncppjoaihlaaW.PrintMore Go.Proofs.Ytbgncppjoaihlaa.Hand

/-- What is said of the bytes read. -/
def said (s : ByteArray) (d : List Int) : Option (List Int × Int) := if enc d = bytesOf s then some (d, 0) else some ([], 4)
theorem said_of (s : ByteArray) (d : List Int) (hd : isB d = true) (hl : d.length ≤ 1099511627700) :
    ∃ K, ∀ k, K ≤ k → ((signetryref15_Text.f k d).bind fun t => if t.toList = s.toList then some (d, 0) else some (([] : List Int), (4 : Int))) = said s d := by
  obtain ⟨K, hK⟩ := ref_text hd hl
  refine ⟨K, fun k hk => ?_⟩
  rw [hK k hk, Option.bind_some, said]
  by_cases h : enc d = bytesOf s
  · rw [if_pos h, if_pos ((cmp_of d s).2 h)]
  · rw [if_neg h, if_neg fun e => h ((cmp_of d s).1 e)]
theorem ref_bytes_at (s : ByteArray) (hs : s.size ≤ 2097152) : ∀ (n i : Nat) (L : List Int) (nn : Int) (mm : Nat), s.size - i ≤ n → i ≤ s.size → isB L = true → L.length ≤ i →
    (mm = 0 ∧ nn = 0 ∨ mm = 2 ∧ 0 ≤ nn ∧ nn < 4 ∨ mm = 4 ∧ 0 ≤ nn ∧ nn < 16 ∨ mm = 6 ∧ 0 ≤ nn ∧ nn < 64) →
    ∃ K, ∀ k, K ≤ k → signetryref15_Bytes.l0 k s L nn (mm : Int) (i : Int) = said s (collB ((bytesOf s).drop i) (L, nn, mm)).1 := by
  intro n
  induction n with
  | zero =>
    intro i L nn mm hn hi hL hl _
    obtain ⟨K, hK⟩ := said_of s L hL (by omega)
    refine ⟨K + 1, fun k hk => ?_⟩
    obtain ⟨k, rfl⟩ : ∃ k', k = k' + 1 := ⟨k - 1, by omega⟩
    rw [signetryref15_Bytes.l0, if_neg (by omega), hK k (by omega), List.drop_of_length_le (by rw [bytesOf_length]; omega), collB]
  | succ n ih =>
    intro i L nn mm hn hi hL hl hm
    by_cases hlt : i < s.size
    · have hc := bytes_drop s i hlt
      have hbt : bt s (i : Int) = ((s[i]'hlt).toNat : Int) := (bt_at s (i : Int) (by simpa using hlt)).symm
      have hbr := bt_range s (i : Int)
      rw [hc, coll_at rfl]
      rw [hbt] at hbr
      by_cases hpos : 0 < tbUpto 64 (s[i]'hlt).toNat
      · rw [if_pos hpos]
        obtain ⟨x0, x1⟩ := tnum_range hpos
        obtain ⟨x, hx⟩ : ∃ x, x = tnum (s[i]'hlt).toNat := ⟨_, rfl⟩
        rw [← hx] at x0 x1 ⊢
        have hy0 : 0 ≤ nn * 64 + x ∧ nn * 64 + x < 4096 := by omega
        obtain ⟨y, hy⟩ : ∃ y, y = nn * 64 + x := ⟨_, rfl⟩
        rw [← hy] at hy0
        by_cases h0 : mm = 0
        · subst h0
          have hnn : nn = 0 := by omega
          obtain ⟨K, hK⟩ := ih (i + 1) L y 6 (by omega) (by omega) hL (by omega) (by omega)
          refine ⟨K + 67, fun k hk => ?_⟩
          obtain ⟨k, rfl⟩ : ∃ k', k = k' + 1 := ⟨k - 1, by omega⟩
          rw [signetryref15_Bytes.l0, if_pos (by omega), if_pos (by omega), hbt, ref_number (by omega) (by omega) (by omega), Int.toNat_natCast, ← hx, Option.bind_some, if_neg (by omega)]
          rw [w64 (n := ((0 : Nat) : Int) + 6) (by omega) (by omega), if_neg (by omega)]
          rw [w64 (n := 64 * nn) (by omega) (by omega), w64 (n := 64 * nn + x) (by omega) (by omega), w64 (n := (i : Int) + 1) (by omega) (by omega)]
          rw [step0, ← hy]
          have := hK k (by omega)
          rw [show 64 * nn + x = y by omega]
          exact this
        · rw [stepB_more h0, ← hy]
          have hmm : mm = 2 ∨ mm = 4 ∨ mm = 6 := by omega
          have hlow := low_bits (y := y) hm (by omega) hy
          obtain ⟨K, hK⟩ := ih (i + 1) (L ++ [y / 2 ^ (mm - 2) % 256]) (y % 2 ^ (mm - 2)) (mm - 2) (by omega) (by omega) (isB_append hL (by unfold isB; simp; omega)) (by simp; omega) hlow
          refine ⟨K + 67, fun k hk => ?_⟩
          obtain ⟨k, rfl⟩ : ∃ k', k = k' + 1 := ⟨k - 1, by omega⟩
          rw [signetryref15_Bytes.l0, if_pos (by omega), if_pos (by omega), hbt, ref_number (by omega) (by omega) (by omega), Int.toNat_natCast, ← hx, Option.bind_some, if_neg (by omega)]
          rw [w64 (n := (mm : Int) + 6) (by omega) (by omega), if_pos (by omega), w64 (n := (mm : Int) + 6 - 8) (by omega) (by omega), if_pos (by omega)]
          rw [w64 (n := 64 * nn) (by omega) (by omega), w64 (n := 64 * nn + x) (by omega) (by omega), w64 (n := (i : Int) + 1) (by omega) (by omega)]
          rw [show (mm : Int) + 6 - 8 = ((mm - 2 : Nat) : Int) by omega, shl1 _ (by omega), shrn _ _ (by omega), if_pos (by omega), show 64 * nn + x = y by omega, tmod_pos (n := y) (by omega)]
          rw [if_neg (by have : (0 : Int) < 2 ^ (mm - 2) := Int.pow_pos (by omega)
                         omega)]
          exact hK k (by omega)
      · rw [if_neg hpos]
        obtain ⟨K, hK⟩ := said_of s L hL (by omega)
        refine ⟨K + 67, fun k hk => ?_⟩
        obtain ⟨k, rfl⟩ : ∃ k', k = k' + 1 := ⟨k - 1, by omega⟩
        rw [signetryref15_Bytes.l0, if_pos (by omega), if_pos (by omega), hbt, ref_number (by omega) (by omega) (by omega), Int.toNat_natCast, Option.bind_some, if_pos (by unfold tnum; omega), hK k (by omega)]
    · obtain ⟨K, hK⟩ := said_of s L hL (by omega)
      refine ⟨K + 1, fun k hk => ?_⟩
      obtain ⟨k, rfl⟩ : ∃ k', k = k' + 1 := ⟨k - 1, by omega⟩
      rw [signetryref15_Bytes.l0, if_neg (by omega), hK k (by omega), List.drop_of_length_le (by rw [bytesOf_length]; omega), collB]
theorem ref_bytes (s : ByteArray) (hs : s.size ≤ 2097152) : ∃ K, ∀ k, K ≤ k → signetryref15_Bytes.f k s = base_Bytes.f s := by
  obtain ⟨K, hK⟩ := ref_bytes_at s hs s.size 0 [] 0 0 (by omega) (by omega) rfl (by simp) (by omega)
  refine ⟨K, fun k hk => ?_⟩
  rw [signetryref15_Bytes.f, if_neg (by omega), base_Bytes.f, if_neg (by omega)]
  have := hK k hk
  rw [List.drop_zero] at this
  exact this
end Go.Proofs.Ytbgncppjoaihlaa.Ref
