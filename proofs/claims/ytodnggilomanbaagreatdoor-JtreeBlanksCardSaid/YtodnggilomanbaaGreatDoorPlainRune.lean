/-
  Runes written and read again: no walk.
-/
import Derived.Test.YtodnggilomanbaaGreatDoorHandParse
import Derived.Lib.ValidLaws
namespace Go.Proofs.YtodnggilomanbaaGreatDoor.Pure
open Go.RowKit Go.Lib Go.Proofs.YtodnggilomanbaaGreatDoor.PAll Go.Proofs.YtodnggilomanbaaGreatDoorW.PrintWords Go.Proofs.YtodnggilomanbaaGreatDoorW.PrintLast Go.Proofs.YtodnggilomanbaaGreatDoorW.PrintMore Go.Proofs.YtodnggilomanbaaGreatDoor.Hand
set_option linter.unusedVariables false
set_option linter.unusedSimpArgs false

theorem u8s_append (a b : List Int) : u8s (a ++ b) = u8s a ++ u8s b := by simp [u8s]
theorem isRn_of {r : Int} (h : isRn r = true) : (0 ≤ r ∧ r < 55296) ∨ (57343 < r ∧ r ≤ 1114111) := by
  simpa [isRn] using h
theorem toNat_of {x : Int} (h0 : 0 ≤ x) (h1 : x < 256) : (UInt8.ofNat x.toNat).toNat = x.toNat := by
  rw [UInt8.toNat_ofNat']
  omega
theorem dec_enc {r : Int} (h : isRn r = true) (rest : List UInt8) : decodeL (u8s (encodeRuneZ r) ++ rest) = (r.toNat, (encodeRuneZ r).length) := by
  have h := isRn_of h
  rw [decodeL_N]
  by_cases c1 : r ≤ 127
  · rw [encodeRuneZ_one (by omega) c1]
    simp only [u8s, List.map_cons, List.map_nil, List.cons_append, List.nil_append, List.getD_cons_zero, toNat_of (x := r) (by omega) (by omega)]
    unfold decodeN
    rw [if_pos (by omega)]
    rfl
  · by_cases c2 : r ≤ 2047
    · rw [encodeRuneZ_two (by omega) c2]
      simp only [u8s, List.map_cons, List.map_nil, List.cons_append, List.nil_append, List.getD_cons_zero, List.getD_cons_succ, List.length_cons, toNat_of (x := 192 + r / 64) (by omega) (by omega), toNat_of (x := 128 + r % 64) (by omega) (by omega)]
      unfold decodeN
      rw [if_neg (by omega), if_pos ⟨by omega, by omega, by omega⟩, if_pos (by omega)]
      simp only [Prod.mk.injEq]
      exact ⟨by omega, by simp⟩
    · by_cases c3 : r ≤ 65535
      · rw [encodeRuneZ_three (by omega)]
        simp only [u8s, List.map_cons, List.map_nil, List.cons_append, List.nil_append, List.getD_cons_zero, List.getD_cons_succ, List.length_cons, toNat_of (x := 224 + r / 4096) (by omega) (by omega), toNat_of (x := 128 + r / 64 % 64) (by omega) (by omega), toNat_of (x := 128 + r % 64) (by omega) (by omega)]
        unfold decodeN
        rw [if_neg (by omega), if_neg (by omega), if_pos ⟨by omega, ⟨by omega, by omega⟩, by omega, by omega⟩]
        have e : (224 + r / 4096).toNat % 16 * 4096 + (128 + r / 64 % 64).toNat % 64 * 64 + (128 + r % 64).toNat % 64 = r.toNat := by omega
        rw [e, if_pos ⟨by omega, by omega⟩]
        rfl
      · rw [encodeRuneZ_four (by omega) (by omega)]
        simp only [u8s, List.map_cons, List.map_nil, List.cons_append, List.nil_append, List.getD_cons_zero, List.getD_cons_succ, List.length_cons, toNat_of (x := 240 + r / 262144) (by omega) (by omega), toNat_of (x := 128 + r / 4096 % 64) (by omega) (by omega), toNat_of (x := 128 + r / 64 % 64) (by omega) (by omega), toNat_of (x := 128 + r % 64) (by omega) (by omega)]
        unfold decodeN
        rw [if_neg (by omega), if_neg (by omega), if_neg (by omega), if_pos ⟨by omega, ⟨by omega, by omega⟩, ⟨by omega, by omega⟩, by omega, by omega⟩]
        have e : (240 + r / 262144).toNat % 8 * 262144 + (128 + r / 4096 % 64).toNat % 64 * 4096 + (128 + r / 64 % 64).toNat % 64 * 64 + (128 + r % 64).toNat % 64 = r.toNat := by omega
        rw [e, if_pos ⟨by omega, by omega⟩]
        rfl
theorem u8s_len (l : List Int) : (u8s l).length = l.length := by simp [u8s]
theorem enc_not_bad {r : Int} (h : isRn r = true) : ¬ (r.toNat = 65533 ∧ (encodeRuneZ r).length = 1) := by
  rintro ⟨h1, h2⟩
  obtain rfl : r = 65533 := by omega
  rw [encodeRuneZ_three (by omega)] at h2
  simp at h2
theorem enc_ne {r : Int} (rest : List UInt8) : u8s (encodeRuneZ r) ++ rest ≠ [] := by
  intro e
  have h1 := congrArg List.length e
  have h2 := (encodeRuneZ_length r).1
  rw [List.length_append, u8s_len, List.length_nil] at h1
  omega
theorem enc_drop (r : Int) (rest : List UInt8) : (u8s (encodeRuneZ r) ++ rest).drop (encodeRuneZ r).length = rest := by
  rw [List.drop_append, u8s_len]
  simp [List.drop_of_length_le, u8s_len]
def encs8 (rs : List Int) : List Int := rs.flatMap encodeRuneZ
theorem encs8_cons (r : Int) (rs : List Int) : u8s (encs8 (r :: rs)) = u8s (encodeRuneZ r) ++ u8s (encs8 rs) := by rw [encs8, List.flatMap_cons, u8s_append]; rfl
theorem valid_enc : ∀ rs : List Int, (∀ r ∈ rs, isRn r = true) → validD (u8s (encs8 rs)) = true
  | [], _ => by simp [encs8, u8s, validD_nil]
  | r :: rs, h => by
    have hr := h r (by simp)
    rw [encs8_cons, validD_step _ (enc_ne _), dec_enc hr, if_neg (enc_not_bad hr), enc_drop]
    exact valid_enc rs (fun x hx => h x (by simp [hx]))
theorem encs8_len : ∀ rs : List Int, rs.length ≤ (encs8 rs).length ∧ (encs8 rs).length ≤ 4 * rs.length
  | [] => by simp [encs8]
  | r :: rs => by
    have := encs8_len rs
    have h2 := encodeRuneZ_length r
    have e : encs8 (r :: rs) = encodeRuneZ r ++ encs8 rs := rfl
    rw [e, List.length_append, List.length_cons]
    omega
theorem encs8_isBy : ∀ rs : List Int, isBy (encs8 rs) = true := by
  intro rs
  refine List.all_eq_true.2 fun x hx => ?_
  simp only [encs8, List.mem_flatMap] at hx
  obtain ⟨r, _, hx⟩ := hx
  have := encodeRuneZ_byte r x hx
  simp
  omega
end Go.Proofs.YtodnggilomanbaaGreatDoor.Pure
