/-
  The pure statement of BaseTurned.
-/
import Derived.Test.YtbgncppjoaihlaaPAllx5
import Derived.Test.YtbgncppjoaihlaaPlainCut
namespace Go.Proofs.Ytbgncppjoaihlaa.Pure
open Go.RowKit Go.Proofs.Ytbgncppjoaihlaa.PAll Go.Proofs.YtbgncppjoaihlaaW.PrintWords Go.Proofs.YtbgncppjoaihlaaW.PrintLast Go.Proofs.YtbgncppjoaihlaaW.PrintMore Go.Proofs.Ytbgncppjoaihlaa.Hand Go.Proofs.Ytbgncppjoaihlaa.Ref

theorem sizes {k n : Nat} (h : k < n) (hn : n ≤ 1000) : k + 1 ≤ 9223372036854775807 ∧ k + 1 + (n - (k + 1)) ≤ 9223372036854775807 ∧ k + 1 + (n - (k + 1)) = n := by omega
theorem BaseTurned : signetrylaw15_BaseTurned.Pure := by
  intro l0 a1 c _ _ hw _ hc
  obtain ⟨m0, m1, m2⟩ := mn_cut l0.length (m := 200) (by omega)
  obtain ⟨b, hbe⟩ : ∃ b, b = l0.take (mn (l0.length : Int) 200).toNat := ⟨_, rfl⟩
  have hb : isB b = true := by rw [hbe]; exact isB_take (isB_of hw) _
  have hl : b.length ≤ 200 := by rw [hbe, List.length_take]; omega
  have hcr : 0 ≤ c ∧ c ≤ 255 := (isB_cons (isB_of (l := [c]) (by intro x hx; rw [List.mem_singleton] at hx; rw [hx]; exact hc))).imp id And.left
  rw [signetrylaw15_BaseTurned.f, if_pos m0, if_pos m1, ← hbe, text_f hb (by omega), Option.bind_some]
  obtain ⟨s, hs⟩ : ∃ s, s = strOfNums (enc b) := ⟨_, rfl⟩
  have hsz : s.size = (b.length + 2) / 3 * 4 := by rw [hs, enc_size]
  have hsb : bytesOf s = enc b := by rw [hs, enc_bytes]
  rw [← hs]
  by_cases h0 : (s.size : Int) = 0
  · rw [if_pos h0, works_true]
    rfl
  · rw [if_neg h0]
    obtain ⟨k, hk, hkl⟩ := bring_some a1 s.size (by omega) (by omega)
    have e1 : (s.extract 0 k).size = k := by rw [ByteArray.size_extract, Nat.sub_zero, Nat.min_eq_left (Nat.le_of_lt hkl)]
    have e2 : (strOfNums [c]).size = 1 := by rw [strOfNums_size]; rfl
    have e3 : wrap64 ((k : Int) + 1) = ((k + 1 : Nat) : Int) := by rw [w64 (by omega) (by omega)]; rfl
    have e4 : (s.extract (k + 1) s.size).size = s.size - (k + 1) := by rw [ByteArray.size_extract, Nat.min_self]
    have hs8 : s.size ≤ 1000 := by omega
    have e5 : (s.extract 0 k ++ strOfNums [c]).size = k + 1 := by rw [ByteArray.size_append, e1, e2]
    rw [hk, Option.bind_some, if_pos (Int.natCast_nonneg k), if_pos (Int.ofNat_le.2 (Nat.le_of_lt hkl)), Option.bind_some, e3, Int.toNat_natCast, Int.toNat_natCast]
    rw [if_pos (by rw [e1, e2]; exact (sizes hkl hs8).1), if_pos (Int.natCast_nonneg (k + 1)), if_pos (Int.ofNat_le.2 hkl), if_pos (by rw [e5, e4]; exact (sizes hkl hs8).2.1)]
    obtain ⟨t, ht⟩ : ∃ t, t = s.extract 0 k ++ strOfNums [c] ++ s.extract (k + 1) s.size := ⟨_, rfl⟩
    rw [← ht]
    have htb : bytesOf t = (enc b).take k ++ c :: (enc b).drop (k + 1) := by
      rw [ht, bytesOf_append, bytesOf_append, bytesOf_extract, bytesOf_extract, hsb, bytesOf_strOfNums (by intro x hx; rw [List.mem_singleton] at hx; omega)]
      rw [List.take_of_length_le (i := s.size) (by rw [enc_length]; omega)]
      simp
    have htz : t.size = s.size := by rw [ht, ByteArray.size_append, e5, e4]; exact (sizes hkl hs8).2.2
    have hlen : k < (enc b).length := by rw [enc_length, ← hsz]; exact hkl
    clear e1 e2 e3 e4 e5
    have hbt : bt s (k : Int) = (enc b)[k] := by rw [hs, bt_enc, List.getD_eq_getElem?_getD, List.getElem?_eq_getElem hlen]; rfl
    by_cases hcc : bt s (k : Int) = c
    · have hts : t = s := bytes_inj (by
        rw [htb, hsb, ← hcc, hbt, ← List.drop_eq_getElem_cons hlen, List.take_append_drop])
      rw [hts, hs, bytes_text hb (by omega), Option.bind_some, if_pos (by rw [← hs]; omega), if_pos (by rw [← hs]; exact hcc)]
      simp only [if_true, signetryref00_EqBytes.f, beq_self_eq_true, Option.bind_some, works_true]
    · rw [base_Bytes.f, if_neg (by omega)]
      obtain ⟨d, hd⟩ : ∃ d, d = (collB (bytesOf t) ([], 0, 0)).1 := ⟨_, rfl⟩
      have hdb : isB d = true := by rw [hd]; exact coll_isB _ _ _ _ rfl
      rw [← hd]
      by_cases h : enc d = bytesOf t
      · rw [if_pos h, Option.bind_some, if_pos (by omega), if_neg hcc, if_neg (by omega), if_pos rfl, signetryref00_EqBytes.f, Option.bind_some]
        have hne : ((strOfNums d).toList == (strOfNums b).toList) = false := Bool.eq_false_iff.2 fun e => by
          have := (eqBytes_iff hdb hb).1 e
          rw [this, htb] at h
          have h2 := congrArg (fun l : List Int => l[k]?) h
          simp only [List.getElem?_append, List.length_take, Nat.min_eq_left (Nat.le_of_lt hlen), Nat.lt_irrefl, if_false, Nat.sub_self, List.getElem?_cons_zero, List.getElem?_eq_getElem hlen] at h2
          injection h2 with h2
          exact hcc (hbt.trans h2)
        rw [hne, if_neg (by decide), works_true]
        rfl
      · rw [if_neg h, Option.bind_some, if_pos (by omega), if_neg hcc, if_pos rfl, works_true]
        rfl

end Go.Proofs.Ytbgncppjoaihlaa.Pure
