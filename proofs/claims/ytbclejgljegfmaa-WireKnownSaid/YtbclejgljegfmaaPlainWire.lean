/-
  What the program's functions of wire come to, in plain words: no walk.
-/
import Derived.Test.YtbclejgljegfmaaAp
import Derived.Test.YtbclejgljegfmaaGA
import Derived.Test.YtbclejgljegfmaaGP
import Derived.Test.YtbclejgljegfmaaPlain
namespace Go.Proofs.Ytbclejgljegfmaa.Plain
open Go.RowKit Go.Proofs.Ytbclejgljegfmaa.PAll Go.Proofs.YtbclejgljegfmaaW.PrintWords Go.Proofs.YtbclejgljegfmaaW.PrintLast Go.Proofs.YtbclejgljegfmaaW.PrintMore Go.Proofs.Ytbclejgljegfmaa.Hand

theorem w64 {x : Int} (h0 : -9223372036854775808 ≤ x) (h1 : x ≤ 9223372036854775807) : wrap64 x = x := p236z
theorem wu64 {x : Int} (h0 : 0 ≤ x) (h1 : x < 2 ^ 64) : IntKind.u64.wrap x = x := eM h0 h1
theorem u8_of {x : Int} (h : (Lit.int .u8 x).wf = true) : 0 ≤ x ∧ x ≤ 255 := by
  have h : (decide (0 ≤ x) && decide (x ≤ 255)) = true := h
  simpa using h
theorem u64_of {x : Int} (h : (Lit.int .u64 x).wf = true) : 0 ≤ x ∧ x ≤ 18446744073709551615 := by
  have h : (decide (0 ≤ x) && decide (x ≤ 18446744073709551615)) = true := h
  simpa using h
theorem i64_of {x : Int} (h : (Lit.int .i64 x).wf = true) : -9223372036854775808 ≤ x ∧ x ≤ 9223372036854775807 := by
  have h : (decide (-9223372036854775808 ≤ x) && decide (x ≤ 9223372036854775807)) = true := h
  simpa using h
theorem isB_of {l : List Int} (h : ∀ x ∈ l, (Lit.int .u8 x).wf = true) : isB l = true := by
  simp only [isB, List.all_eq_true, Bool.and_eq_true, decide_eq_true_eq]
  intro x hx
  exact u8_of (h x hx)
theorem cut_f (l : List Int) : bA.f l = some (l.take 400) := by
 unfold bA.f mn
 by_cases h : (400 : Int) < l.length
 case pos =>
  rw [if_pos h, if_pos (by omega), if_pos (by omega)]
  rfl
 rw [if_neg h, if_pos (by omega), if_pos (by omega), Int.toNat_natCast, List.take_of_length_le (Nat.le_refl _), List.take_of_length_le (by omega)]
theorem copy_f {l : List Int} (h : l.length < 140737488355328) : ag.f l = some l := by
  unfold ag.f
  rw [if_pos (by simpa using h)]
  rfl
theorem eq_refl_f (l : List Int) : ab.f l l = some true := by simp [ab.f]
theorem err_cases {l : List Int} (hB : isB l = true) : 0 ≤ (rdn l 0 0).1 ∧ (rdn l 0 0).1 < 2 ^ 64 ∧ ((rdn l 0 0).2.2 = 0 ∨ (rdn l 0 0).2.2 = 3 ∨ (rdn l 0 0).2.2 = 4) := rdn_range l 0 0 hB (by omega) (by omega) (by decide)
theorem cnt_le {l : List Int} (h : (rdn l 0 0).2.2 = 0) : 0 < (rdn l 0 0).2.1 ∧ (rdn l 0 0).2.1 ≤ l.length := by
  generalize hq : rdn l 0 0 = t at *
  obtain ⟨n, c, e⟩ := t
  simp only at h
  subst h
  have := rdn_pre l 0 0 n c hq
  simp only
  omega
theorem body_cnt {w : Int} {r : List Int} (h : (body w r).2.2.2 = 0) : (body w r).2.2.1 ≤ r.length := by
 unfold body at *
 split
 ·rename_i h0
  rw [if_pos h0] at h
  simp only at h ⊢
  exact (cnt_le h).2
 ·rename_i h0
  rw [if_neg h0] at h
  split
  ·rename_i h1
   rw [if_pos h1] at h
   split
   ·simp only; omega
   ·simp
  ·rename_i h1
   rw [if_neg h1] at h
   split
   ·rename_i h2
    rw [if_pos h2] at h
    split
    ·simp
    ·rename_i h3
     rw [if_neg h3] at h
     have := cnt_le (show (rdn r 0 0).2.2 = 0 by omega)
     split
     ·simp
     ·rename_i h4
      split
      ·simp
      ·rename_i h5
       simp only
       omega
   ·rename_i h2
    split
    ·split
     ·simp only; omega
     ·simp
    ·simp
/-- What is told where there is a record. -/
theorem nxt_ok {l : List Int} (h : (nxt l).2.2.2.2.2.2 = 0) : ∃ m : Nat, (nxt l).2.2.2.2.2.1 = (m : Int) ∧ 0 < m ∧ m ≤ l.length ∧ (nxt l).2.2.2.2.1 = l.take m := by
 unfold nxt at *
 split at h
 ·rename_i h0
  exact absurd h h0
 ·rename_i h0
  split at h
  ·simp [noR] at h
  ·rename_i h1
   split at h
   ·rename_i h2
    exact absurd h h2
   ·rename_i h2
    rw [if_neg h0, if_neg h1, if_neg h2]
    have h3 := cnt_le (show (rdn l 0 0).2.2 = 0 by omega)
    have h4 := body_cnt (show (body ((rdn l 0 0).1 % 8) (l.drop (rdn l 0 0).2.1)).2.2.2 = 0 by omega)
    rw [List.length_drop] at h4
    exact ⟨_, rfl, by omega, by omega, rfl⟩
def recOf (t : NextR) : S33 := ⟨t.1, t.2.1, t.2.2.1, t.2.2.2.1, t.2.2.2.2.1⟩
/-- All records of bytes (fuel). -/
def spl : Nat → List Int → List S33 → List S33 × Int
  | 0, _, acc => (acc, 0)
  | m + 1, l, acc => if l.length = 0 then (acc, 0) else if (nxt l).2.2.2.2.2.2 ≠ 0 then ([], (nxt l).2.2.2.2.2.2) else spl m (l.drop (nxt l).2.2.2.2.2.1.toNat) (acc ++ [recOf (nxt l)])
def split (l : List Int) : List S33 × Int := if l.length > 1048576 then ([], 5) else spl (l.length + 1) l []
theorem wsplit_l0 : ∀ (d k m : Nat) (l : List Int) (acc : List S33), isB l = true → l.length ≤ d → d ≤ 1099511627776 → d + 1 ≤ k → d + 1 ≤ m → acc.length + d < 1954687338268 → aN.l0 k l acc = some (spl m l acc)
 | d, k, m, l, acc, hB, hl, hd, hk, hm, ha => by
  obtain ⟨k, rfl⟩ : ∃ q, k = q + 1 := ⟨k - 1, by omega⟩
  obtain ⟨m, rfl⟩ : ∃ q, m = q + 1 := ⟨m - 1, by omega⟩
  simp only [aN.l0, spl]
  by_cases h0 : l.length = 0
  case pos =>
   rw [if_neg (by omega), if_pos h0]
  rw [if_pos (by omega), if_neg h0, wire_Next.f, if_pos ⟨hB, by omega⟩]
  simp only [Option.bind_some]
  by_cases he : (nxt l).2.2.2.2.2.2 = 0
  case neg =>
   rw [if_neg he, if_pos he]
  obtain ⟨n, hn, h1, h2, h3⟩ := nxt_ok he
  obtain ⟨d, rfl⟩ : ∃ q, d = q + 1 := ⟨d - 1, by omega⟩
  rw [if_pos he, if_pos (by omega), if_pos (by omega), if_pos (by omega), if_neg (fun h => h he)]
  exact wsplit_l0 d k m _ _ (isB_drop _ hB) (by rw [List.length_drop, hn]; omega) (by omega) (by omega) (by omega) p243z
theorem wsplit_f {l : List Int} (hB : isB l = true) (hl : l.length ≤ 1099511627776) (k : Nat) (hk : l.length + 1 ≤ k) : aN.f k l = some (split l) := by
 unfold aN.f split
 by_cases h : l.length > 1048576
 case pos =>
  rw [if_pos h, if_pos (by omega)]
 rw [if_neg h, if_neg (by omega)]
 exact wsplit_l0 l.length k _ l [] hB (Nat.le_refl _) hl hk (Nat.le_refl _) p243z
theorem spl_len : ∀ (m : Nat) (l : List Int) (acc : List S33), (spl m l acc).1.length ≤ acc.length + m
 | 0, _, _ => Nat.le_refl _
 | m + 1, l, acc => by
  simp only [spl]
  split
  ·simp only; omega
  ·split
   ·simp
   ·have := spl_len m (l.drop (nxt l).2.2.2.2.2.1.toNat) (acc ++ [recOf (nxt l)])
    rw [List.length_append, List.length_singleton] at this
    omega
theorem split_len (l : List Int) : (split l).1.length ≤ l.length + 1 := by
 unfold split
 split
 ·simp
 ·have := spl_len (l.length + 1) l []
  simpa using this
end Go.Proofs.Ytbclejgljegfmaa.Plain
