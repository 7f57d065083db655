/-
  WireAgain: records that Split told make the same bytes again; each is a record that Check takes, and Next tells it again, of all bytes (400 at most).
-/
import Derived.Test.YtbclejgljegfmaaLAgain
import Derived.Test.YtbclejgljegfmaaPlainNxt
namespace Go.Proofs.Ytbclejgljegfmaa.Pure
open Go.RowKit Go.Proofs.Ytbclejgljegfmaa.PAll Go.Proofs.Ytbclejgljegfmaa.Plain Go.Proofs.YtbclejgljegfmaaW.PrintWords Go.Proofs.YtbclejgljegfmaaW.PrintLast Go.Proofs.YtbclejgljegfmaaW.PrintMore Go.Proofs.Ytbclejgljegfmaa.Hand

/-- How much the rounds want, of all records. -/
def big : List S33 → Nat
  | [] => 1
  | r :: l => r.f3.length + r.f4.length + 2 + big l
theorem big_mem {r : S33} : ∀ {l : List S33}, r ∈ l → r.f3.length + r.f4.length + 2 ≤ big l
  | x :: l, h => by
    simp only [big]
    rcases List.mem_cons.1 h with rfl | h
    · omega
    · have := big_mem h
      omega
theorem again_l0 (l : List S33) (hl : l.length ≤ 1099511627776) (hg : ∀ r ∈ l, GoodRec r) : ∀ (d k i : Nat), l.length - i = d → i ≤ l.length → d + 1 + big l ≤ k → signetrylaw01_WireAgain.l0 k l i = some true
  | 0, k, i, hd, hi, hk => by
    obtain ⟨k, rfl⟩ : ∃ q, k = q + 1 := ⟨k - 1, by omega⟩
    simp only [signetrylaw01_WireAgain.l0]
    rw [if_neg (by omega)]
    rfl
  | d + 1, k, i, hd, hi, hk => by
    obtain ⟨k, rfl⟩ : ∃ q, k = q + 1 := ⟨k - 1, by omega⟩
    have h : i < l.length := by omega
    have hx := rdT_eq l i h
    have hm := List.mem_of_getElem? hx
    have ih := again_l0 l hl hg d k (i + 1) (by omega) h (by omega)
    simp only [signetrylaw01_WireAgain.l0]
    rw [if_pos (by omega), if_pos (by omega), w64 (by omega) (by omega), show ((i : Int) + 1) = ((i + 1 : Nat) : Int) by omega]
    generalize rd_T33 l (i : Int) = r at *
    have hG := hg r hm
    obtain ⟨g1, g2, g3, g4⟩ := good_parts hG
    obtain ⟨q1, q2, q3, q4⟩ := isRec_parts g1
    have hb := big_mem hm
    rw [wire_Next.f, if_pos ⟨q2, q4⟩, Option.bind_some, g2]
    simp only [if_true]
    rw [wsame_f _ _ _ _ _ _ _ _ _ _ q3 q4 k (by omega), decide_eq_true rfl, Option.bind_some, if_pos rfl, check_f g1 k (by omega), good_chk hG, Option.bind_some, if_pos rfl]
    by_cases h2 : r.f1 = 2
    · rw [if_pos h2, if_pos (g3 h2)]
      exact ih
    · rw [if_neg h2, if_neg (by rw [g4 h2]; simp)]
      exact ih
theorem WireAgain : signetrylaw01_WireAgain.Pure := by
  intro l0 _ _ hw
  obtain ⟨l, hl⟩ : ∃ l, l = l0.take 400 := ⟨_, rfl⟩
  have hB : isB l = true := by rw [hl]; exact isB_take _ (isB_of hw)
  have hlen : l.length ≤ 400 := by rw [hl, List.length_take]; omega
  refine ⟨((split l).1.length + 1 + big (split l).1) + 500, ?_⟩
  generalize hK : (split l).1.length + 1 + big (split l).1 + 500 = K
  unfold signetrylaw01_WireAgain.f
  rw [cut_f, ← hl, Option.bind_some, wsplit_f hB (by omega) K (by omega), Option.bind_some]
  have hs : split l = spl (l.length + 1) l [] := by
    unfold split
    rw [if_neg (by omega)]
  by_cases he : (split l).2 = 0
  · rw [if_pos he]
    obtain ⟨recs, e1, e2, e3, e4⟩ := spl_ok (l.length + 1) l [] hB (by omega) (by omega) (by rw [← hs]; exact he)
    rw [← hs, List.nil_append] at e1
    rw [e1] at hK ⊢
    have hall : recs.all isRec = true := List.all_eq_true.2 (fun r hr => (good_parts (e4 r hr)).1)
    have hchk : recs.all (fun r => decide (chk r = 0)) = true := List.all_eq_true.2 (fun r hr => decide_eq_true (good_chk (e4 r hr)))
    have hby : wire_Bytes.f recs = some (l, 0) := by
      rw [wire_Bytes.f, if_pos ⟨hall, by omega⟩, if_pos hchk, e2, if_neg (by omega)]
    rw [hby, Option.bind_some]
    simp only [if_true]
    rw [eq_refl_f, Option.bind_some]
    obtain ⟨K, rfl⟩ : ∃ q, K = q + 1 := ⟨K - 1, by omega⟩
    simp only [signetrylaw01_WireAgain.j0]
    rw [if_neg (by simp)]
    exact again_l0 recs (by omega) e4 recs.length K 0 rfl (Nat.zero_le _) (by omega)
  · rw [if_neg he]
    have := spl_bad (l.length + 1) l [] (by rw [← hs]; exact he)
    rw [← hs] at this
    rw [this]
    rfl
end Go.Proofs.Ytbclejgljegfmaa.Pure
