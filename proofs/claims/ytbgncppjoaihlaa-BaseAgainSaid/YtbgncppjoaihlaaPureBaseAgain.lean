/-
  The pure statement of BaseAgain.
-/
import Derived.Test.YtbgncppjoaihlaaPAllx3
import Derived.Test.YtbgncppjoaihlaaPlainRef
namespace Go.Proofs.Ytbgncppjoaihlaa.Pure
open Go.RowKit Go.Proofs.Ytbgncppjoaihlaa.PAll Go.Proofs.YtbgncppjoaihlaaW.PrintWords Go.Proofs.YtbgncppjoaihlaaW.PrintLast Go.Proofs.YtbgncppjoaihlaaW.PrintMore Go.Proofs.Ytbgncppjoaihlaa.Hand Go.Proofs.Ytbgncppjoaihlaa.Ref

theorem BaseAgain : signetrylaw15_BaseAgain.Pure := by
  intro s _
  obtain ⟨m0, m1, m2⟩ := mn_cut s.size (m := 400) (by omega)
  obtain ⟨t, ht⟩ : ∃ t, t = s.extract 0 (mn (s.size : Int) 400).toNat := ⟨_, rfl⟩
  have hl : t.size ≤ 400 := by rw [ht, ByteArray.size_extract]; omega
  rw [signetrylaw15_BaseAgain.f, if_pos m0, if_pos m1, ← ht, base_Bytes.f, if_neg (by omega)]
  obtain ⟨d, hd⟩ : ∃ d, d = (collB (bytesOf t) ([], 0, 0)).1 := ⟨_, rfl⟩
  have hdl : d.length ≤ t.size := by
    have := coll_len (bytesOf t) [] 0 0
    rw [← hd, bytesOf_length] at this
    simpa using this
  have hdb : isB d = true := by rw [hd]; exact coll_isB _ _ _ _ rfl
  rw [← hd]
  by_cases h : enc d = bytesOf t
  · rw [if_pos h]
    simp only [Option.bind_some, if_true]
    rw [text_f hdb (by omega), Option.bind_some, if_pos ((cmp_of d t).2 h), works_true]
    rfl
  · rw [if_neg h]
    simp only [Option.bind_some]
    rw [if_neg (by omega)]
    simp only [if_true]
    rw [if_pos (by simp), works_true]
    rfl

end Go.Proofs.Ytbgncppjoaihlaa.Pure
