/-
  The pure statement of BaseReads.
-/
import Derived.Test.YtbgncppjoaihlaaPAllx3
import Derived.Test.YtbgncppjoaihlaaPlainRefB
namespace Go.Proofs.Ytbgncppjoaihlaa.Pure
open Go.RowKit Go.Proofs.Ytbgncppjoaihlaa.PAll Go.Proofs.YtbgncppjoaihlaaW.PrintWords Go.Proofs.YtbgncppjoaihlaaW.PrintLast Go.Proofs.YtbgncppjoaihlaaW.PrintMore Go.Proofs.Ytbgncppjoaihlaa.Hand Go.Proofs.Ytbgncppjoaihlaa.Ref

theorem BaseReads : signetrylaw15_BaseReads.Pure := by
  intro s _
  obtain ⟨m0, m1, m2⟩ := mn_cut s.size (m := 400) (by omega)
  obtain ⟨t, ht⟩ : ∃ t, t = s.extract 0 (mn (s.size : Int) 400).toNat := ⟨_, rfl⟩
  have hl : t.size ≤ 400 := by rw [ht, ByteArray.size_extract]; omega
  obtain ⟨K, hK⟩ := ref_bytes t (by omega)
  refine ⟨K, ?_⟩
  rw [signetrylaw15_BaseReads.f, if_pos m0, if_pos m1, ← ht, hK K (Nat.le_refl _)]
  obtain ⟨d, e, hd⟩ := bytes_some t
  rw [hd]
  simp only [Option.bind_some, signetryref00_EqBytes.f, beq_self_eq_true, if_true, works_true]

end Go.Proofs.Ytbgncppjoaihlaa.Pure
