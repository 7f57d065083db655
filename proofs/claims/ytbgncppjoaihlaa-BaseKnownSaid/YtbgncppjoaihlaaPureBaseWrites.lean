/-
  The pure statement of BaseWrites.
-/
import Derived.Test.YtbgncppjoaihlaaPAllx2
import Derived.Test.YtbgncppjoaihlaaPlainRef
namespace Go.Proofs.Ytbgncppjoaihlaa.Pure
open Go.RowKit Go.Proofs.Ytbgncppjoaihlaa.PAll Go.Proofs.YtbgncppjoaihlaaW.PrintWords Go.Proofs.YtbgncppjoaihlaaW.PrintLast Go.Proofs.YtbgncppjoaihlaaW.PrintMore Go.Proofs.Ytbgncppjoaihlaa.Hand Go.Proofs.Ytbgncppjoaihlaa.Ref

theorem BaseWrites : signetrylaw15_BaseWrites.Pure := by
  intro l0 a1 _ _ hw _
  obtain ⟨m0, m1, m2⟩ := mn_cut l0.length (m := 300) (by omega)
  have hb := isB_take (isB_of hw) (mn (l0.length : Int) 300).toNat
  have hl : (l0.take (mn (l0.length : Int) 300).toNat).length ≤ 300 := by rw [List.length_take]; omega
  obtain ⟨K, hK⟩ := ref_text hb (by omega)
  refine ⟨K, ?_⟩
  rw [signetrylaw15_BaseWrites.f, if_pos m0, if_pos m1]
  simp only [Option.bind_some, List.nil_append, List.length_nil]
  rw [if_pos (by omega), text_f hb (by omega), hK K (Nat.le_refl _)]
  simp only [Option.bind_some, if_true, signetryref00_EqBytes.f, beq_self_eq_true]
  rw [show signetryref15_Size.f a1 = base_Size.f a1 from rfl]
  obtain ⟨z, hz⟩ := size_some a1
  rw [hz]
  simp only [Option.bind_some, if_true, works_true]

end Go.Proofs.Ytbgncppjoaihlaa.Pure
