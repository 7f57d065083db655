/-
  The pure statement of BaseBack.
-/
import Derived.Test.YtbgncppjoaihlaaPAllx3
import Derived.Test.YtbgncppjoaihlaaPlainRef
namespace Go.Proofs.Ytbgncppjoaihlaa.Pure
open Go.RowKit Go.Proofs.Ytbgncppjoaihlaa.PAll Go.Proofs.YtbgncppjoaihlaaW.PrintWords Go.Proofs.YtbgncppjoaihlaaW.PrintLast Go.Proofs.YtbgncppjoaihlaaW.PrintMore Go.Proofs.Ytbgncppjoaihlaa.Hand Go.Proofs.Ytbgncppjoaihlaa.Ref

theorem BaseBack : signetrylaw15_BaseBack.Pure := by
  intro l0 _ _ hw
  obtain ⟨m0, m1, m2⟩ := mn_cut l0.length (m := 300) (by omega)
  obtain ⟨b, hbe⟩ : ∃ b, b = l0.take (mn (l0.length : Int) 300).toNat := ⟨_, rfl⟩
  have hb : isB b = true := by rw [hbe]; exact isB_take (isB_of hw) _
  have hl : b.length ≤ 300 := by rw [hbe, List.length_take]; omega
  rw [signetrylaw15_BaseBack.f, works_true, Option.bind_some, if_pos rfl, if_pos m0, if_pos m1, ← hbe, text_f hb (by omega)]
  simp only [Option.bind_some]
  rw [bytes_text hb (by omega)]
  simp only [Option.bind_some, if_true, signetryref00_EqBytes.f, beq_self_eq_true]
  rw [size_of _ (by omega)]
  simp only [Option.bind_some]
  rw [enc_size, if_pos rfl]
  have : (((b.length + 2) / 3 * 4 : Nat) : Int) % 4 = 0 := by omega
  rw [this]
  rfl

end Go.Proofs.Ytbgncppjoaihlaa.Pure
