/-
  The pure statement of BaseParts.
-/
import Derived.Test.YtbgncppjoaihlaaPPartsx1
import Derived.Test.YtbgncppjoaihlaaPlainRef
namespace Go.Proofs.Ytbgncppjoaihlaa.Pure
open Go.RowKit Go.Proofs.Ytbgncppjoaihlaa.PParts Go.Proofs.YtbgncppjoaihlaaW.PrintWords Go.Proofs.YtbgncppjoaihlaaW.PrintLast Go.Proofs.YtbgncppjoaihlaaW.PrintMore Go.Proofs.Ytbgncppjoaihlaa.Hand Go.Proofs.Ytbgncppjoaihlaa.Ref

theorem works_here : signetrylaw15_works.f = some true := by kernel_rfl
theorem BaseParts : signetrylaw15_BaseParts.Pure := by
  intro l0 l1 _ _ hw0 _ _ hw1
  obtain ⟨m0, m1, m2⟩ := mn_cut l0.length (m := 150) (by omega)
  obtain ⟨n0, n1, n2⟩ := mn_cut l1.length (m := 150) (by omega)
  obtain ⟨a, hae⟩ : ∃ a, a = l0.take (mn (l0.length : Int) 150).toNat := ⟨_, rfl⟩
  obtain ⟨b, hbe⟩ : ∃ b, b = l1.take (mn (l1.length : Int) 150).toNat := ⟨_, rfl⟩
  have ha : isB a = true := by rw [hae]; exact isB_take (isB_of hw0) _
  have hb : isB b = true := by rw [hbe]; exact isB_take (isB_of hw1) _
  have hal : a.length ≤ 150 := by rw [hae, List.length_take]; omega
  have hbl : b.length ≤ 150 := by rw [hbe, List.length_take]; omega
  have hwr : wrap64 (wrap64 ((a.length : Int) / 3) * 3) = ((a.length / 3 * 3 : Nat) : Int) := by
    rw [w64 (n := (a.length : Int) / 3) (by omega) (by omega), w64 (by omega) (by omega)]
    omega
  obtain ⟨c, hce⟩ : ∃ c, c = a.take (a.length / 3 * 3) := ⟨_, rfl⟩
  have hc : isB c = true := by rw [hce]; exact isB_take ha _
  have hcl : c.length = a.length / 3 * 3 := by rw [hce, List.length_take]; omega
  rw [signetrylaw15_BaseParts.f, if_pos m0, if_pos m1, if_pos n0, if_pos n1, ← hae, ← hbe, hwr, if_pos (by omega), if_pos (by omega)]
  simp only [Option.bind_some, List.nil_append, List.length_nil, Int.toNat_natCast]
  rw [← hce, if_pos (by omega), if_pos (by omega), text_f (isB_append hc hb) (by rw [List.length_append]; omega), text_f hc (by omega), text_f hb (by omega)]
  simp only [Option.bind_some]
  have hj : strOfNums (enc (c ++ b)) = strOfNums (enc c) ++ strOfNums (enc b) := by
    rw [enc_join _ c b (Nat.le_refl _) (by omega)]
    exact strOfNums_join _ _
  rw [if_pos (by rw [enc_size, enc_size]; omega), if_pos (by rw [hj]), works_here]
  rfl

end Go.Proofs.Ytbgncppjoaihlaa.Pure
