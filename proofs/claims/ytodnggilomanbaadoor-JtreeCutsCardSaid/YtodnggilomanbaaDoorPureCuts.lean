/-
  What a seed's node is written as, and read as if that is cut: no walk.
-/
import Derived.Test.YtodnggilomanbaaDoorPureBack
import Derived.Test.YtodnggilomanbaaDoorPlainCut
namespace Go.Proofs.YtodnggilomanbaaDoor.Pure
open Go.RowKit Go.Lib Go.Proofs.YtodnggilomanbaaDoor.PAll Go.Proofs.YtodnggilomanbaaDoorW.PrintWords Go.Proofs.YtodnggilomanbaaDoorW.PrintLast Go.Proofs.YtodnggilomanbaaDoorW.PrintMore Go.Proofs.YtodnggilomanbaaDoor.Hand
set_option linter.unusedVariables false
set_option linter.unusedSimpArgs false

theorem cut_facts {n : S32} (hs : Sml n) (hc : cnt n ≤ 601) (hm : mayF n 1 = true) (h4 : n.f0 ≠ 4) : 0 < (wriF n).size ∧ (wriF n).size ≤ 1048576 ∧
    ∀ k : Nat, k < (wriF n).size → ∃ p, (∀ f, jtree_Parse.f f ((wriF n).extract 0 k) = some (0, ⟨#[]⟩, [], [], p, 140)) ∧ 0 ≤ p ∧ p ≤ (k : Int) ∧ (p ≠ (k : Int) → bt (wriF n) p = 34) := by
  have hl := hs.len [] (by decide)
  have hw := wri_bytes n
  have hz := wri_size n
  obtain ⟨c, r, hb⟩ := spc_head (b := []) hm
  have hpos : 0 < (wriF n).size := by rw [hz, hb.eq]; simp
  refine ⟨hpos, by omega, fun k hk => ?_⟩
  obtain ⟨t, ht⟩ : ∃ t, wriF n = t := ⟨_, rfl⟩
  rw [ht] at hw hz hk ⊢
  have hq : bytesOf (t.extract 0 k) = (bytesOf t).take k := by
    rw [bytesOf_sl, List.drop_zero]
  have hsz : (t.extract 0 k).size = k := by rw [size_sl _ _ _ (by omega)]; omega
  have hsp : (bytesOf t).take k ++ (bytesOf t).drop k = spc [] n := by rw [List.take_append_drop, hw]
  have hne : (bytesOf t).drop k ≠ [] := fun h => by
    rw [List.drop_eq_nil_iff, bytesOf_length] at h
    omega
  obtain ⟨p, h1, h2, h3⟩ := parse_cut hq hsp hne hm (by omega) (by omega) h4
  rw [hsz] at h2 h3
  refine ⟨p, fun f => ?_, h2.1, h2.2, fun hp => ?_⟩
  · unfold jtree_Parse.f
    rw [h1]
    rfl
  · rcases h3 with h3 | h3
    · exact absurd h3 hp
    · have h5 := drop_bt (t.extract 0 k) h2.1 (by rw [hsz]; omega)
      have h6 : (bytesOf t).drop p.toNat = 34 :: ((bytesOf (t.extract 0 k)).drop (p.toNat + 1) ++ (bytesOf t).drop k) := by
        rw [h3] at h5
        rw [← List.cons_append, ← h5, hq]
        conv => lhs; rw [← List.take_append_drop k (bytesOf t)]
        rw [List.drop_append_of_le_length]
        rw [List.length_take, bytesOf_length]
        omega
      have h7 := bt_dr h6
      rwa [show ((p.toNat : Nat) : Int) = p by omega] at h7
end Go.Proofs.YtodnggilomanbaaDoor.Pure
