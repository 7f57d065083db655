/-
  JtreeAgain: what is read may be, and its text is read as the same: no walk.
-/
import Derived.Test.YtodnggilomanbaaDoorLAgain
import Derived.Test.YtodnggilomanbaaDoorPlainTree
import Derived.Test.YtodnggilomanbaaDoorPlainWorks
namespace Go.Proofs.YtodnggilomanbaaDoor.Pure
open Go.RowKit Go.Lib Go.Proofs.YtodnggilomanbaaDoor.PAll Go.Proofs.YtodnggilomanbaaDoorW.PrintWords Go.Proofs.YtodnggilomanbaaDoorW.PrintLast Go.Proofs.YtodnggilomanbaaDoorW.PrintMore Go.Proofs.YtodnggilomanbaaDoor.Hand
set_option linter.unusedVariables false
set_option linter.unusedSimpArgs false

theorem JtreeAgain : signetrylaw14_JtreeAgain.Pure := by
  intro a0 _
  have hm0 : 0 ≤ mn (a0.size : Int) 1000 := by unfold mn; split <;> omega
  have hm1 : mn (a0.size : Int) 1000 ≤ (a0.size : Int) := by unfold mn; split <;> omega
  have hm2 : mn (a0.size : Int) 1000 ≤ 1000 := by unfold mn; split <;> omega
  obtain ⟨s, hs⟩ : ∃ s, a0.extract 0 (mn (a0.size : Int) 1000).toNat = s := ⟨_, rfl⟩
  have hz : s.size ≤ 1000 := by rw [← hs, size_sl _ _ _ (by omega)]; omega
  rcases parse_cases s (by omega) with ⟨n, hp, hmay, hc, hl⟩ | ⟨p, c, hp, hpp, hc⟩
  · obtain ⟨k0, h0⟩ := text_at hmay hc (by omega)
    obtain ⟨o1, o2⟩ := ok_all _ n 1 (Nat.le_refl _) hmay (by omega) (by omega)
    have ht := parse_text hmay hc (by omega)
    obtain ⟨c1, c2⟩ := h0 (max k0 60) (Nat.le_max_left _ _)
    refine ⟨max k0 60, ?_⟩
    have hw := works_le (Nat.le_max_right k0 60)
    have hsame := same_refl _ n (Nat.le_refl _)
    obtain ⟨a, b, q, d⟩ := n
    have c1 : jtree_Check.f (max k0 60) a b q d = some 0 := c1
    have c2 : jtree_Text.f (max k0 60) a b q d = some (wriF ⟨a, b, q, d⟩, 0) := c2
    have e1 : jtree_Parse.f (max k0 60) s = some (a, b, q, d, 0, 0) := by unfold jtree_Parse.f; rw [hp]
    have e2 : jtree_Parse.f (max k0 60) (wriF ⟨a, b, q, d⟩) = some (a, b, q, d, 0, 0) := by unfold jtree_Parse.f; rw [ht]
    have e3 : jtree_Same.f (max k0 60) a b q d a b q d = some true := by unfold jtree_Same.f; rw [if_pos o2, hsame]
    unfold signetrylaw14_JtreeAgain.f
    rw [if_pos hm0, if_pos hm1, hs, e1, Option.bind_some]
    simp only [if_true]
    rw [c2, Option.bind_some]
    simp only
    rw [e2, Option.bind_some]
    simp only
    rw [c2, Option.bind_some, c1, Option.bind_some]
    simp only [if_true]
    rw [e3, Option.bind_some]
    simp only [if_true]
    rw [hw, Option.bind_some]
  · refine ⟨60, ?_⟩
    have e1 : jtree_Parse.f 60 s = some (0, ⟨#[]⟩, [], [], p, c) := by unfold jtree_Parse.f; rw [hp]; rfl
    have e3 : jtree_Same.f 60 0 ⟨#[]⟩ [] [] 0 ⟨#[]⟩ [] [] = some true := by
      unfold jtree_Same.f
      rw [if_pos (by decide)]
      simp [sameF, sameL]
    unfold signetrylaw14_JtreeAgain.f
    rw [if_pos hm0, if_pos hm1, hs, e1, Option.bind_some]
    simp only
    rw [if_neg (by omega), if_pos hpp.1, if_pos hpp.2, e3, Option.bind_some, if_pos rfl, works_60, Option.bind_some]
end Go.Proofs.YtodnggilomanbaaDoor.Pure
