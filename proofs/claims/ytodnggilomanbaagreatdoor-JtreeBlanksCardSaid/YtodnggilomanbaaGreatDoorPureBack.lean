/-
  What a seed's node is written as, checked as, read as: no walk.
-/
import Derived.Test.YtodnggilomanbaaGreatDoorPlainSeed
import Derived.Test.YtodnggilomanbaaGreatDoorPlainWorks
namespace Go.Proofs.YtodnggilomanbaaGreatDoor.Pure
open Go.RowKit Go.Lib Go.Proofs.YtodnggilomanbaaGreatDoor.PAll Go.Proofs.YtodnggilomanbaaGreatDoorW.PrintWords Go.Proofs.YtodnggilomanbaaGreatDoorW.PrintLast Go.Proofs.YtodnggilomanbaaGreatDoorW.PrintMore Go.Proofs.YtodnggilomanbaaGreatDoor.Hand
set_option linter.unusedVariables false
set_option linter.unusedSimpArgs false

/-- A small node that may be. -/
theorem seed_may {n : S28} (hs : Sml n) (hc : cnt n ≤ 601) (hm : mayF n 1 = true) :
    ∃ k0, ∀ k, k0 ≤ k → jtree_Text.f k n.f0 n.f1 n.f2 n.f3 = some (wriF n, 0) ∧ jtree_Check.f k n.f0 n.f1 n.f2 n.f3 = some 0 ∧ jtree_Parse.f k (wriF n) = some (n.f0, n.f1, n.f2, n.f3, 0, 0) ∧ jtree_Same.f k n.f0 n.f1 n.f2 n.f3 n.f0 n.f1 n.f2 n.f3 = some true := by
  have hl := hs.len [] (by decide)
  obtain ⟨k0, h0⟩ := text_at hm (by omega) (by omega)
  have hp := parse_text hm (by omega) (by omega)
  refine ⟨k0, fun k hk => ⟨(h0 k hk).2, (h0 k hk).1, ?_, ?_⟩⟩
  · unfold jtree_Parse.f
    rw [hp]
  · have hsame := same_refl _ n (Nat.le_refl _)
    have o2 := hs.ok2
    obtain ⟨a, b, q, d⟩ := n
    show jtree_Same.f k a b q d a b q d = some true
    unfold jtree_Same.f
    rw [if_pos o2, hsame]
/-- A small node that may not be. -/
theorem seed_not {n : S28} (hs : Sml n) (hc : cnt n ≤ 601) (hm : mayF n 1 = false) :
    ∃ k0, ∀ k, k0 ≤ k → jtree_Text.f k n.f0 n.f1 n.f2 n.f3 = some (⟨#[]⟩, 2) ∧ jtree_Check.f k n.f0 n.f1 n.f2 n.f3 = some 2 := by
  obtain ⟨k0, h0⟩ := count_all n (by omega)
  refine ⟨k0, fun k hk => ?_⟩
  have o1 := hs.ok1
  obtain ⟨a, b, c, d⟩ := n
  have h1 : jtree_Count.f k a b c d = some (cnt ⟨a, b, c, d⟩ : Int) := h0 k hk
  have hck : jtree_Check.f k a b c d = some 2 := by
    unfold jtree_Check.f jtree_may.f
    rw [h1, Option.bind_some, if_neg (by omega), if_pos ⟨o1, by decide, by decide⟩, Option.bind_some, hm, if_neg (by decide)]
  refine ⟨?_, hck⟩
  show jtree_Text.f k a b c d = _
  unfold jtree_Text.f
  rw [hck, Option.bind_some, if_neg (by decide)]
end Go.Proofs.YtodnggilomanbaaGreatDoor.Pure
