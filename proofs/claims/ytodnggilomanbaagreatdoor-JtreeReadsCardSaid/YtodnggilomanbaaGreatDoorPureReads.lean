/-
  JtreeReads: Parse answers as the reference does, of all texts (1000 bytes at most): no walk.
-/
import Derived.Test.YtodnggilomanbaaGreatDoorLReads
import Derived.Test.YtodnggilomanbaaGreatDoorPlainOwn
namespace Go.Proofs.YtodnggilomanbaaGreatDoor.Pure
open Go.RowKit Go.Lib Go.Proofs.YtodnggilomanbaaGreatDoor.PAll Go.Proofs.YtodnggilomanbaaGreatDoorW.PrintWords Go.Proofs.YtodnggilomanbaaGreatDoorW.PrintLast Go.Proofs.YtodnggilomanbaaGreatDoorW.PrintMore Go.Proofs.YtodnggilomanbaaGreatDoor.Hand
set_option linter.unusedVariables false
set_option linter.unusedSimpArgs false

theorem works_le {k : Nat} (h : 60 ≤ k) : signetrylaw14_works.f k = some true := by
  unfold signetrylaw14_works.f
  rw [if_pos h]
theorem reads_of {s : ByteArray} (hz : s.size ≤ 1000) {K : Nat} (hK : 67100 ≤ K) :
    ((jtree_Parse.f K s).bind fun a => ((signetryref14_Parse.f K s).bind fun b => ((signetrylaw14_own.f K a.1 a.2.1 a.2.2.1 a.2.2.2.1).bind fun c => ((signetryref14_Same.f K c.1 c.2.1 c.2.2.1 c.2.2.2 b.1 b.2.1 b.2.2.1 b.2.2.2.1).bind fun t => (if t = true then (if a.2.2.2.2.1 = b.2.2.2.2.1 then (if a.2.2.2.2.2 = b.2.2.2.2.2 then ((signetrylaw14_works.f K).bind fun cN => (some cN)) else (none)) else (none)) else (none)))))) = some true := by
  have hb := parseF_len hz
  have e1 : jtree_Parse.f K s = some ((parseF s).1.f0, (parseF s).1.f1, (parseF s).1.f2, (parseF s).1.f3, (parseF s).2.1, (parseF s).2.2) := rfl
  have e2 : signetryref14_Parse.f K s = some ((toR (parseF s).1).f0, (toR (parseF s).1).f1, (toR (parseF s).1).f2, (toR (parseF s).1).f3, (parseF s).2.1, (parseF s).2.2) := by
    unfold signetryref14_Parse.f
    rw [if_pos (by omega)]
    rfl
  rw [e1, Option.bind_some, e2, Option.bind_some]
  simp only
  rw [own_at 61 _ hb K (by omega), Option.bind_some]
  simp only
  rw [rsame_at 61 _ hb K (by omega), Option.bind_some, if_pos rfl, if_pos trivial, if_pos trivial, works_le (by omega), Option.bind_some]
theorem JtreeReads : ∀ (a0 : ByteArray) (h0 : a0.size ≤ 140737488351232), ∃ k, signetrylaw14_JtreeReads.f k a0 = some true := by
  intro a0 _
  have hm : 0 ≤ mn (a0.size : Int) 1000 ∧ mn (a0.size : Int) 1000 ≤ (a0.size : Int) ∧ mn (a0.size : Int) 1000 ≤ 1000 := by
    unfold mn
    split <;> omega
  have hz : (a0.extract 0 ((mn (a0.size : Int) 1000) : Int).toNat).size ≤ 1000 := by
    rw [ByteArray.size_extract]
    omega
  refine ⟨67100, ?_⟩
  unfold signetrylaw14_JtreeReads.f
  rw [if_pos hm.1, if_pos hm.2.1]
  exact reads_of hz (Nat.le_refl _)
end Go.Proofs.YtodnggilomanbaaGreatDoor.Pure
