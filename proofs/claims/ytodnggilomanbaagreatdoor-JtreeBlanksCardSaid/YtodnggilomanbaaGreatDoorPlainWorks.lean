/-
  The chapter's texts work: no walk.
-/
import Derived.Test.YtodnggilomanbaaGreatDoorGK
namespace Go.Proofs.YtodnggilomanbaaGreatDoor.Pure
open Go.RowKit Go.Proofs.YtodnggilomanbaaGreatDoor.PAll Go.Proofs.YtodnggilomanbaaGreatDoorW.PrintWords Go.Proofs.YtodnggilomanbaaGreatDoorW.PrintLast Go.Proofs.YtodnggilomanbaaGreatDoorW.PrintMore Go.Proofs.YtodnggilomanbaaGreatDoor.Hand

theorem works_60 : signetrylaw14_works.f 60 = some true := by decide +kernel
theorem works_le {k : Nat} (h : 60 ≤ k) : signetrylaw14_works.f k = some true := by
  induction h with
  | refl => exact works_60
  | step _ ih => exact signetrylaw14_works.mono _ _ ih
end Go.Proofs.YtodnggilomanbaaGreatDoor.Pure
