/-
  The chapter's texts work: no walk.
-/
import Derived.Test.YtodnggilomanbaaDoorGK
namespace Go.Proofs.YtodnggilomanbaaDoor.Pure
open Go.RowKit Go.Proofs.YtodnggilomanbaaDoor.PAll Go.Proofs.YtodnggilomanbaaDoorW.PrintWords Go.Proofs.YtodnggilomanbaaDoorW.PrintLast Go.Proofs.YtodnggilomanbaaDoorW.PrintMore Go.Proofs.YtodnggilomanbaaDoor.Hand

theorem works_60 : signetrylaw14_works.f 60 = some true := by decide +kernel
theorem works_le {k : Nat} (h : 60 ≤ k) : signetrylaw14_works.f k = some true := by
  induction h with
  | refl => exact works_60
  | step _ ih => exact signetrylaw14_works.mono _ _ ih
end Go.Proofs.YtodnggilomanbaaDoor.Pure
