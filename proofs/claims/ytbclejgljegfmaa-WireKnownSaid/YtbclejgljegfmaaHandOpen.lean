/-
  A slice of structs that came in, as a list of records: the rows of WireJoins and WireBack are opened with it. No walk.
-/
import Derived.Test.YtbclejgljegfmaaPAllx0
import Derived.Test.YtbclejgljegfmaaHandSpec
import Derived.Deep.Slices
import Derived.Deep.Fields
import Derived.ChangeSame
namespace Go.Proofs.Ytbclejgljegfmaa.Hand
open Go.ChangeShapes Go.WideShapes Go.Deep Go.RowKit Go.Proofs.YtbclejgljegfmaaW.PrintWords Go.Proofs.YtbclejgljegfmaaW.PrintLast Go.Proofs.YtbclejgljegfmaaW.PrintMore Go.Proofs.Ytbclejgljegfmaa.PAll
set_option linter.unusedVariables false
set_option linter.unusedSimpArgs false

/-- What is known of a record that came in. -/
structure CameRec (r : S33) : Prop where
  n0 : (Lit.int .i64 r.f0).wf = true
  n1 : (Lit.int .i64 r.f1).wf = true
  n2 : (Lit.int .u64 r.f2).wf = true
  b3 : ∀ x ∈ r.f3, (Lit.int .u8 x).wf = true
  b4 : ∀ x ∈ r.f4, (Lit.int .u8 x).wf = true
section
variable {H : Type} {enc : TypeId × Value → H} {w : World} {base : Nat} {spare : Nat → Bool} {held : Bool}
end
end Go.Proofs.Ytbclejgljegfmaa.Hand
