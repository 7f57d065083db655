-- Written by this repo's program wip/tools/pr.py (over the kit's print) out of the translation. Not trusted: Lean checks it.
import Derived.Test.YtbgncppjoaihlaaProg
import Derived.Below
import Derived.Deep.Draws
import Derived.Deep.AppendLies
import Derived.Maps.AppendAt
import Derived.OwnWalk
import Derived.Laws.BytesArg
import Derived.Laws.MakeOwn
import Derived.Laws.OwnMore
import Derived.Deep.OwnRows
import Derived.Tactics
import Derived.Lib.ConvBytes
import Derived.Laws.Slices
import Derived.WalkKit
import Derived.KernelRfl
import Derived.RowKit3
import Derived.Deep.LoopGhost
import Derived.Deep.QuietTactic
import Derived.BigQuiet
import Derived.WideLaws
import Derived.Deep.DeepCutAuto
import Derived.Deep.CutBlock
import Derived.Deep.RegionHeld3
import Derived.Laws.Rows
import Derived.Lib.AppendStr
import Derived.ArgAppend
import Derived.Laws.IdiomCopy
import Derived.OrdersHeld
import Derived.Laws.BitsLemmas
import Derived.RowKit
import Derived.Test.YtbgncppjoaihlaaHandText
import Derived.Test.YtbgncppjoaihlaaHandBytes
import Derived.Test.YtbgncppjoaihlaaHandCut
import Derived.Test.YtbgncppjoaihlaaWWords
import Derived.Test.YtbgncppjoaihlaaWLast
import Derived.Test.YtbgncppjoaihlaaWTab
import Derived.Test.YtbgncppjoaihlaaWFour
import Derived.Test.YtbgncppjoaihlaaWQPut
import Derived.Test.YtbgncppjoaihlaaWApart
import Derived.Test.YtbgncppjoaihlaaWArr
import Derived.Test.YtbgncppjoaihlaaWZeros
import Derived.Test.YtbgncppjoaihlaaWFoot
import Derived.Test.YtbgncppjoaihlaaWKept
import Derived.Test.YtbgncppjoaihlaaWShare
import Derived.Test.YtbgncppjoaihlaaWN
import Derived.Test.YtbgncppjoaihlaaWFootNe
import Derived.Test.YtbgncppjoaihlaaWAt
import Derived.Test.YtbgncppjoaihlaaWEqStruct
import Derived.Test.YtbgncppjoaihlaaWRepsOne
import Derived.Test.YtbgncppjoaihlaaWInv
import Derived.Test.YtbgncppjoaihlaaWInvWords
import Derived.Test.YtbgncppjoaihlaaWGuard
import Derived.Test.YtbgncppjoaihlaaWNEv
import Derived.Test.YtbgncppjoaihlaaWMore
namespace Go.Proofs.Ytbgncppjoaihlaa.PAll
open Go.Proofs.Ytbgncppjoaihlaa.Hand
open Go.RowKit Go.Proofs.YtbgncppjoaihlaaW.PrintWords Go.Proofs.YtbgncppjoaihlaaW.PrintLast Go.Proofs.YtbgncppjoaihlaaW.PrintMore
attribute [local go_sem] max2_int min2_int max_two min_two max_three min_three max_four min_four   -- for this text's walks alone
set_option linter.unusedVariables false
set_option linter.unusedSimpArgs false



def errW : Option Int → Value
  | none => .nilIface
  | some c => .iface 0 (.int .i64 c)
theorem errW_none : errW none = .nilIface := rfl
theorem errW_some (c : Int) : errW (some c) = .iface 0 (.int .i64 c) := rfl

theorem info3 : (Try.prog.info? 3).map (fun i => (i.zero, i.size, i.bytes)) = some (some (.int .i64 0), 1, 8) := by kernel_rfl
theorem info5 : (Try.prog.info? 5).map (fun i => (i.zero, i.size, i.bytes)) = some (some (.int .u8 0), 1, 1) := by kernel_rfl
-- the values' own types

end Go.Proofs.Ytbgncppjoaihlaa.PAll
