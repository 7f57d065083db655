/-
  What the printed texts of the laws stand on. No walk.
-/
import Derived.Test.YtodnggilomanbaaDoorHandParse
import Derived.Test.YtodnggilomanbaaDoorHandGet
import Derived.Test.YtodnggilomanbaaDoorHandWri
import Derived.Test.YtodnggilomanbaaDoorHandRune
import Derived.Test.YtodnggilomanbaaDoorGC
import Derived.Test.YtodnggilomanbaaDoorGS
import Derived.Test.YtodnggilomanbaaDoorGB
namespace Go.Proofs.YtodnggilomanbaaDoor.PAll
theorem info5 : (Tryd.prog.info? 5).map (fun i => (i.zero, i.size, i.bytes)) = some (some (.int .u8 0), 1, 1) := by kernel_rfl
theorem info9 : (Tryd.prog.info? 9).map (fun i => (i.zero, i.size, i.bytes)) = some (some (.string ⟨#[]⟩), 1, 16) := by kernel_rfl
end Go.Proofs.YtodnggilomanbaaDoor.PAll
