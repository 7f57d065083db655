/-
  What the printed texts of the laws stand on. No walk.
-/
import Derived.Test.YtodnggilomanbaaGreatDoorAp
import Derived.Test.YtodnggilomanbaaGreatDoorHandParse
import Derived.Test.YtodnggilomanbaaGreatDoorHandGet
import Derived.Test.YtodnggilomanbaaGreatDoorHandWri
import Derived.Test.YtodnggilomanbaaGreatDoorHandHz
import Derived.Test.YtodnggilomanbaaGreatDoorGC
import Derived.Test.YtodnggilomanbaaGreatDoorGS
import Derived.Test.YtodnggilomanbaaGreatDoorGB
namespace Go.Proofs.YtodnggilomanbaaGreatDoor.PAll
theorem info5 : (Tryz.prog.info? 5).map (fun i => (i.zero, i.size, i.bytes)) = some (some (.int .u8 0), 1, 1) := p12z
theorem info9 : (Tryz.prog.info? 9).map (fun i => (i.zero, i.size, i.bytes)) = some (some (.string ⟨#[]⟩), 1, 16) := p12z
end Go.Proofs.YtodnggilomanbaaGreatDoor.PAll
