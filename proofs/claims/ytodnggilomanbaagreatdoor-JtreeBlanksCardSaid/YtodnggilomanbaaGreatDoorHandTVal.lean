/-
  text.Valid: the walk.
-/
import Derived.Test.YtodnggilomanbaaGreatDoorHandValid
namespace Go.Proofs.YtodnggilomanbaaGreatDoor.Hand
open Go.RowKit Go.Lib Go.Proofs.YtodnggilomanbaaGreatDoorW.PrintWords
set_option linter.unusedVariables false
set_option linter.unusedSimpArgs false
set_option maxRecDepth 100000 in
theorem tvalid_calls (A0 : Option Addr) (c0 : Nat) (l0 : List Int) (r : Bool) (w : World) (hr0 : Kd.C (Kd.int .u8) w A0 l0.length l0) (hc0 : l0.length ≤ c0) (h : utf8_Valid.f l0 = some r) (HT_ : Tabs w) :
    Calls Tryz.prog 95 #[.slice A0 l0.length c0] w fun e w' => e = .returned (.bool r) ∧ Below w.heap.size w w' := by
  have hv := utf8_Valid.calls A0 c0 l0 r w hr0 hc0 h HT_
  go_enter Tryz.func95, Tryz.ntmps95
  go_wp2_with (go_at_call 110; refine hv.mono ?_; rintro e w1 ⟨rfl, hb⟩)
  go_ret
  exact ⟨rfl, hb⟩
end Go.Proofs.YtodnggilomanbaaGreatDoor.Hand
