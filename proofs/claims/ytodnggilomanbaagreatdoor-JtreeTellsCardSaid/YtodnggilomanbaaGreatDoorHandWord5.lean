/-
  jtree's reader: word5 (a string's node): the walk.
-/
import Derived.Test.YtodnggilomanbaaGreatDoorAp
import Derived.Test.YtodnggilomanbaaGreatDoorHandStr
import Derived.Test.YtodnggilomanbaaGreatDoorHandBa
set_option maxRecDepth 100000
set_option maxHeartbeats 4000000
namespace Go.Proofs.YtodnggilomanbaaGreatDoor.Hand
open Go.RowKit Go.Lib Go.Proofs.YtodnggilomanbaaGreatDoorW.PrintWords Go.Proofs.YtodnggilomanbaaGreatDoorW.PrintMore Go.Proofs.YtodnggilomanbaaGreatDoor.PAll
set_option linter.unusedVariables false
set_option linter.unusedSimpArgs false

theorem str_err {g : Nat} {s : ByteArray} {x many deep p : Int} {w0 w : World} (hI : IsS67 w0 w g s x many deep) (hB : Below w0.heap.size w0 w) (h0 : 0 ≤ x) (h1 : x ≤ (s.size : Int)) (hs : s.size ≤ 1073741824) (HTAB : Tabs w0) (h : strF s x = .error p) :
    Calls Tryz.prog 85 #[.pointer (some ⟨g, 0, none⟩)] w fun e w' => e = thrown p 140 ∧ Below w0.heap.size w0 w' := by
  have := str_calls g s x many deep w0 w hI hB h0 h1 hs HTAB
  rwa [h] at this
theorem str_ok {g : Nat} {s o : ByteArray} {x many deep y : Int} {w0 w : World} (hI : IsS67 w0 w g s x many deep) (hB : Below w0.heap.size w0 w) (h0 : 0 ≤ x) (h1 : x ≤ (s.size : Int)) (hs : s.size ≤ 1073741824) (HTAB : Tabs w0) (h : strF s x = .ok (o, y)) :
    Calls Tryz.prog 85 #[.pointer (some ⟨g, 0, none⟩)] w fun e w' => e = .returned (.string o) ∧ IsS67 w0 w' g s y many deep ∧ Below w0.heap.size w0 w' ∧ KeepBut w w' g none := by
  have := str_calls g s x many deep w0 w hI hB h0 h1 hs HTAB
  rwa [h] at this
def strN (s : ByteArray) (x many deep : Int) : Except (Int × Int) (S28 × Int × Int × Int) := match strF s x with
  | .ok (o, y) => .ok (⟨5, o, [], []⟩, y, many, deep)
  | .error p => .error (p, 140)
theorem gM (g : Nat) (s : ByteArray) (x many deep : Int) (w0 w : World) (hI : IsS67 w0 w g s x many deep) (hB : Below w0.heap.size w0 w) (h0 : 0 ≤ x) (h1 : x ≤ (s.size : Int)) (hs : s.size ≤ 1073741824) (HTAB : Tabs w0) :
 Calls Tryz.prog 58 #[.pointer (some ⟨g, 0, none⟩)] w fun e w' => NodeOut w0 w w' g s (strN s x many deep) e := by
 have hI1 : IsS67 w0 (w.alloc (.cells zcells 28)) g s x many deep := hI.alloc _
 have hB1 : Below w0.heap.size w0 (w.alloc (.cells zcells 28)) := below_alloc hB _
 have hK1 : KeepBut w (w.alloc (.cells zcells 28)) g none := keep_alloc (KeepBut.refl w g none) _
 have hblk : (w.alloc (.cells zcells 28)).heap[w.heap.size]? = some (.cells zcells 28 (0, 0)) := heap_alloc_new w _
 have hne : w.heap.size ≠ g := (Nat.ne_of_lt hI.lt).symm
 have hge : w0.heap.size ≤ w.heap.size := hB.size
 unfold strN
 rcases hwf : strF s x with p | ⟨o, y⟩
 ·have hcall := str_err hI1 hB1 h0 h1 hs HTAB hwf
  go_enter Tryz.func58, Tryz.ntmps58
  go_wp2_with (go_at_call 85; refine hcall.mono ?_; rintro e w' ⟨rfl, hb⟩)
  exact ⟨rfl, rfl, hb⟩
 ·have hcall := str_ok hI1 hB1 h0 h1 hs HTAB hwf
  have HID := hid (And.intro hK1 (And.intro hblk (And.intro hne hge)))
  clear hK1 hblk hne hge hI1 hB1
  go_enter Tryz.func58, Tryz.ntmps58
  go_wp2_with (go_at_call 85; refine hcall.mono ?_; rintro e w' ⟨rfl, hi, hb, hk⟩; have HH := hid (And.intro hi (And.intro hb hk)); clear hi hb hk; have hb2 := HH.out.2.2.blk HID.out.2.1 HID.out.2.2.1 (by simp); have hc0 := cell_of (i := 0) hb2 rfl; have hc1 := cell_of (i := 1) hb2 rfl; have hc2 := cell_of (i := 2) hb2 rfl; have hc3 := cell_of (i := 3) hb2 rfl; have hf0 := blk_frozen hb2 0; have hf1 := blk_frozen hb2 1; have hf2 := blk_frozen hb2 2; have hf3 := blk_frozen hb2 3; have HB2 := hid hb2; clear hb2)
  have hst := bX HH.out.1 HH.out.2.1 (HID.out.1.trans HH.out.2.2 (.inl rfl)) HB2.out HID.out.2.2.1 (Nat.le_refl _) HID.out.2.2.2 (.int .i64 5) (.string o) (.slice none 0 0) (.slice none 0 0)
  refine bodyPost_ret (results_cell_row rfl _ _ w.heap.size 28 #[.int .i64 5, .string o, .slice none 0 0, .slice none 0 0] (0, 0) _ rfl hst.1 Tryz.underlying28 rfl p12z) rfl ?_
  exact ⟨_, _, rfl, Kd.R_nil _ _ _ _ _, Kd.R_nil _ _ _ _ _, hst.2.1, hst.2.2.1, hst.2.2.2⟩
end Go.Proofs.YtodnggilomanbaaGreatDoor.Hand
