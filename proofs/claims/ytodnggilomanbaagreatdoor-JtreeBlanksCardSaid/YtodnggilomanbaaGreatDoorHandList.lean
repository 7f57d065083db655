/-
  jtree's reader: list, obj: the walks.
-/
import Derived.Test.YtodnggilomanbaaGreatDoorHandParts
namespace Go.Proofs.YtodnggilomanbaaGreatDoor.Hand
open Go.RowKit Go.Lib Go.Proofs.YtodnggilomanbaaGreatDoorW.PrintWords Go.Proofs.YtodnggilomanbaaGreatDoorW.PrintLast Go.Proofs.YtodnggilomanbaaGreatDoorW.PrintMore Go.Proofs.YtodnggilomanbaaGreatDoor.PAll
set_option linter.unusedVariables false
set_option linter.unusedSimpArgs false

set_option maxRecDepth 100000 in
set_option maxHeartbeats 4000000 in
theorem list_calls (NF : NodeFn) (g : Nat) (s : ByteArray) (x many D : Int) (w0 w : World) (hN : Goes NF s D)
    (hNode : ∀ (W : World) (x many : Int), IsS67 w0 W g s x many D → Below w0.heap.size w0 W → 0 ≤ x → x ≤ (s.size : Int) → 0 ≤ many → many ≤ 4000 → Calls Tryz.prog 29 #[.pointer (some ⟨g, 0, none⟩)] W fun e w' => NodeOut w0 W w' g s (NF x many D) e)
    (hI : IsS67 w0 w g s x many D) (hB : Below w0.heap.size w0 w) (h0 : 0 ≤ x) (h1 : x < (s.size : Int)) (hm0 : 0 ≤ many) (hm1 : many ≤ 4000) (hs : s.size ≤ 1073741824) (HTAB : Tabs w0) :
    Calls Tryz.prog 59 #[.pointer (some ⟨g, 0, none⟩)] w fun e w' => NodeOut w0 w w' g s (partsF NF s 6 93 x many D) e := by
  have hI1 : IsS67 w0 (w.alloc (.cells zcells 28)) g s x many D := hI.alloc _
  have hB1 : Below w0.heap.size w0 (w.alloc (.cells zcells 28)) := below_alloc hB _
  have hK1 : KeepBut w (w.alloc (.cells zcells 28)) g none := keep_alloc (KeepBut.refl w g none) _
  have hblk : (w.alloc (.cells zcells 28)).heap[w.heap.size]? = some (.cells zcells 28 (0, 0)) := heap_alloc_new w _
  have hne : w.heap.size ≠ g := (Nat.ne_of_lt hI.lt).symm
  have hge : w0.heap.size ≤ w.heap.size := hB.size
  have hsz : (w.alloc (.cells zcells 28)).heap.size = w.heap.size + 1 := by simp
  have hcall := parts_calls NF g s 6 93 x many D w0 (w.alloc (.cells zcells 28)) hN hNode (by decide) hI1 hB1 h0 h1 hm0 hm1 hs HTAB
  have HID := hid (And.intro hK1 (And.intro hblk (And.intro hne hge)))
  clear hK1 hblk hne hge hI1 hB1
  rcases hpf : partsF NF s 6 93 x many D with ⟨p, c⟩ | ⟨nd, z, m, d⟩
  · rw [hpf] at hcall
    go_enter Tryz.func59, Tryz.ntmps59
    go_wp2_with (go_at_call 86; refine hcall.mono ?_; rintro e w' ⟨rfl, hb⟩)
    exact ⟨rfl, rfl, hb⟩
  · rw [hpf] at hcall
    go_enter Tryz.func59, Tryz.ntmps59
    go_wp2_with (go_at_call 86; refine hcall.mono ?_; rintro e w' ⟨v2, v3, rfl, r2, r3, hi, hb, hk⟩; obtain ⟨A2, c2, e2⟩ := Kd.R_slice r2; obtain ⟨A3, c3, e3⟩ := Kd.R_slice r3; subst e2; subst e3; have HR := hid (And.intro r2 r3); clear r2 r3; have HH := hid (And.intro hi (And.intro hb hk)); clear hi hb hk; have hb2 := HH.out.2.2.blk HID.out.2.1 HID.out.2.2.1 (by simp); have hc0 := cell_of (i := 0) hb2 rfl; have hc1 := cell_of (i := 1) hb2 rfl; have hc2 := cell_of (i := 2) hb2 rfl; have hc3 := cell_of (i := 3) hb2 rfl; have hf0 := blk_frozen hb2 0; have hf1 := blk_frozen hb2 1; have hf2 := blk_frozen hb2 2; have hf3 := blk_frozen hb2 3; have HB2 := hid hb2; clear hb2)
    have hst := node_stored HH.out.1 HH.out.2.1 (HID.out.1.trans HH.out.2.2 (.inl rfl)) HB2.out HID.out.2.2.1 (Nat.le_refl _) HID.out.2.2.2 (.int .i64 nd.f0) (.string nd.f1) (.slice A2 nd.f2.length c2) (.slice A3 nd.f3.length c3)
    refine bodyPost_ret (results_cell_row rfl _ _ w.heap.size 28 #[.int .i64 nd.f0, .string nd.f1, .slice A2 nd.f2.length c2, .slice A3 nd.f3.length c3] (0, 0) _ rfl hst.1 Tryz.underlying28 rfl (by kernel_rfl)) rfl ?_
    have q2 := Kd.R_mono (Kd.R_bound HR.out.1) (ok' := fun k => True ∧ k ≠ w.heap.size) (fun k hk => ⟨trivial, by have := hk.2.1; omega⟩)
    have q3 := Kd.R_mono (Kd.R_bound HR.out.2) (ok' := fun k => some k ≠ (Value.slice A2 nd.f2.length c2).ownBlock ∧ k ≠ w.heap.size) (fun k hk => ⟨hk.1, by have := hk.2.1; omega⟩)
    exact ⟨_, _, rfl, Kd.R_lower (Kd.R_mono (Kd.R_far (p := ⟨w.heap.size, 3, none⟩) (Kd.R_far (p := ⟨w.heap.size, 2, none⟩) (Kd.R_far (p := ⟨w.heap.size, 1, none⟩) (Kd.R_far (p := ⟨w.heap.size, 0, none⟩) q2 (fun _ hk => hk.2) _) (fun _ hk => hk.2) _) (fun _ hk => hk.2) _) (fun _ hk => hk.2) _) (fun _ hk => hk.1)) (by omega), Kd.R_lower (Kd.R_mono (Kd.R_far (p := ⟨w.heap.size, 3, none⟩) (Kd.R_far (p := ⟨w.heap.size, 2, none⟩) (Kd.R_far (p := ⟨w.heap.size, 1, none⟩) (Kd.R_far (p := ⟨w.heap.size, 0, none⟩) q3 (fun _ hk => hk.2) _) (fun _ hk => hk.2) _) (fun _ hk => hk.2) _) (fun _ hk => hk.2) _) (fun _ hk => hk.1)) (by omega), hst.2.1, hst.2.2.1, hst.2.2.2⟩
set_option maxRecDepth 100000 in
set_option maxHeartbeats 4000000 in
theorem obj_calls (NF : NodeFn) (g : Nat) (s : ByteArray) (x many D : Int) (w0 w : World) (hN : Goes NF s D)
    (hNode : ∀ (W : World) (x many : Int), IsS67 w0 W g s x many D → Below w0.heap.size w0 W → 0 ≤ x → x ≤ (s.size : Int) → 0 ≤ many → many ≤ 4000 → Calls Tryz.prog 29 #[.pointer (some ⟨g, 0, none⟩)] W fun e w' => NodeOut w0 W w' g s (NF x many D) e)
    (hI : IsS67 w0 w g s x many D) (hB : Below w0.heap.size w0 w) (h0 : 0 ≤ x) (h1 : x < (s.size : Int)) (hm0 : 0 ≤ many) (hm1 : many ≤ 4000) (hs : s.size ≤ 1073741824) (HTAB : Tabs w0) :
    Calls Tryz.prog 60 #[.pointer (some ⟨g, 0, none⟩)] w fun e w' => NodeOut w0 w w' g s (partsF NF s 7 125 x many D) e := by
  have hI1 : IsS67 w0 (w.alloc (.cells zcells 28)) g s x many D := hI.alloc _
  have hB1 : Below w0.heap.size w0 (w.alloc (.cells zcells 28)) := below_alloc hB _
  have hK1 : KeepBut w (w.alloc (.cells zcells 28)) g none := keep_alloc (KeepBut.refl w g none) _
  have hblk : (w.alloc (.cells zcells 28)).heap[w.heap.size]? = some (.cells zcells 28 (0, 0)) := heap_alloc_new w _
  have hne : w.heap.size ≠ g := (Nat.ne_of_lt hI.lt).symm
  have hge : w0.heap.size ≤ w.heap.size := hB.size
  have hsz : (w.alloc (.cells zcells 28)).heap.size = w.heap.size + 1 := by simp
  have hcall := parts_calls NF g s 7 125 x many D w0 (w.alloc (.cells zcells 28)) hN hNode (by decide) hI1 hB1 h0 h1 hm0 hm1 hs HTAB
  have HID := hid (And.intro hK1 (And.intro hblk (And.intro hne hge)))
  clear hK1 hblk hne hge hI1 hB1
  rcases hpf : partsF NF s 7 125 x many D with ⟨p, c⟩ | ⟨nd, z, m, d⟩
  · rw [hpf] at hcall
    go_enter Tryz.func60, Tryz.ntmps60
    go_wp2_with (go_at_call 86; refine hcall.mono ?_; rintro e w' ⟨rfl, hb⟩)
    exact ⟨rfl, rfl, hb⟩
  · rw [hpf] at hcall
    go_enter Tryz.func60, Tryz.ntmps60
    go_wp2_with (go_at_call 86; refine hcall.mono ?_; rintro e w' ⟨v2, v3, rfl, r2, r3, hi, hb, hk⟩; obtain ⟨A2, c2, e2⟩ := Kd.R_slice r2; obtain ⟨A3, c3, e3⟩ := Kd.R_slice r3; subst e2; subst e3; have HR := hid (And.intro r2 r3); clear r2 r3; have HH := hid (And.intro hi (And.intro hb hk)); clear hi hb hk; have hb2 := HH.out.2.2.blk HID.out.2.1 HID.out.2.2.1 (by simp); have hc0 := cell_of (i := 0) hb2 rfl; have hc1 := cell_of (i := 1) hb2 rfl; have hc2 := cell_of (i := 2) hb2 rfl; have hc3 := cell_of (i := 3) hb2 rfl; have hf0 := blk_frozen hb2 0; have hf1 := blk_frozen hb2 1; have hf2 := blk_frozen hb2 2; have hf3 := blk_frozen hb2 3; have HB2 := hid hb2; clear hb2)
    have hst := node_stored HH.out.1 HH.out.2.1 (HID.out.1.trans HH.out.2.2 (.inl rfl)) HB2.out HID.out.2.2.1 (Nat.le_refl _) HID.out.2.2.2 (.int .i64 nd.f0) (.string nd.f1) (.slice A2 nd.f2.length c2) (.slice A3 nd.f3.length c3)
    refine bodyPost_ret (results_cell_row rfl _ _ w.heap.size 28 #[.int .i64 nd.f0, .string nd.f1, .slice A2 nd.f2.length c2, .slice A3 nd.f3.length c3] (0, 0) _ rfl hst.1 Tryz.underlying28 rfl (by kernel_rfl)) rfl ?_
    have q2 := Kd.R_mono (Kd.R_bound HR.out.1) (ok' := fun k => True ∧ k ≠ w.heap.size) (fun k hk => ⟨trivial, by have := hk.2.1; omega⟩)
    have q3 := Kd.R_mono (Kd.R_bound HR.out.2) (ok' := fun k => some k ≠ (Value.slice A2 nd.f2.length c2).ownBlock ∧ k ≠ w.heap.size) (fun k hk => ⟨hk.1, by have := hk.2.1; omega⟩)
    exact ⟨_, _, rfl, Kd.R_lower (Kd.R_mono (Kd.R_far (p := ⟨w.heap.size, 3, none⟩) (Kd.R_far (p := ⟨w.heap.size, 2, none⟩) (Kd.R_far (p := ⟨w.heap.size, 1, none⟩) (Kd.R_far (p := ⟨w.heap.size, 0, none⟩) q2 (fun _ hk => hk.2) _) (fun _ hk => hk.2) _) (fun _ hk => hk.2) _) (fun _ hk => hk.2) _) (fun _ hk => hk.1)) (by omega), Kd.R_lower (Kd.R_mono (Kd.R_far (p := ⟨w.heap.size, 3, none⟩) (Kd.R_far (p := ⟨w.heap.size, 2, none⟩) (Kd.R_far (p := ⟨w.heap.size, 1, none⟩) (Kd.R_far (p := ⟨w.heap.size, 0, none⟩) q3 (fun _ hk => hk.2) _) (fun _ hk => hk.2) _) (fun _ hk => hk.2) _) (fun _ hk => hk.2) _) (fun _ hk => hk.1)) (by omega), hst.2.1, hst.2.2.1, hst.2.2.2⟩
end Go.Proofs.YtodnggilomanbaaGreatDoor.Hand
