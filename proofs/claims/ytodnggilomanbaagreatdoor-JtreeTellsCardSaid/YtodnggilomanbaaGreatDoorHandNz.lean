/-
  jtree's reader: list, obj: the walks. jtree's reader: node: what it comes to.
-/
import Derived.Test.YtodnggilomanbaaGreatDoorAp
import Derived.Test.YtodnggilomanbaaGreatDoorHandParts
section
set_option maxRecDepth 100000
set_option maxHeartbeats 4000000
namespace Go.Proofs.YtodnggilomanbaaGreatDoor.Hand
open Go.RowKit Go.Lib Go.Proofs.YtodnggilomanbaaGreatDoorW.PrintWords Go.Proofs.YtodnggilomanbaaGreatDoorW.PrintLast Go.Proofs.YtodnggilomanbaaGreatDoorW.PrintMore Go.Proofs.YtodnggilomanbaaGreatDoor.PAll
set_option linter.unusedVariables false
set_option linter.unusedSimpArgs false

theorem iv (NF : NodeFn) (g : Nat) (s : ByteArray) (x many D : Int) (w0 w : World) (hN : Goes NF s D)
 (hNode : ∀ (W : World) (x many : Int), IsS67 w0 W g s x many D → Below w0.heap.size w0 W → 0 ≤ x → x ≤ (s.size : Int) → 0 ≤ many → many ≤ 4000 → Calls Tryz.prog 29 #[.pointer (some ⟨g, 0, none⟩)] W fun e w' => NodeOut w0 W w' g s (NF x many D) e)
 (hI : IsS67 w0 w g s x many D) (hB : Below w0.heap.size w0 w) (h0 : 0 ≤ x) (h1 : x < (s.size : Int)) (hm0 : 0 ≤ many) (hm1 : many ≤ 4000) (hs : s.size ≤ 1073741824) (HTAB : Tabs w0) :
 Calls Tryz.prog 59 #[.pointer (some ⟨g, 0, none⟩)] w fun e w' => NodeOut w0 w w' g s (partsF NF s 6 93 x many D) e := by
 have hI1 : IsS67 w0 (w.alloc (.cells zcells 28)) g s x many D := hI.alloc _
 have hB1 : Below w0.heap.size w0 (w.alloc (.cells zcells 28)) := below_alloc hB _
 have hK1 : KeepBut w (w.alloc (.cells zcells 28)) g none := keep_alloc (KeepBut.refl w g none) _
 have hblk : (w.alloc (.cells zcells 28)).heap[w.heap.size]? = some (.cells zcells 28 (0, 0)) := heap_alloc_new w _
 have hne : w.heap.size ≠ g := (Nat.ne_of_lt hI.lt).symm
 have hge : w0.heap.size ≤ w.heap.size := hB.size
 have hsz : (w.alloc (.cells zcells 28)).heap.size = w.heap.size + 1 := by simp
 have hcall := eJ NF g s 6 93 x many D w0 (w.alloc (.cells zcells 28)) hN hNode (by decide) hI1 hB1 h0 h1 hm0 hm1 hs HTAB
 have HID := hid (And.intro hK1 (And.intro hblk (And.intro hne hge)))
 clear hK1 hblk hne hge hI1 hB1
 rcases hpf : partsF NF s 6 93 x many D with ⟨p, c⟩ | ⟨nd, z, m, d⟩
 ·rw [hpf] at hcall
  go_enter Tryz.func59, Tryz.ntmps59
  go_wp2_with (go_at_call 86; refine hcall.mono ?_; rintro e w' ⟨rfl, hb⟩)
  exact ⟨rfl, rfl, hb⟩
 ·rw [hpf] at hcall
  go_enter Tryz.func59, Tryz.ntmps59
  go_wp2_with (go_at_call 86; refine hcall.mono ?_; rintro e w' ⟨v2, v3, rfl, r2, r3, hi, hb, hk⟩; obtain ⟨A2, c2, e2⟩ := Kd.R_slice r2; obtain ⟨A3, c3, e3⟩ := Kd.R_slice r3; subst e2; subst e3; have HR := hid (And.intro r2 r3); clear r2 r3; have HH := hid (And.intro hi (And.intro hb hk)); clear hi hb hk; have hb2 := HH.out.2.2.blk HID.out.2.1 HID.out.2.2.1 (by simp); have hc0 := cell_of (i := 0) hb2 rfl; have hc1 := cell_of (i := 1) hb2 rfl; have hc2 := cell_of (i := 2) hb2 rfl; have hc3 := cell_of (i := 3) hb2 rfl; have hf0 := blk_frozen hb2 0; have hf1 := blk_frozen hb2 1; have hf2 := blk_frozen hb2 2; have hf3 := blk_frozen hb2 3; have HB2 := hid hb2; clear hb2)
  have hst := bX HH.out.1 HH.out.2.1 (HID.out.1.trans HH.out.2.2 (.inl rfl)) HB2.out HID.out.2.2.1 (Nat.le_refl _) HID.out.2.2.2 (.int .i64 nd.f0) (.string nd.f1) (.slice A2 nd.f2.length c2) (.slice A3 nd.f3.length c3)
  refine bodyPost_ret (results_cell_row rfl _ _ w.heap.size 28 #[.int .i64 nd.f0, .string nd.f1, .slice A2 nd.f2.length c2, .slice A3 nd.f3.length c3] (0, 0) _ rfl hst.1 Tryz.underlying28 rfl p12z) rfl ?_
  have q2 := Kd.R_mono (Kd.R_bound HR.out.1) (ok' := fun k => True ∧ k ≠ w.heap.size) (fun k hk => ⟨trivial, p114z⟩)
  have q3 := Kd.R_mono (Kd.R_bound HR.out.2) (ok' := fun k => some k ≠ (Value.slice A2 nd.f2.length c2).ownBlock ∧ k ≠ w.heap.size) (fun k hk => ⟨hk.1, p114z⟩)
  exact ⟨_, _, rfl, Kd.R_lower (Kd.R_mono (Kd.R_far (p := ⟨w.heap.size, 3, none⟩) (Kd.R_far (p := ⟨w.heap.size, 2, none⟩) (Kd.R_far (p := ⟨w.heap.size, 1, none⟩) (Kd.R_far (p := ⟨w.heap.size, 0, none⟩) q2 (fun _ hk => hk.2) _) (fun _ hk => hk.2) _) (fun _ hk => hk.2) _) (fun _ hk => hk.2) _) (fun _ hk => hk.1)) (by omega), Kd.R_lower (Kd.R_mono (Kd.R_far (p := ⟨w.heap.size, 3, none⟩) (Kd.R_far (p := ⟨w.heap.size, 2, none⟩) (Kd.R_far (p := ⟨w.heap.size, 1, none⟩) (Kd.R_far (p := ⟨w.heap.size, 0, none⟩) q3 (fun _ hk => hk.2) _) (fun _ hk => hk.2) _) (fun _ hk => hk.2) _) (fun _ hk => hk.2) _) (fun _ hk => hk.1)) (by omega), hst.2.1, hst.2.2.1, hst.2.2.2⟩
theorem obj_calls (NF : NodeFn) (g : Nat) (s : ByteArray) (x many D : Int) (w0 w : World) (hN : Goes NF s D)
 (hNode : ∀ (W : World) (x many : Int), IsS67 w0 W g s x many D → Below w0.heap.size w0 W → 0 ≤ x → x ≤ (s.size : Int) → 0 ≤ many → many ≤ 4000 → Calls Tryz.prog 29 #[.pointer (some ⟨g, 0, none⟩)] W fun e w' => NodeOut w0 W w' g s (NF x many D) e)
 (hI : IsS67 w0 w g s x many D) (hB : Below w0.heap.size w0 w) (h0 : 0 ≤ x) (h1 : x < (s.size : Int)) (hm0 : 0 ≤ many) (hm1 : many ≤ 4000) (hs : s.size ≤ 1073741824) (HTAB : Tabs w0) :
 Calls Tryz.prog 60 #[.pointer (some ⟨g, 0, none⟩)] w fun e w' => NodeOut w0 w w' g s (partsF NF s 7 125 x many D) e := by
 have hI1 : IsS67 w0 (w.alloc (.cells zcells 28)) g s x many D := hI.alloc _
 have hB1 : Below w0.heap.size w0 (w.alloc (.cells zcells 28)) := below_alloc hB _
 have hK1 : KeepBut w (w.alloc (.cells zcells 28)) g none := keep_alloc (KeepBut.refl w g none) _
 have hblk : (w.alloc (.cells zcells 28)).heap[w.heap.size]? = some (.cells zcells 28 (0, 0)) := heap_alloc_new w _
 have hne : w.heap.size ≠ g := (Nat.ne_of_lt hI.lt).symm
 have hge : w0.heap.size ≤ w.heap.size := hB.size
 have hsz : (w.alloc (.cells zcells 28)).heap.size = w.heap.size + 1 := by simp
 have hcall := eJ NF g s 7 125 x many D w0 (w.alloc (.cells zcells 28)) hN hNode (by decide) hI1 hB1 h0 h1 hm0 hm1 hs HTAB
 have HID := hid (And.intro hK1 (And.intro hblk (And.intro hne hge)))
 clear hK1 hblk hne hge hI1 hB1
 rcases hpf : partsF NF s 7 125 x many D with ⟨p, c⟩ | ⟨nd, z, m, d⟩
 ·rw [hpf] at hcall
  go_enter Tryz.func60, Tryz.ntmps60
  go_wp2_with (go_at_call 86; refine hcall.mono ?_; rintro e w' ⟨rfl, hb⟩)
  exact ⟨rfl, rfl, hb⟩
 ·rw [hpf] at hcall
  go_enter Tryz.func60, Tryz.ntmps60
  go_wp2_with (go_at_call 86; refine hcall.mono ?_; rintro e w' ⟨v2, v3, rfl, r2, r3, hi, hb, hk⟩; obtain ⟨A2, c2, e2⟩ := Kd.R_slice r2; obtain ⟨A3, c3, e3⟩ := Kd.R_slice r3; subst e2; subst e3; have HR := hid (And.intro r2 r3); clear r2 r3; have HH := hid (And.intro hi (And.intro hb hk)); clear hi hb hk; have hb2 := HH.out.2.2.blk HID.out.2.1 HID.out.2.2.1 (by simp); have hc0 := cell_of (i := 0) hb2 rfl; have hc1 := cell_of (i := 1) hb2 rfl; have hc2 := cell_of (i := 2) hb2 rfl; have hc3 := cell_of (i := 3) hb2 rfl; have hf0 := blk_frozen hb2 0; have hf1 := blk_frozen hb2 1; have hf2 := blk_frozen hb2 2; have hf3 := blk_frozen hb2 3; have HB2 := hid hb2; clear hb2)
  have hst := bX HH.out.1 HH.out.2.1 (HID.out.1.trans HH.out.2.2 (.inl rfl)) HB2.out HID.out.2.2.1 (Nat.le_refl _) HID.out.2.2.2 (.int .i64 nd.f0) (.string nd.f1) (.slice A2 nd.f2.length c2) (.slice A3 nd.f3.length c3)
  refine bodyPost_ret (results_cell_row rfl _ _ w.heap.size 28 #[.int .i64 nd.f0, .string nd.f1, .slice A2 nd.f2.length c2, .slice A3 nd.f3.length c3] (0, 0) _ rfl hst.1 Tryz.underlying28 rfl p12z) rfl ?_
  have q2 := Kd.R_mono (Kd.R_bound HR.out.1) (ok' := fun k => True ∧ k ≠ w.heap.size) (fun k hk => ⟨trivial, p114z⟩)
  have q3 := Kd.R_mono (Kd.R_bound HR.out.2) (ok' := fun k => some k ≠ (Value.slice A2 nd.f2.length c2).ownBlock ∧ k ≠ w.heap.size) (fun k hk => ⟨hk.1, p114z⟩)
  exact ⟨_, _, rfl, Kd.R_lower (Kd.R_mono (Kd.R_far (p := ⟨w.heap.size, 3, none⟩) (Kd.R_far (p := ⟨w.heap.size, 2, none⟩) (Kd.R_far (p := ⟨w.heap.size, 1, none⟩) (Kd.R_far (p := ⟨w.heap.size, 0, none⟩) q2 (fun _ hk => hk.2) _) (fun _ hk => hk.2) _) (fun _ hk => hk.2) _) (fun _ hk => hk.2) _) (fun _ hk => hk.1)) (by omega), Kd.R_lower (Kd.R_mono (Kd.R_far (p := ⟨w.heap.size, 3, none⟩) (Kd.R_far (p := ⟨w.heap.size, 2, none⟩) (Kd.R_far (p := ⟨w.heap.size, 1, none⟩) (Kd.R_far (p := ⟨w.heap.size, 0, none⟩) q3 (fun _ hk => hk.2) _) (fun _ hk => hk.2) _) (fun _ hk => hk.2) _) (fun _ hk => hk.2) _) (fun _ hk => hk.1)) (by omega), hst.2.1, hst.2.2.1, hst.2.2.2⟩
end Go.Proofs.YtodnggilomanbaaGreatDoor.Hand
end
section
namespace Go.Proofs.YtodnggilomanbaaGreatDoor.Hand
open Go.RowKit Go.Lib Go.Proofs.YtodnggilomanbaaGreatDoorW.PrintWords Go.Proofs.YtodnggilomanbaaGreatDoorW.PrintLast Go.Proofs.YtodnggilomanbaaGreatDoorW.PrintMore Go.Proofs.YtodnggilomanbaaGreatDoor.PAll
set_option linter.unusedVariables false
set_option linter.unusedSimpArgs false

/-- Whether a node begins with a byte. -/
def isWay (c : Int) : Bool := decide (c = 110) || decide (c = 102) || decide (c = 116) || decide (c = 34) || decide (c = 91) || decide (c = 123) || decide (c = 45) || (decide (48 ≤ c) && decide (c ≤ 57))
def wayF (NF : NodeFn) (s : ByteArray) (c x many deep : Int) : Except (Int × Int) (S28 × Int × Int × Int) :=
  if c = 110 then leafF s [110, 117, 108, 108] 1 x many deep
  else if c = 102 then leafF s [102, 97, 108, 115, 101] 2 x many deep
  else if c = 116 then leafF s [116, 114, 117, 101] 3 x many deep
  else if c = 34 then strN s x many deep
  else if c = 91 then partsF NF s 6 93 x many deep
  else if c = 123 then partsF NF s 7 125 x many deep
  else numberF s x many deep
def nodeF (s : ByteArray) : Nat → NodeFn
  | 0 => fun _ _ _ => .error (0, 0)
  | k + 1 => fun x many deep =>
    if isWay (nowF s (blanksF s x)) = true then
      if 4000 < many + 1 ∨ 60 < deep + 1 then .error (blanksF s x, 5)
      else match wayF (nodeF s k) s (nowF s (blanksF s x)) (blanksF s x) (many + 1) (deep + 1) with
        | .error e => .error e
        | .ok (nd, z, m, d) => .ok (nd, z, m, d - 1)
    else .error (blanksF s x, 140)
theorem wordF_len {s : ByteArray} : ∀ {t : List Int} {x y : Int}, wordF s t x = .ok y → y = x + t.length
 | [], x, y, h => by
  rw [wordF] at h
  cases h
  simp
 | c :: t, x, y, h => by
  rw [wordF] at h
  split at h
  ·cases h
  ·split at h
   ·have := wordF_len h
    rw [List.length_cons]
    omega
   ·cases h
theorem d8 {s : ByteArray} {t : List Int} {kind x many deep z m d : Int} {nd : S28} (ht : t ≠ []) (h0 : 0 ≤ x) (h1 : x ≤ (s.size : Int)) (h : leafF s t kind x many deep = .ok (nd, z, m, d)) : x < z ∧ z ≤ (s.size : Int) ∧ m = many ∧ d = deep := by
 unfold leafF at h
 split at h
 ·rename_i y hy
  have h2 := wordF_len hy
  have h3 := wordF_bd h0 h1 hy
  have h4 : 0 < t.length := by cases t with | nil => exact absurd rfl ht | cons _ _ => simp
  cases h
  exact ⟨by omega, h3.2, rfl, rfl⟩
 ·cases h
theorem strF_gt {s : ByteArray} {x y : Int} {o : ByteArray} (h0 : 0 ≤ x) (h1 : x ≤ (s.size : Int)) (h : strF s x = .ok (o, y)) : x < y := by
 unfold strF at h
 rw [word1 h1] at h
 split at h
 ·cases h
 ·rename_i z hz
  split at hz
  ·rename_i hx
   cases hz
   have hE := endF_le (s := s) (y := x + 1) (by omega) (by omega) rfl
   split at h
   ·cases h
   ·cases h
   ·split at h
    ·split at h
     ·cases h
      omega
     ·cases h
    ·cases h
  ·cases hz
theorem strN_goes {s : ByteArray} {x many deep z m d : Int} {nd : S28} (h0 : 0 ≤ x) (h1 : x ≤ (s.size : Int)) (h : strN s x many deep = .ok (nd, z, m, d)) : x < z ∧ z ≤ (s.size : Int) ∧ m = many ∧ d = deep := by
 unfold strN at h
 split at h
 ·rename_i o y hy
  have h2 := strF_gt h0 h1 hy
  have h3 := strF_bd h0 h1 hy
  cases h
  exact ⟨h2, h3.2, rfl, rfl⟩
 ·cases h
theorem ep {s : ByteArray} {x many deep z m d : Int} {nd : S28} (h0 : 0 ≤ x) (h1 : x ≤ (s.size : Int)) (h : numberF s x many deep = .ok (nd, z, m, d)) : x < z ∧ z ≤ (s.size : Int) ∧ m = many ∧ d = deep := by
 unfold numberF at h
 have hb := numAt_bd h0 h1
 split at h
 ·cases h
 ·split at h
  ·cases h
  ·rename_i hn h40
   have hl := ndg_le ((bytesOf s).drop (numAt s x).toNat)
   rw [List.length_drop, bytesOf_length] at hl
   have hL : 1 ≤ numLen s (numAt s x) ∧ numAt s x + numLen s (numAt s x) ≤ (s.size : Int) := by
    unfold numLen
    split <;> omega
   cases h
   exact ⟨by omega, hL.2, rfl, rfl⟩
theorem dn (s : ByteArray) : ∀ (k : Nat) (D : Int), Goes (nodeF s k) s D
 | 0, D => fun x many nd z m d h0 h1 hm0 hm1 h => by rw [nodeF] at h; cases h
 | k + 1, D => fun x many nd z m d h0 h1 hm0 hm1 h => by
  rw [nodeF] at h
  have hb := ca h0 h1
  simp only at h
  split at h
  ·rename_i hw
   split at h
   ·cases h
   ·rename_i hlim
    split at h
    ·cases h
    ·rename_i nd' z' m' d' hv
     have key : blanksF s x < z' ∧ z' ≤ (s.size : Int) ∧ 0 ≤ m' ∧ m' ≤ 4000 ∧ d' = D + 1 := by
      have y0 : 0 ≤ blanksF s x := by omega
      have y1 := hb.2
      unfold wayF at hv
      split at hv
      ·have := d8 (by simp) y0 y1 hv; omega
      ·split at hv
       ·have := d8 (by simp) y0 y1 hv; omega
       ·split at hv
        ·have := d8 (by simp) y0 y1 hv; omega
        ·split at hv
         ·have := strN_goes y0 y1 hv; omega
         ·split at hv
          ·rename_i hc
           have hy := nowF_lt y1 (by decide) hc
           exact partsF_bd (dn s k (D + 1)) (by decide) y0 hy (by omega) (by omega) hv
          ·split at hv
           ·rename_i hc
            have hy := nowF_lt y1 (by decide) hc
            exact partsF_bd (dn s k (D + 1)) (by decide) y0 hy (by omega) (by omega) hv
           ·have := ep y0 y1 hv; omega
     cases h
     exact ⟨by omega, key.2.1, key.2.2.1, key.2.2.2.1, by omega⟩
  ·cases h
end Go.Proofs.YtodnggilomanbaaGreatDoor.Hand
end
