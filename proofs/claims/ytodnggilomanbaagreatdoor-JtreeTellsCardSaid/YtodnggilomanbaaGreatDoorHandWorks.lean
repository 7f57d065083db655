/-
  works: the walk by hand.
-/
import Derived.Test.YtodnggilomanbaaGreatDoorAp
import Derived.Test.YtodnggilomanbaaGreatDoorHandStep
import Derived.Test.YtodnggilomanbaaGreatDoorGW
import Derived.Test.YtodnggilomanbaaGreatDoorGX
import Derived.Test.YtodnggilomanbaaGreatDoorPX0
set_option maxRecDepth 100000
set_option maxHeartbeats 8000000
namespace Go.Proofs.YtodnggilomanbaaGreatDoor.PAll
open Go.Proofs.YtodnggilomanbaaGreatDoor.Hand
open Go.RowKit Go.Lib Go.Proofs.YtodnggilomanbaaGreatDoorW.PrintWords Go.Proofs.YtodnggilomanbaaGreatDoorW.PrintLast Go.Proofs.YtodnggilomanbaaGreatDoorW.PrintMore
set_option linter.unusedVariables false
set_option linter.unusedSimpArgs false
attribute [-simp] List.length_take List.length_drop ByteArray.size_extract

abbrev wk1 : ByteArray := ⟨#[123, 34, 97, 34, 58, 32, 91, 49, 44, 32, 45, 50, 48, 44, 32, 34, 120, 92, 110, 34, 93, 44, 32, 34, 98, 34, 58, 32, 110, 117, 108, 108, 125]⟩
abbrev wk2 : ByteArray := ⟨#[34, 92, 117, 48, 48, 101, 52, 92, 117, 100, 56, 51, 100, 92, 117, 100, 101, 48, 48, 92, 47, 34]⟩
def wkc1 : Bool := match bM.f 60 wk1 with
  | none => false
  | some (a, b, q, d, x, e) => (decide (x = 0) && decide (e = 0)) && ((match cy.f 60 a b q d with
    | none => false
    | some (t, c) => decide (t.toList = ([123, 34, 97, 34, 58, 91, 49, 44, 45, 50, 48, 44, 34, 120, 92, 110, 34, 93, 44, 34, 98, 34, 58, 110, 117, 108, 108, 125] : List UInt8)) && decide (c = 0)) && ((match jtree_Get.f 60 a b q d ⟨#[98]⟩ with
    | none => false
    | some (k, _, _, _, is) => decide (k = 1) && is) && (match aI.f 60 a b q d with
    | none => false
    | some c => decide (c = 6))))
def wkc2 : Bool := match bM.f 60 wk2 with
  | none => false
  | some (a, b, _, _, x, e) => (decide (a = 5) && decide (e = 0)) && decide (b.toList = ([195, 164, 240, 159, 152, 128, 47] : List UInt8))
def wkB : Option Bool → Bool
  | some true => true
  | _ => false
def wkc3 : Bool := wkB (ay.f 60 ⟨#[48, 49]⟩ 1) && (wkB (ay.f 60 ⟨#[49, 46, 53]⟩ 1) && (wkB (ay.f 60 ⟨#[91, 49, 44, 93]⟩ 3) && (wkB (ay.f 60 ⟨#[123, 34, 97, 34, 58, 49, 44, 34, 97, 34, 58, 50, 125]⟩ 7) && (wkB (ay.f 60 ⟨#[34, 92, 117, 100, 56, 51, 100, 34]⟩ 0) && (wkB (ay.f 60 ⟨#[116, 114, 117]⟩ 3) && wkB (ay.f 60 ⟨#[]⟩ 0))))))
theorem wkc : wkc1 = true ∧ wkc2 = true ∧ wkc3 = true := p103z
theorem wkB_at {o : Option Bool} (h : wkB o = true) : o = some true := by
 unfold wkB at h
 split at h
 ·rfl
 ·cases h
theorem wk1_at : ∃ a b q d, bM.f 60 wk1 = some (a, b, q, d, 0, 0) ∧ (∃ t : ByteArray, cy.f 60 a b q d = some (t, 0) ∧ t.toList = ([123, 34, 97, 34, 58, 91, 49, 44, 45, 50, 48, 44, 34, 120, 92, 110, 34, 93, 44, 34, 98, 34, 58, 110, 117, 108, 108, 125] : List UInt8)) ∧ (∃ b1 q1 d1, jtree_Get.f 60 a b q d ⟨#[98]⟩ = some (1, b1, q1, d1, true)) ∧ aI.f 60 a b q d = some 6 := by
 have h := wkc.1
 unfold wkc1 at h
 split at h
 ·cases h
 ·rename_i a b q d x e hp
  simp only [Bool.and_eq_true, decide_eq_true_eq] at h
  obtain ⟨⟨rfl, rfl⟩, h1, h2, h3⟩ := h
  refine ⟨a, b, q, d, hp, ?_, ?_, ?_⟩
  ·split at h1
   ·cases h1
   ·rename_i t c ht
    simp only [Bool.and_eq_true, decide_eq_true_eq] at h1
    obtain ⟨g1, rfl⟩ := h1
    exact ⟨t, ht, g1⟩
  ·split at h2
   ·cases h2
   ·rename_i k b1 q1 d1 is ht
    simp only [Bool.and_eq_true, decide_eq_true_eq] at h2
    obtain ⟨rfl, rfl⟩ := h2
    exact ⟨b1, q1, d1, ht⟩
  ·split at h3
   ·cases h3
   ·rename_i c ht
    rw [ht, of_decide_eq_true h3]
theorem wk2_at : ∃ b q d x, bM.f 60 wk2 = some (5, b, q, d, x, 0) ∧ b.toList = ([195, 164, 240, 159, 152, 128, 47] : List UInt8) := by
 have h := wkc.2.1
 unfold wkc2 at h
 split at h
 ·cases h
 ·rename_i a b q d x e hp
  simp only [Bool.and_eq_true, decide_eq_true_eq] at h
  obtain ⟨⟨rfl, rfl⟩, h1⟩ := h
  exact ⟨b, q, d, x, hp, h1⟩
theorem gZ (w : World) (HTAB : Tabs w) : Calls Tryz.prog 9 #[] w fun e w' => e = .returned (.bool true) ∧ Below w.heap.size w w' := by
  obtain ⟨a, b, q, d, hP, ⟨t, hT, htl⟩, ⟨b1, q1, d1, hG⟩, hN⟩ := wk1_at
  obtain ⟨u, uq, ud, ux, hU, hul⟩ := wk2_at
  have h3 := wkc.2.2
  unfold wkc3 at h3
  simp only [Bool.and_eq_true] at h3
  obtain ⟨g1, g2, g3, g4, g5, g6, g7⟩ := h3
  have hcP := bM.calls 60 wk1 a b q d 0 0 w hP HTAB
  go_enter Tryz.func9, Tryz.ntmps9
  go_upto_region 2 with (go_at_call 7; refine hcP.mono ?_; rintro e w1 ⟨v2, v3, rfl, hr2, hr3, hB1⟩; obtain ⟨A2, c2, rfl, hc2, hC2⟩ := Kd.R_reads hr2; obtain ⟨A3, c3, rfl, hc3, hC3⟩ := Kd.R_reads hr3; clear hr2 hr3)
  have hU2 : Below w1.heap.size w1 (w1.alloc (.cells #[.int .i64 a, .string b, .slice A2 q.length c2, .slice A3 d.length c3] 28)) := below_alloc (Below.refl _ _) _
  have hbN := heap_alloc_new w1 (.cells #[.int .i64 a, .string b, .slice A2 q.length c2, .slice A3 d.length c3] 28)
  have hB2 := below_step hB1 hU2
  have hC22 := Kd.C_below hC2 hU2
  have hC32 := Kd.C_below hC3 hU2
  obtain ⟨bn, hbn⟩ : ∃ bn, w1.heap.size = bn := ⟨_, rfl⟩
  obtain ⟨w2, hw2⟩ : ∃ w2, w1.alloc (.cells #[.int .i64 a, .string b, .slice A2 q.length c2, .slice A3 d.length c3] 28) = w2 := ⟨_, rfl⟩
  rw [hw2] at hbN hB2 hC22 hC32 ⊢
  rw [hbn] at hbN ⊢
  clear hC2 hC3 hU2 hw2 hbn hB1 hcP hP
  have hcT := cy.calls 60 a b A2 c2 q A3 c3 d _ _ w2 hC22 hc2 hC32 hc3 hT (HTAB.below hB2)
  obtain ⟨k0, k1, k2, k3, -⟩ := cells4 hbN
  go_upto_region 3 with (go_at_call 13; refine hcT.mono ?_; rintro e w3 ⟨rfl, hb⟩; have hB3 := below_step hB2 hb; have hbN3 := blk_below hbN hb; have hC23 := Kd.C_below hC22 hb; have hC33 := Kd.C_below hC32 hb; clear hb)
  clear k0 k1 k2 k3 hcT hT hB2 hbN hC22 hC32
  have hcG := jtree_Get.calls 60 a b A2 c2 q A3 c3 d ⟨#[98]⟩ 1 b1 q1 d1 true w3 hC23 hc2 hC33 hc3 hG
  obtain ⟨k0, k1, k2, k3, -⟩ := cells4 hbN3
  go_upto_region 4 with (go_at_call 15; refine hcG.mono ?_; rintro e w4 ⟨v2, v3, rfl, hr2, hr3, hb⟩; obtain ⟨G2, e2, rfl, _, _⟩ := Kd.R_reads hr2; obtain ⟨G3, e3, rfl, _, _⟩ := Kd.R_reads hr3; have hB4 := below_step hB3 hb; have hbN4 := blk_below hbN3 hb; have hC24 := Kd.C_below hC23 hb; have hC34 := Kd.C_below hC33 hb; clear hb hr2 hr3)
  clear k0 k1 k2 k3 hcG hG hB3 hbN3 hC23 hC33
  have hU5 : Below w4.heap.size w4 (w4.alloc (.cells #[.int .i64 1, .string b1, .slice G2 q1.length e2, .slice G3 d1.length e3] 28)) := below_alloc (Below.refl _ _) _
  have hbG := heap_alloc_new w4 (.cells #[.int .i64 1, .string b1, .slice G2 q1.length e2, .slice G3 d1.length e3] 28)
  have hB5 := below_step hB4 hU5
  have hbN5 := blk_below hbN4 hU5
  have hC25 := Kd.C_below hC24 hU5
  have hC35 := Kd.C_below hC34 hU5
  obtain ⟨bg, hbg⟩ : ∃ bg, w4.heap.size = bg := ⟨_, rfl⟩
  obtain ⟨w5, hw5⟩ : ∃ w5, w4.alloc (.cells #[.int .i64 1, .string b1, .slice G2 q1.length e2, .slice G3 d1.length e3] 28) = w5 := ⟨_, rfl⟩
  rw [hw5] at hbG hB5 hbN5 hC25 hC35 ⊢
  rw [hbg] at hbG ⊢
  clear hC24 hC34 hU5 hw5 hbg hB4 hbN4
  have hcU := bM.calls 60 wk2 5 u uq ud ux 0 w5 hU (HTAB.below hB5)
  go_upto_region 5 with (go_at_call 7; refine hcU.mono ?_; rintro e w6 ⟨v2, v3, rfl, hr2, hr3, hb⟩; obtain ⟨H2, i2, rfl, _, _⟩ := Kd.R_reads hr2; obtain ⟨H3, i3, rfl, _, _⟩ := Kd.R_reads hr3; have hB6 := below_step hB5 hb; have hbN6 := blk_below hbN5 hb; have hbG6 := blk_below hbG hb; have hC26 := Kd.C_below hC25 hb; have hC36 := Kd.C_below hC35 hb; clear hb hr2 hr3)
  clear hcU hU hB5 hbN5 hbG hC25 hC35
  have hU7 : Below w6.heap.size w6 (w6.alloc (.cells #[.int .i64 5, .string u, .slice H2 uq.length i2, .slice H3 ud.length i3] 28)) := below_alloc (Below.refl _ _) _
  have hbU := heap_alloc_new w6 (.cells #[.int .i64 5, .string u, .slice H2 uq.length i2, .slice H3 ud.length i3] 28)
  have hB7 := below_step hB6 hU7
  have hbN7 := blk_below hbN6 hU7
  have hbG7 := blk_below hbG6 hU7
  have hC27 := Kd.C_below hC26 hU7
  have hC37 := Kd.C_below hC36 hU7
  obtain ⟨bu, hbu⟩ : ∃ bu, w6.heap.size = bu := ⟨_, rfl⟩
  obtain ⟨w7, hw7⟩ : ∃ w7, w6.alloc (.cells #[.int .i64 5, .string u, .slice H2 uq.length i2, .slice H3 ud.length i3] 28) = w7 := ⟨_, rfl⟩
  rw [hw7] at hbU hB7 hbN7 hbG7 hC27 hC37 ⊢
  rw [hbu] at hbU ⊢
  clear hC26 hC36 hU7 hw7 hbu hB6 hbN6 hbG6
  have hcN := aI.calls 60 a b A2 c2 q A3 c3 d 6 w7 hC27 hc2 hC37 hc3 hN
  have t1 : (t.toList == ([123, 34, 97, 34, 58, 91, 49, 44, 45, 50, 48, 44, 34, 120, 92, 110, 34, 93, 44, 34, 98, 34, 58, 110, 117, 108, 108, 125] : List UInt8)) = true := beq_iff_eq.mpr htl
  have t2 : (t.toList != ([123, 34, 97, 34, 58, 91, 49, 44, 45, 50, 48, 44, 34, 120, 92, 110, 34, 93, 44, 34, 98, 34, 58, 110, 117, 108, 108, 125] : List UInt8)) = false := bne_eq_false_iff_eq.mpr htl
  have u1 : (u.toList == ([195, 164, 240, 159, 152, 128, 47] : List UInt8)) = true := beq_iff_eq.mpr hul
  have u2 : (u.toList != ([195, 164, 240, 159, 152, 128, 47] : List UInt8)) = false := bne_eq_false_iff_eq.mpr hul
  clear htl hul
  obtain ⟨k0, k1, k2, k3, -⟩ := cells4 hbN7
  have m0 := cell_of (i := 0) hbG7 rfl
  have n0 := cell_of (i := 0) hbU rfl
  have n1 := cell_of (i := 1) hbU rfl
  go_upto_region 7 with (go_at_call 22; refine hcN.mono ?_; rintro e w8 ⟨rfl, hb⟩; have hB8 := below_step hB7 hb; have hbU8 := blk_below hbU hb; clear hb; have n0 := cell_of (i := 0) hbU8 rfl; have n1 := cell_of (i := 1) hbU8 rfl)
  have HB := Aside0.mk hB8
  clear hB8
  go_wp2_with (go_at_call 38; (first | with_reducible refine (ay.calls 60 ⟨#[48, 49]⟩ 1 true _ (wkB_at g1) (HTAB.below HB.out)).mono ?_ | with_reducible refine (ay.calls 60 ⟨#[49, 46, 53]⟩ 1 true _ (wkB_at g2) (HTAB.below HB.out)).mono ?_ | with_reducible refine (ay.calls 60 ⟨#[91, 49, 44, 93]⟩ 3 true _ (wkB_at g3) (HTAB.below HB.out)).mono ?_ | with_reducible refine (ay.calls 60 ⟨#[123, 34, 97, 34, 58, 49, 44, 34, 97, 34, 58, 50, 125]⟩ 7 true _ (wkB_at g4) (HTAB.below HB.out)).mono ?_ | with_reducible refine (ay.calls 60 ⟨#[34, 92, 117, 100, 56, 51, 100, 34]⟩ 0 true _ (wkB_at g5) (HTAB.below HB.out)).mono ?_ | with_reducible refine (ay.calls 60 ⟨#[116, 114, 117]⟩ 3 true _ (wkB_at g6) (HTAB.below HB.out)).mono ?_ | with_reducible refine (ay.calls 60 ⟨#[]⟩ 0 true _ (wkB_at g7) (HTAB.below HB.out)).mono ?_); rintro e w9 ⟨rfl, hb⟩; have n_ := Aside0.mk (below_step HB.out hb); clear HB hb; have HB := n_; clear n_)
  go_ret
  exact ⟨rfl, HB.out⟩
/-- The chapter's texts are as they shall be. -/
def cj.f (k : Nat) : Option Bool := if 60 ≤ k then some true else none
theorem cj.calls (k : Nat) (r : Bool) (w : World) (h : cj.f k = some r) (HTB_ : Tabs w) : Calls Tryz.prog 9 #[] w fun e w' => e = .returned (.bool r) ∧ Below w.heap.size w w' := by
 unfold cj.f at h
 split at h
 ·obtain rfl := Option.some.inj h
  exact gZ w HTB_
 ·cases h
end Go.Proofs.YtodnggilomanbaaGreatDoor.PAll
