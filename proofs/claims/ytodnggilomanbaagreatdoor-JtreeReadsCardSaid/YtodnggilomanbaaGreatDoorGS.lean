-- Written by this repo's program wip/tools/pr.py (over the kit's print) out of the translation. Not trusted: Lean checks it.
import Derived.Test.YtodnggilomanbaaGreatDoorAp
import Derived.Test.YtodnggilomanbaaGreatDoorGR
set_option maxHeartbeats 8000000
set_option maxRecDepth 100000
namespace Go.Proofs.YtodnggilomanbaaGreatDoor.PAll
open Go.RowKit Go.Proofs.YtodnggilomanbaaGreatDoorW.PrintWords Go.Proofs.YtodnggilomanbaaGreatDoorW.PrintLast Go.Proofs.YtodnggilomanbaaGreatDoorW.PrintMore
attribute [local go_sem] max2_int min2_int max_two min_two max_three min_three max_four min_four   -- for this text's walks alone
set_option linter.unusedVariables false
set_option linter.unusedSimpArgs false

/-! ### slices_Index_string_string: function 42 -/
def slices_Index_string_string.l0 : Nat → List ByteArray → ByteArray → Int → Int → Option (Int)
  | 0, _, _, _, _ => none
  | k + 1, x0, x1, x7, x8 => if x8 < x7 then (if 0 ≤ x8 then (if x8 < (x0.length : Int) then (if x1.toList = (rdOf ByteArray.empty x0 x8).toList then (some x8) else (slices_Index_string_string.l0 k x0 x1 x7 (wrap64 (x8 + 1)))) else (none)) else (none)) else (some (-1))
def slices_Index_string_string.f (k : Nat) (l0 : List ByteArray) (a1 : ByteArray) : Option (Int) := slices_Index_string_string.l0 k l0 a1 (l0.length : Int) 0
theorem slices_Index_string_string.mono_l : ∀ k, (∀ y0 y1 y2 y3, LeO (slices_Index_string_string.l0 k y0 y1 y2 y3) (slices_Index_string_string.l0 (k + 1) y0 y1 y2 y3))
 | 0 => fun _ _ _ _ r h => by simp [slices_Index_string_string.l0] at h
 | k + 1 => by
  have ih0 := slices_Index_string_string.mono_l k
  ·intro y0 y1 y2 y3
   unfold slices_Index_string_string.l0
   exact moz
theorem slices_Index_string_string.mono : ∀ a0 a1 k, LeO (slices_Index_string_string.f k a0 a1) (slices_Index_string_string.f (k + 1) a0 a1) := by
  intro a0 a1 k
  have ih0 := slices_Index_string_string.mono_l k
  unfold slices_Index_string_string.f
  exact moz
theorem slices_Index_string_string.calls (k : Nat) (A0 : Option Addr) (c0 : Nat) (l0 : List ByteArray) (a1 : ByteArray) (r : Int) (w : World) (hr0 : Kd.C Kd.string w A0 l0.length l0) (hc0 : l0.length ≤ c0) (h : slices_Index_string_string.f k l0 a1 = some r) :
 Calls Tryz.prog 42 #[.slice A0 l0.length c0, .string a1] w fun e w' => e = .returned (.int .i64 r) ∧ Drawn0 w w' := by
 have HR0 := Aside0.mk hr0
 have HC0 := Aside0.mk hc0
 clear hr0 hc0
 have H : (slices_Index_string_string.l0 k l0 a1 (l0.length : Int) 0) = some r := h
 clear h
 have H' := Aside0.mk H
 clear H
 go_enter Tryz.func42, Tryz.ntmps42
 go_wp2
 go_loopg [8] k (fun kq v8 w' => ∃ (cz : Int), v8 = .int .i64 cz ∧ Aside0 (slices_Index_string_string.l0 kq l0 a1 (l0.length : Int) cz = some r) ∧ Aside0 (kq ≤ k) ∧ Drawn0 w w')
 case atStart => exact ⟨(0), p7z, H', ⟨Nat.le_refl _⟩, p9z⟩
 case round =>
  clear H'
  try clear p2
  obtain ⟨cz, rfl, HA, HK1, ⟨m1, rfl⟩⟩ := hrel
  cases gk with
  | zero => exact absurd HA.out (by simp [slices_Index_string_string.l0])
  | succ k1 =>
   have H := HA.out
   clear HA
   simp only [slices_Index_string_string.l0] at H
   by_cases c3 : cz < (l0.length : Int)
   case neg =>
    rw [if_neg c3] at H
    have bQ : decide (cz < (l0.length : Int)) = false := decide_eq_false c3
    clear c3
    obtain rfl := Option.some.inj H
    go_wp2
    go_ret
    exact ⟨p7z, p9z⟩

   rw [if_pos c3] at H
   have bQ : decide (cz < (l0.length : Int)) = true := decide_eq_true c3
   clear c3
   by_cases c4 : 0 ≤ cz
   case neg =>
    rw [if_neg c4] at H
    exact absurd H (by simp)
   rw [if_pos c4] at H
   have bC : decide (0 ≤ cz) = true := decide_eq_true c4
   clear c4
   by_cases c5 : cz < (l0.length : Int)
   case neg =>
    rw [if_neg c5] at H
    exact absurd H (by simp)
   rw [if_pos c5] at H
   have cH : decide (cz < (l0.length : Int)) = true := decide_eq_true c5
   clear c5
   by_cases c6 : a1.toList = (rdOf ByteArray.empty l0 cz).toList
   case pos =>
    rw [if_pos c6] at H
    have cd : (a1.toList == (rdOf ByteArray.empty l0 cz).toList) = true := beq_iff_eq.mpr c6
    have di : (a1.toList != (rdOf ByteArray.empty l0 cz).toList) = false := bne_eq_false_iff_eq.mpr c6
    clear c6
    obtain rfl := Option.some.inj H
    have p105 : 0 ≤ (cz : Int) := of_decide_eq_true p4z
    have q105 : cz < (l0.length : Int) := of_decide_eq_true p4z
    obtain ⟨ad105, e105, hx105_0⟩ := Kd.at_string HR0.out cz p105 q105
    cases e105
    replace p105 := eq_true p105
    replace q105 := eq_true q105
    go_wp2
    go_ret
    exact ⟨p7z, p9z⟩
   rw [if_neg c6] at H
   have cd : (a1.toList == (rdOf ByteArray.empty l0 cz).toList) = false := beq_eq_false_iff_ne.mpr c6
   have di : (a1.toList != (rdOf ByteArray.empty l0 cz).toList) = true := bne_iff_ne.mpr c6
   have H' := Aside0.mk H
   clear H
   have p105 : 0 ≤ (cz : Int) := of_decide_eq_true p4z
   have q105 : cz < (l0.length : Int) := of_decide_eq_true p4z
   obtain ⟨ad105, e105, hx105_0⟩ := Kd.at_string HR0.out cz p105 q105
   cases e105
   replace p105 := eq_true p105
   replace q105 := eq_true q105
   go_wp2
   go_roundg k1
   case measure => have := HK1.out; omega
   case rel => exact ⟨(wrap64 (cz + 1)), p7z, H', ⟨p61z⟩, p9z⟩
/-! ### slices_Equal_string_string: function 48 -/
def slices_Equal_string_string.l0 : Nat → List ByteArray → List ByteArray → Int → Int → Option (Bool)
  | 0, _, _, _, _ => none
  | k + 1, x0, x1, x12, x13 => if x13 < x12 then (if 0 ≤ x13 then (if x13 < (x0.length : Int) then (if x13 < (x1.length : Int) then (if (rdOf ByteArray.empty x0 x13).toList = (rdOf ByteArray.empty x1 x13).toList then (slices_Equal_string_string.l0 k x0 x1 x12 (wrap64 (x13 + 1))) else (some false)) else (none)) else (none)) else (none)) else (some true)
def slices_Equal_string_string.f (k : Nat) (l0 : List ByteArray) (l1 : List ByteArray) : Option (Bool) := if (l0.length : Int) = (l1.length : Int) then (slices_Equal_string_string.l0 k l0 l1 (l0.length : Int) 0) else (some false)
theorem slices_Equal_string_string.mono_l : ∀ k, (∀ y0 y1 y2 y3, LeO (slices_Equal_string_string.l0 k y0 y1 y2 y3) (slices_Equal_string_string.l0 (k + 1) y0 y1 y2 y3))
 | 0 => fun _ _ _ _ r h => by simp [slices_Equal_string_string.l0] at h
 | k + 1 => by
  have ih0 := slices_Equal_string_string.mono_l k
  ·intro y0 y1 y2 y3
   unfold slices_Equal_string_string.l0
   exact moz
theorem slices_Equal_string_string.mono : ∀ a0 a1 k, LeO (slices_Equal_string_string.f k a0 a1) (slices_Equal_string_string.f (k + 1) a0 a1) := by
  intro a0 a1 k
  have ih0 := slices_Equal_string_string.mono_l k
  unfold slices_Equal_string_string.f
  exact moz
theorem slices_Equal_string_string.calls (k : Nat) (A0 : Option Addr) (c0 : Nat) (l0 : List ByteArray) (A1 : Option Addr) (c1 : Nat) (l1 : List ByteArray) (r : Bool) (w : World) (hr0 : Kd.C Kd.string w A0 l0.length l0) (hc0 : l0.length ≤ c0) (hr1 : Kd.C Kd.string w A1 l1.length l1) (hc1 : l1.length ≤ c1) (h : slices_Equal_string_string.f k l0 l1 = some r) :
 Calls Tryz.prog 48 #[.slice A0 l0.length c0, .slice A1 l1.length c1] w fun e w' => e = .returned (.bool r) ∧ Drawn0 w w' := by
 have HR0 := Aside0.mk hr0
 have HC0 := Aside0.mk hc0
 clear hr0 hc0
 have HR1 := Aside0.mk hr1
 have HC1 := Aside0.mk hc1
 clear hr1 hc1
 have H : (if (l0.length : Int) = (l1.length : Int) then (slices_Equal_string_string.l0 k l0 l1 (l0.length : Int) 0) else (some false)) = some r := h
 clear h
 by_cases c3 : (l0.length : Int) = (l1.length : Int)
 case neg =>
  rw [if_neg c3] at H
  have bQ : ((l0.length : Int) == (l1.length : Int)) = false := beq_eq_false_iff_ne.mpr c3
  have cW : ((l0.length : Int) != (l1.length : Int)) = true := bne_iff_ne.mpr c3
  have fC : (l0.length == l1.length) = false := by first | simpa using c3 | (simp at c3 ⊢; omega)
  obtain rfl := Option.some.inj H
  go_enter Tryz.func48, Tryz.ntmps48
  go_wp2
  repeat (go_quiet (fail); try go_wp2)
  go_ret
  exact ⟨p7z, p9z⟩
 rw [if_pos c3] at H
 have bQ : ((l0.length : Int) == (l1.length : Int)) = true := beq_iff_eq.mpr c3
 have cW : ((l0.length : Int) != (l1.length : Int)) = false := bne_eq_false_iff_eq.mpr c3
 have fC : (l0.length == l1.length) = true := by first | simpa using c3 | (simp at c3 ⊢; omega)
 clear c3
 have H' := Aside0.mk H
 clear H
 go_enter Tryz.func48, Tryz.ntmps48
 go_wp2
 repeat (go_quiet (fail); try go_wp2)
 go_loopg [13] k (fun kq v13 w' => ∃ (b4 : Int), v13 = .int .i64 b4 ∧ Aside0 (slices_Equal_string_string.l0 kq l0 l1 (l0.length : Int) b4 = some r) ∧ Aside0 (kq ≤ k) ∧ Drawn0 w w')
 case atStart => exact ⟨(0), p7z, H', ⟨Nat.le_refl _⟩, p9z⟩
 case round =>
  clear H'
  try clear c1
  try clear p2
  try clear c3
  try clear bQ
  try clear cW
  try clear fC
  obtain ⟨b4, rfl, HA, HK1, ⟨m1, rfl⟩⟩ := hrel
  cases gk with
  | zero => exact absurd HA.out (by simp [slices_Equal_string_string.l0])
  | succ k1 =>
   have H := HA.out
   clear HA
   simp only [slices_Equal_string_string.l0] at H
   by_cases c4 : b4 < (l0.length : Int)
   case neg =>
    rw [if_neg c4] at H
    have bC : decide (b4 < (l0.length : Int)) = false := decide_eq_false c4
    clear c4
    obtain rfl := Option.some.inj H
    go_wp2
    repeat (go_quiet (fail); try go_wp2)
    go_ret
    exact ⟨p7z, p9z⟩
   rw [if_pos c4] at H
   have bC : decide (b4 < (l0.length : Int)) = true := decide_eq_true c4
   clear c4
   by_cases c5 : 0 ≤ b4
   case neg =>
    rw [if_neg c5] at H
    exact absurd H (by simp)
   rw [if_pos c5] at H
   have cH : decide (0 ≤ b4) = true := decide_eq_true c5
   clear c5
   by_cases c6 : b4 < (l0.length : Int)
   case neg =>
    rw [if_neg c6] at H
    exact absurd H (by simp)
   rw [if_pos c6] at H
   have cd : decide (b4 < (l0.length : Int)) = true := decide_eq_true c6
   clear c6
   by_cases c7 : b4 < (l1.length : Int)
   case neg =>
    rw [if_neg c7] at H
    exact absurd H (by simp)
   rw [if_pos c7] at H
   have dj : decide (b4 < (l1.length : Int)) = true := decide_eq_true c7
   clear c7
   by_cases c8 : (rdOf ByteArray.empty l0 b4).toList = (rdOf ByteArray.empty l1 b4).toList
   case neg =>
    rw [if_neg c8] at H
    have dx : ((rdOf ByteArray.empty l0 b4).toList == (rdOf ByteArray.empty l1 b4).toList) = false := beq_eq_false_iff_ne.mpr c8
    have fD : ((rdOf ByteArray.empty l0 b4).toList != (rdOf ByteArray.empty l1 b4).toList) = true := bne_iff_ne.mpr c8
    obtain rfl := Option.some.inj H
    have p106 : 0 ≤ (b4 : Int) := of_decide_eq_true p4z
    have q106 : b4 < (l0.length : Int) := of_decide_eq_true p4z
    obtain ⟨ad106, e106, hx106_0⟩ := Kd.at_string HR0.out b4 p106 q106
    cases e106
    replace p106 := eq_true p106
    replace q106 := eq_true q106
    have p107 : 0 ≤ (b4 : Int) := of_decide_eq_true p4z
    have q107 : b4 < (l1.length : Int) := of_decide_eq_true p4z
    obtain ⟨ad107, e107, hx107_0⟩ := Kd.at_string HR1.out b4 p107 q107
    cases e107
    replace p107 := eq_true p107
    replace q107 := eq_true q107
    go_wp2
    repeat (go_quiet (fail); try go_wp2)
    go_ret
    exact ⟨p7z, p9z⟩
   rw [if_pos c8] at H
   have dx : ((rdOf ByteArray.empty l0 b4).toList == (rdOf ByteArray.empty l1 b4).toList) = true := beq_iff_eq.mpr c8
   have fD : ((rdOf ByteArray.empty l0 b4).toList != (rdOf ByteArray.empty l1 b4).toList) = false := bne_eq_false_iff_eq.mpr c8
   clear c8
   have H' := Aside0.mk H
   clear H
   have p106 : 0 ≤ (b4 : Int) := of_decide_eq_true p4z
   have q106 : b4 < (l0.length : Int) := of_decide_eq_true p4z
   obtain ⟨ad106, e106, hx106_0⟩ := Kd.at_string HR0.out b4 p106 q106
   cases e106
   replace p106 := eq_true p106
   replace q106 := eq_true q106
   have p107 : 0 ≤ (b4 : Int) := of_decide_eq_true p4z
   have q107 : b4 < (l1.length : Int) := of_decide_eq_true p4z
   obtain ⟨ad107, e107, hx107_0⟩ := Kd.at_string HR1.out b4 p107 q107
   cases e107
   replace p107 := eq_true p107
   replace q107 := eq_true q107
   go_wp2
   repeat (go_quiet (fail); try go_wp2)
   go_roundg k1
   case measure => have := HK1.out; omega
   case rel => exact ⟨(wrap64 (b4 + 1)), p7z, H', ⟨p61z⟩, p9z⟩
end Go.Proofs.YtodnggilomanbaaGreatDoor.PAll
