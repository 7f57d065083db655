-- Written by this repo's program wip/tools/pr.py (over the kit's print) out of the translation. Not trusted: Lean checks it.
import Derived.Test.YtodnggilomanbaaGreatDoorAp
import Derived.Test.YtodnggilomanbaaGreatDoorGR
set_option maxHeartbeats 8000000
set_option maxRecDepth 100000
namespace Go.Proofs.YtodnggilomanbaaGreatDoor.PAll
open Go.RowKit Go.Proofs.YtodnggilomanbaaGreatDoorW.PrintWords Go.Proofs.YtodnggilomanbaaGreatDoorW.PrintLast Go.Proofs.YtodnggilomanbaaGreatDoorW.PrintMore
attribute [local go_sem] max2_int min2_int max_two min_two max_three min_three max_four min_four   -- for this text's walks alone
set_option linter.unusedVariables false
set_option linter.unusedSimpArgs false

/-! ### ar: function 42 -/
def ar.l0 : Nat → List ByteArray → ByteArray → Int → Int → Option (Int)
  | 0, _, _, _, _ => none
  | k + 1, x0, x1, x7, x8 => if x8 < x7 then (if 0 ≤ x8 then (if x8 < (x0.length : Int) then (if x1.toList = (rdOf ByteArray.empty x0 x8).toList then (some x8) else (ar.l0 k x0 x1 x7 (wrap64 (x8 + 1)))) else (none)) else (none)) else (some (-1))
def ar.f (k : Nat) (l0 : List ByteArray) (a1 : ByteArray) : Option (Int) := ar.l0 k l0 a1 (l0.length : Int) 0
theorem ar.calls (k : Nat) (A0 : Option Addr) (c0 : Nat) (l0 : List ByteArray) (a1 : ByteArray) (r : Int) (w : World) (hr0 : Kd.C Kd.string w A0 l0.length l0) (hc0 : l0.length ≤ c0) (h : ar.f k l0 a1 = some r) :
 Calls Tryz.prog 42 #[.slice A0 l0.length c0, .string a1] w fun e w' => e = .returned (.int .i64 r) ∧ Drawn0 w w' := by
 have HR0 := Aside0.mk hr0
 have HC0 := Aside0.mk hc0
 clear hr0 hc0
 have H : (ar.l0 k l0 a1 (l0.length : Int) 0) = some r := h
 clear h
 have H' := Aside0.mk H
 clear H
 go_enter Tryz.func42, Tryz.ntmps42
 go_wp2
 go_loopg [8] k (fun kq v8 w' => ∃ (dq : Int), v8 = .int .i64 dq ∧ Aside0 (ar.l0 kq l0 a1 (l0.length : Int) dq = some r) ∧ Aside0 (kq ≤ k) ∧ Drawn0 w w')
 case atStart => exact ⟨(0), p5z, H', ⟨Nat.le_refl _⟩, p17z⟩
 case round =>
  clear H'
  obtain ⟨dq, rfl, HA, HK1, ⟨m1, rfl⟩⟩ := hrel
  cases gk with
  | zero => exact absurd HA.out (by simp [ar.l0])
  | succ k1 =>
   have H := HA.out
   clear HA
   simp only [ar.l0] at H
   by_cases c3 : dq < (l0.length : Int)
   case neg =>
    rw [if_neg c3] at H
    have cW : decide (dq < (l0.length : Int)) = false := decide_eq_false c3
    clear c3
    obtain rfl := Option.some.inj H
    go_wp2
    go_ret
    exact ⟨p5z, p17z⟩

   rw [if_pos c3] at H
   have cW : decide (dq < (l0.length : Int)) = true := decide_eq_true c3
   clear c3
   by_cases c4 : 0 ≤ dq
   case neg =>
    rw [if_neg c4] at H
    exact absurd H (by simp)
   rw [if_pos c4] at H
   have dd : decide (0 ≤ dq) = true := decide_eq_true c4
   clear c4
   by_cases c5 : dq < (l0.length : Int)
   case neg =>
    rw [if_neg c5] at H
    exact absurd H (by simp)
   rw [if_pos c5] at H
   have dE : decide (dq < (l0.length : Int)) = true := decide_eq_true c5
   clear c5
   by_cases c6 : a1.toList = (rdOf ByteArray.empty l0 dq).toList
   case pos =>
    rw [if_pos c6] at H
    have df : (a1.toList == (rdOf ByteArray.empty l0 dq).toList) = true := beq_iff_eq.mpr c6
    have i5 : (a1.toList != (rdOf ByteArray.empty l0 dq).toList) = false := bne_eq_false_iff_eq.mpr c6
    clear c6
    obtain rfl := Option.some.inj H
    have p105 : 0 ≤ (dq : Int) := of_decide_eq_true p4z
    have q105 : dq < (l0.length : Int) := of_decide_eq_true p4z
    obtain ⟨ad105, e105, hx105_0⟩ := Kd.at_string HR0.out dq p105 q105
    cases e105
    replace p105 := eq_true p105
    replace q105 := eq_true q105
    go_wp2
    go_ret
    exact ⟨p5z, p17z⟩
   rw [if_neg c6] at H
   have df : (a1.toList == (rdOf ByteArray.empty l0 dq).toList) = false := beq_eq_false_iff_ne.mpr c6
   have i5 : (a1.toList != (rdOf ByteArray.empty l0 dq).toList) = true := bne_iff_ne.mpr c6
   have H' := Aside0.mk H
   clear H
   have p105 : 0 ≤ (dq : Int) := of_decide_eq_true p4z
   have q105 : dq < (l0.length : Int) := of_decide_eq_true p4z
   obtain ⟨ad105, e105, hx105_0⟩ := Kd.at_string HR0.out dq p105 q105
   cases e105
   replace p105 := eq_true p105
   replace q105 := eq_true q105
   go_wp2
   go_roundg k1
   case measure => have := HK1.out; omega
   case rel => exact ⟨(wrap64 (dq + 1)), p5z, H', ⟨p96z⟩, p17z⟩
/-! ### ap: function 48 -/
def ap.l0 : Nat → List ByteArray → List ByteArray → Int → Int → Option (Bool)
  | 0, _, _, _, _ => none
  | k + 1, x0, x1, x12, x13 => if x13 < x12 then (if 0 ≤ x13 then (if x13 < (x0.length : Int) then (if x13 < (x1.length : Int) then (if (rdOf ByteArray.empty x0 x13).toList = (rdOf ByteArray.empty x1 x13).toList then (ap.l0 k x0 x1 x12 (wrap64 (x13 + 1))) else (some false)) else (none)) else (none)) else (none)) else (some true)
def ap.f (k : Nat) (l0 : List ByteArray) (l1 : List ByteArray) : Option (Bool) := if (l0.length : Int) = (l1.length : Int) then (ap.l0 k l0 l1 (l0.length : Int) 0) else (some false)
theorem ap.calls (k : Nat) (A0 : Option Addr) (c0 : Nat) (l0 : List ByteArray) (A1 : Option Addr) (c1 : Nat) (l1 : List ByteArray) (r : Bool) (w : World) (hr0 : Kd.C Kd.string w A0 l0.length l0) (hc0 : l0.length ≤ c0) (hr1 : Kd.C Kd.string w A1 l1.length l1) (hc1 : l1.length ≤ c1) (h : ap.f k l0 l1 = some r) :
 Calls Tryz.prog 48 #[.slice A0 l0.length c0, .slice A1 l1.length c1] w fun e w' => e = .returned (.bool r) ∧ Drawn0 w w' := by
 have HR0 := Aside0.mk hr0
 have HC0 := Aside0.mk hc0
 clear hr0 hc0
 have HR1 := Aside0.mk hr1
 have HC1 := Aside0.mk hc1
 clear hr1 hc1
 have H : (if (l0.length : Int) = (l1.length : Int) then (ap.l0 k l0 l1 (l0.length : Int) 0) else (some false)) = some r := h
 clear h
 by_cases c3 : (l0.length : Int) = (l1.length : Int)
 case neg =>
  rw [if_neg c3] at H
  have cW : ((l0.length : Int) == (l1.length : Int)) = false := beq_eq_false_iff_ne.mpr c3
  have ez : ((l0.length : Int) != (l1.length : Int)) = true := bne_iff_ne.mpr c3
  have jA : (l0.length == l1.length) = false := p127z
  obtain rfl := Option.some.inj H
  go_enter Tryz.func48, Tryz.ntmps48
  go_wp2
  repeat (go_quiet (fail); try go_wp2)
  go_ret
  exact ⟨p5z, p17z⟩
 rw [if_pos c3] at H
 have cW : ((l0.length : Int) == (l1.length : Int)) = true := beq_iff_eq.mpr c3
 have ez : ((l0.length : Int) != (l1.length : Int)) = false := bne_eq_false_iff_eq.mpr c3
 have jA : (l0.length == l1.length) = true := p127z
 clear c3
 have H' := Aside0.mk H
 clear H
 go_enter Tryz.func48, Tryz.ntmps48
 go_wp2
 repeat (go_quiet (fail); try go_wp2)
 go_loopg [13] k (fun kq v13 w' => ∃ (bU : Int), v13 = .int .i64 bU ∧ Aside0 (ap.l0 kq l0 l1 (l0.length : Int) bU = some r) ∧ Aside0 (kq ≤ k) ∧ Drawn0 w w')
 case atStart => exact ⟨(0), p5z, H', ⟨Nat.le_refl _⟩, p17z⟩
 case round =>
  clear H'
  try clear c1
  try clear cW
  try clear ez
  try clear jA
  obtain ⟨bU, rfl, HA, HK1, ⟨m1, rfl⟩⟩ := hrel
  cases gk with
  | zero => exact absurd HA.out (by simp [ap.l0])
  | succ k1 =>
   have H := HA.out
   clear HA
   simp only [ap.l0] at H
   by_cases c4 : bU < (l0.length : Int)
   case neg =>
    rw [if_neg c4] at H
    have dd : decide (bU < (l0.length : Int)) = false := decide_eq_false c4
    clear c4
    obtain rfl := Option.some.inj H
    go_wp2
    repeat (go_quiet (fail); try go_wp2)
    go_ret
    exact ⟨p5z, p17z⟩
   rw [if_pos c4] at H
   have dd : decide (bU < (l0.length : Int)) = true := decide_eq_true c4
   clear c4
   by_cases c5 : 0 ≤ bU
   case neg =>
    rw [if_neg c5] at H
    exact absurd H (by simp)
   rw [if_pos c5] at H
   have dE : decide (0 ≤ bU) = true := decide_eq_true c5
   clear c5
   by_cases c6 : bU < (l0.length : Int)
   case neg =>
    rw [if_neg c6] at H
    exact absurd H (by simp)
   rw [if_pos c6] at H
   have df : decide (bU < (l0.length : Int)) = true := decide_eq_true c6
   clear c6
   by_cases c7 : bU < (l1.length : Int)
   case neg =>
    rw [if_neg c7] at H
    exact absurd H (by simp)
   rw [if_pos c7] at H
   have fm : decide (bU < (l1.length : Int)) = true := decide_eq_true c7
   clear c7
   by_cases c8 : (rdOf ByteArray.empty l0 bU).toList = (rdOf ByteArray.empty l1 bU).toList
   case neg =>
    rw [if_neg c8] at H
    have dK : ((rdOf ByteArray.empty l0 bU).toList == (rdOf ByteArray.empty l1 bU).toList) = false := beq_eq_false_iff_ne.mpr c8
    have jg : ((rdOf ByteArray.empty l0 bU).toList != (rdOf ByteArray.empty l1 bU).toList) = true := bne_iff_ne.mpr c8
    obtain rfl := Option.some.inj H
    have p106 : 0 ≤ (bU : Int) := of_decide_eq_true p4z
    have q106 : bU < (l0.length : Int) := of_decide_eq_true p4z
    obtain ⟨ad106, e106, hx106_0⟩ := Kd.at_string HR0.out bU p106 q106
    cases e106
    replace p106 := eq_true p106
    replace q106 := eq_true q106
    have p107 : 0 ≤ (bU : Int) := of_decide_eq_true p4z
    have q107 : bU < (l1.length : Int) := of_decide_eq_true p4z
    obtain ⟨ad107, e107, hx107_0⟩ := Kd.at_string HR1.out bU p107 q107
    cases e107
    replace p107 := eq_true p107
    replace q107 := eq_true q107
    go_wp2
    repeat (go_quiet (fail); try go_wp2)
    go_ret
    exact ⟨p5z, p17z⟩
   rw [if_pos c8] at H
   have dK : ((rdOf ByteArray.empty l0 bU).toList == (rdOf ByteArray.empty l1 bU).toList) = true := beq_iff_eq.mpr c8
   have jg : ((rdOf ByteArray.empty l0 bU).toList != (rdOf ByteArray.empty l1 bU).toList) = false := bne_eq_false_iff_eq.mpr c8
   clear c8
   have H' := Aside0.mk H
   clear H
   have p106 : 0 ≤ (bU : Int) := of_decide_eq_true p4z
   have q106 : bU < (l0.length : Int) := of_decide_eq_true p4z
   obtain ⟨ad106, e106, hx106_0⟩ := Kd.at_string HR0.out bU p106 q106
   cases e106
   replace p106 := eq_true p106
   replace q106 := eq_true q106
   have p107 : 0 ≤ (bU : Int) := of_decide_eq_true p4z
   have q107 : bU < (l1.length : Int) := of_decide_eq_true p4z
   obtain ⟨ad107, e107, hx107_0⟩ := Kd.at_string HR1.out bU p107 q107
   cases e107
   replace p107 := eq_true p107
   replace q107 := eq_true q107
   go_wp2
   repeat (go_quiet (fail); try go_wp2)
   go_roundg k1
   case measure => have := HK1.out; omega
   case rel => exact ⟨(wrap64 (bU + 1)), p5z, H', ⟨p96z⟩, p17z⟩
end Go.Proofs.YtodnggilomanbaaGreatDoor.PAll
