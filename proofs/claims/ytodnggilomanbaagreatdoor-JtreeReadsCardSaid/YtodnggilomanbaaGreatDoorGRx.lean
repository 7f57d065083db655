-- Written by this repo's program wip/tools/pr.py (over the kit's print) out of the translation. Not trusted: Lean checks it.
import Derived.Test.YtodnggilomanbaaGreatDoorAp
import Derived.Test.YtodnggilomanbaaGreatDoorPX0
import Derived.Test.YtodnggilomanbaaGreatDoorGRv
set_option maxHeartbeats 8000000
set_option maxRecDepth 100000
namespace Go.Proofs.YtodnggilomanbaaGreatDoor.PAll
open Go.Proofs.YtodnggilomanbaaGreatDoor.Hand
open Go.RowKit Go.Proofs.YtodnggilomanbaaGreatDoorW.PrintWords Go.Proofs.YtodnggilomanbaaGreatDoorW.PrintLast Go.Proofs.YtodnggilomanbaaGreatDoorW.PrintMore
attribute [local go_sem] max2_int min2_int max_two min_two max_three min_three max_four min_four   -- for this text's walks alone
set_option linter.unusedVariables false
set_option linter.unusedSimpArgs false
attribute [-simp] List.length_take List.length_drop ByteArray.size_extract

/-! ### signetryref14_end: function 100 -/
def signetryref14_end.l0 : Nat → ByteArray → Int → Option (Int × Bool)
  | 0, _, _ => none
  | k + 1, x0, x6 => if x6 < (x0.size : Int) then (if 0 ≤ x6 then (if (bt x0 x6) = 34 then (some (x6, true)) else (if (bt x0 x6) = 92 then (signetryref14_end.l0 k x0 (wrap64 ((wrap64 (x6 + 1)) + 1))) else (signetryref14_end.l0 k x0 (wrap64 (x6 + 1))))) else (none)) else (some (0, false))
def signetryref14_end.f (k : Nat) (a0 : ByteArray) (a1 : Int) : Option (Int × Bool) := signetryref14_end.l0 k a0 (wrap64 (a1 + 1))
theorem signetryref14_end.mono_l : ∀ k, (∀ y0 y1, LeO (signetryref14_end.l0 k y0 y1) (signetryref14_end.l0 (k + 1) y0 y1))
 | 0 => fun _ _ r h => by simp [signetryref14_end.l0] at h
 | k + 1 => by
  have ih0 := signetryref14_end.mono_l k
  ·intro y0 y1
   unfold signetryref14_end.l0
   exact moz
theorem signetryref14_end.mono : ∀ a0 a1 k, LeO (signetryref14_end.f k a0 a1) (signetryref14_end.f (k + 1) a0 a1) := by
  intro a0 a1 k
  have ih0 := signetryref14_end.mono_l k
  unfold signetryref14_end.f
  exact moz
theorem signetryref14_end.calls (k : Nat) (a0 : ByteArray) (a1 : Int) (r1 : Int) (r2 : Bool) (w : World) (h : signetryref14_end.f k a0 a1 = some (r1, r2)) :
 Calls Tryz.prog 100 #[.string a0, .int .i64 a1] w fun e w' => e = .returned (.tuple #[.int .i64 r1, .bool r2]) ∧ Drawn0 w w' := by
 have H : (signetryref14_end.l0 k a0 (wrap64 (a1 + 1))) = some (r1, r2) := h
 clear h
 have H' := Aside0.mk H
 clear H
 go_enter Tryz.func100, Tryz.ntmps100
 go_wp2
 go_loopg [6] k (fun kq v6 w' => ∃ (ah : Int), v6 = .int .i64 ah ∧ Aside0 (signetryref14_end.l0 kq a0 ah = some (r1, r2)) ∧ Aside0 (kq ≤ k) ∧ Drawn0 w w')
 case atStart => exact ⟨(wrap64 (a1 + 1)), p7z, H', ⟨Nat.le_refl _⟩, p9z⟩
 case round =>
  clear H'
  try clear c1
  try clear p2
  obtain ⟨ah, rfl, HA, HK1, ⟨m1, rfl⟩⟩ := hrel
  cases gk with
  | zero => exact absurd HA.out (by simp [signetryref14_end.l0])
  | succ k1 =>
   have H := HA.out
   clear HA
   simp only [signetryref14_end.l0] at H
   by_cases c3 : ah < (a0.size : Int)
   case neg =>
    rw [if_neg c3] at H
    have bQ : decide (ah < (a0.size : Int)) = false := decide_eq_false c3
    clear c3
    simp only [Option.some.injEq, Prod.mk.injEq] at H
    obtain ⟨rfl, rfl⟩ := H
    go_wp2
    go_ret2
    exact ⟨p7z, p9z⟩

   rw [if_pos c3] at H
   have bQ : decide (ah < (a0.size : Int)) = true := decide_eq_true c3
   clear c3
   by_cases c4 : 0 ≤ ah
   case neg =>
    rw [if_neg c4] at H
    exact absurd H (by simp)
   rw [if_pos c4] at H
   have bC : decide (0 ≤ ah) = true := decide_eq_true c4
   clear c4
   by_cases c6 : (bt a0 ah) = 34
   case pos =>
    rw [if_pos c6] at H
    have cd : ((bt a0 ah) == 34) = true := beq_iff_eq.mpr c6
    have di : ((bt a0 ah) != 34) = false := bne_eq_false_iff_eq.mpr c6
    clear c6
    simp only [Option.some.injEq, Prod.mk.injEq] at H
    obtain ⟨rfl, rfl⟩ := H
    have p5 : 0 ≤ (ah : Int) := of_decide_eq_true p4z
    have q5 : ah < (a0.size : Int) := of_decide_eq_true p4z
    have hx5 := bt_at a0 ah
    replace p5 := eq_true p5
    replace q5 := eq_true q5
    go_wp2
    go_ret2
    exact ⟨p7z, p9z⟩
   rw [if_neg c6] at H
   have cd : ((bt a0 ah) == 34) = false := beq_eq_false_iff_ne.mpr c6
   have di : ((bt a0 ah) != 34) = true := bne_iff_ne.mpr c6
   by_cases c8 : (bt a0 ah) = 92
   case neg =>
    rw [if_neg c8] at H
    have dx : ((bt a0 ah) == 92) = false := beq_eq_false_iff_ne.mpr c8
    have fD : ((bt a0 ah) != 92) = true := bne_iff_ne.mpr c8
    have H' := Aside0.mk H
    clear H
    have p5 : 0 ≤ (ah : Int) := of_decide_eq_true p4z
    have q5 : ah < (a0.size : Int) := of_decide_eq_true p4z
    have hx5 := bt_at a0 ah
    replace p5 := eq_true p5
    replace q5 := eq_true q5
    have p7 : 0 ≤ (ah : Int) := of_decide_eq_true p4z
    have q7 : ah < (a0.size : Int) := of_decide_eq_true p4z
    have hx7 := bt_at a0 ah
    replace p7 := eq_true p7
    replace q7 := eq_true q7
    go_wp2
    go_roundg k1
    case measure => have := HK1.out; omega
    case rel => exact ⟨(wrap64 (ah + 1)), p7z, H', ⟨p61z⟩, p9z⟩
   rw [if_pos c8] at H
   have dx : ((bt a0 ah) == 92) = true := beq_iff_eq.mpr c8
   have fD : ((bt a0 ah) != 92) = false := bne_eq_false_iff_eq.mpr c8
   clear c8
   have H' := Aside0.mk H
   clear H
   have p5 : 0 ≤ (ah : Int) := of_decide_eq_true p4z
   have q5 : ah < (a0.size : Int) := of_decide_eq_true p4z
   have hx5 := bt_at a0 ah
   replace p5 := eq_true p5
   replace q5 := eq_true q5
   have p7 : 0 ≤ (ah : Int) := of_decide_eq_true p4z
   have q7 : ah < (a0.size : Int) := of_decide_eq_true p4z
   have hx7 := bt_at a0 ah
   replace p7 := eq_true p7
   replace q7 := eq_true q7
   go_wp2
   go_roundg k1
   case measure => have := HK1.out; omega
   case rel => exact ⟨(wrap64 ((wrap64 (ah + 1)) + 1)), p7z, H', ⟨p61z⟩, p9z⟩
/-! ### signetryref14_half: function 112 -/
mutual
def signetryref14_half.l0 : Nat → ByteArray → Int → Int → Int → Option (Int)
  | 0, _, _, _, _ => none
  | k + 1, x0, x1, x5, x6 => if x6 < 4 then (if (wrap64 (x1 + x6)) ≥ (x0.size : Int) then (some (-1)) else (signetryref14_half.l1 k x0 x1 x5 x6 (-1) 0)) else (some x5)
def signetryref14_half.l1 : Nat → ByteArray → Int → Int → Int → Int → Int → Option (Int)
  | 0, _, _, _, _, _, _ => none
  | k + 1, x0, x1, x5, x6, x7, x8 => if x8 < 16 then (if 0 ≤ (wrap64 (x1 + x6)) then (if (wrap64 (x1 + x6)) < (x0.size : Int) then (if 0 ≤ x8 then (if (bt x0 (wrap64 (x1 + x6))) = (bt (⟨#[48, 49, 50, 51, 52, 53, 54, 55, 56, 57, 97, 98, 99, 100, 101, 102]⟩ : ByteArray) x8) then (signetryref14_half.l1 k x0 x1 x5 x6 x8 (wrap64 (x8 + 1))) else (if (bt x0 (wrap64 (x1 + x6))) = (bt (⟨#[48, 49, 50, 51, 52, 53, 54, 55, 56, 57, 65, 66, 67, 68, 69, 70]⟩ : ByteArray) x8) then (signetryref14_half.l1 k x0 x1 x5 x6 x8 (wrap64 (x8 + 1))) else (signetryref14_half.l1 k x0 x1 x5 x6 x7 (wrap64 (x8 + 1))))) else (none)) else (none)) else (none)) else (if x7 < 0 then (some (-1)) else (signetryref14_half.l0 k x0 x1 (wrap64 ((wrap64 (16 * x5)) + x7)) (wrap64 (x6 + 1))))
end
def signetryref14_half.f (k : Nat) (a0 : ByteArray) (a1 : Int) : Option (Int) := signetryref14_half.l0 k a0 a1 0 0
theorem signetryref14_half.mono_l : ∀ k, (∀ y0 y1 y2 y3, LeO (signetryref14_half.l0 k y0 y1 y2 y3) (signetryref14_half.l0 (k + 1) y0 y1 y2 y3)) ∧ (∀ y0 y1 y2 y3 y4 y5, LeO (signetryref14_half.l1 k y0 y1 y2 y3 y4 y5) (signetryref14_half.l1 (k + 1) y0 y1 y2 y3 y4 y5))
 | 0 => ⟨fun _ _ _ _ r h => by simp [signetryref14_half.l0] at h, fun _ _ _ _ _ _ r h => by simp [signetryref14_half.l1] at h⟩
 | k + 1 => by
  obtain ⟨ih0, ih1⟩ := signetryref14_half.mono_l k
  refine ⟨?_, ?_⟩
  ·intro y0 y1 y2 y3
   unfold signetryref14_half.l0
   exact moz
  ·intro y0 y1 y2 y3 y4 y5
   unfold signetryref14_half.l1
   exact moz
theorem signetryref14_half.mono : ∀ a0 a1 k, LeO (signetryref14_half.f k a0 a1) (signetryref14_half.f (k + 1) a0 a1) := by
  intro a0 a1 k
  obtain ⟨ih0, ih1⟩ := signetryref14_half.mono_l k
  unfold signetryref14_half.f
  exact moz
theorem signetryref14_half.calls (k : Nat) (a0 : ByteArray) (a1 : Int) (r : Int) (w : World) (h : signetryref14_half.f k a0 a1 = some r) :
 Calls Tryz.prog 112 #[.string a0, .int .i64 a1] w fun e w' => e = .returned (.int .i64 r) ∧ Drawn0 w w' := by
 have H : (signetryref14_half.l0 k a0 a1 0 0) = some r := h
 clear h
 have H' := Aside0.mk H
 clear H
 go_enter Tryz.func112, Tryz.ntmps112
 go_wp2
 repeat (go_quiet (fail); try go_wp2)
 go_loopg [5, 6] k (fun kq v5 v6 w' => ∃ (aI : Int) (ah : Int), v5 = .int .i64 aI ∧ v6 = .int .i64 ah ∧ Aside0 (signetryref14_half.l0 kq a0 a1 aI ah = some r) ∧ Aside0 (kq ≤ k) ∧ Drawn0 w w')
 case atStart => exact ⟨(0), (0), p7z, p7z, H', ⟨Nat.le_refl _⟩, p9z⟩
 case round =>
  clear H'
  try clear c1
  try clear p2
  obtain ⟨aI, ah, rfl, rfl, HA, HK1, ⟨m1, rfl⟩⟩ := hrel
  cases gk with
  | zero => exact absurd HA.out (by simp [signetryref14_half.l0])
  | succ k1 =>
   have H := HA.out
   clear HA
   simp only [signetryref14_half.l0] at H
   by_cases c3 : ah < 4
   case neg =>
    rw [if_neg c3] at H
    have bQ : decide (ah < 4) = false := decide_eq_false c3
    clear c3
    obtain rfl := Option.some.inj H
    go_wp2
    repeat (go_quiet (fail); try go_wp2)
    go_ret
    exact ⟨p7z, p9z⟩

   rw [if_pos c3] at H
   have bQ : decide (ah < 4) = true := decide_eq_true c3
   clear c3
   by_cases c4 : (wrap64 (a1 + ah)) ≥ (a0.size : Int)
   case pos =>
    rw [if_pos c4] at H
    have bC : decide ((a0.size : Int) ≤ (wrap64 (a1 + ah))) = true := decide_eq_true c4
    clear c4
    obtain rfl := Option.some.inj H
    go_wp2
    repeat (go_quiet (fail); try go_wp2)
    go_ret
    exact ⟨p7z, p9z⟩
   rw [if_neg c4] at H
   have bC : decide ((a0.size : Int) ≤ (wrap64 (a1 + ah))) = false := decide_eq_false c4
   clear c4
   have H' := Aside0.mk H
   clear H
   go_wp2
   repeat (go_quiet (fail); try go_wp2)
   go_loopg [7, 8] k1 (fun kq v7 v8 w' => ∃ (aM : Int) (bv : Int), v7 = .int .i64 aM ∧ v8 = .int .i64 bv ∧ Aside0 (signetryref14_half.l1 kq a0 a1 aI ah aM bv = some r) ∧ Aside0 (kq ≤ k1) ∧ Drawn0 w w')
   case atStart => exact ⟨((-1)), (0), p7z, p7z, H', ⟨Nat.le_refl _⟩, p9z⟩
   case round =>
    clear H'
    try clear c1
    try clear p2
    try clear c3
    try clear bQ
    try clear c4
    try clear bC
    try clear p2
    obtain ⟨aM, bv, rfl, rfl, HA, HK2, ⟨m2, rfl⟩⟩ := hrel
    cases gk with
    | zero => exact absurd HA.out (by simp [signetryref14_half.l1])
    | succ k2 =>
     have H := HA.out
     clear HA
     simp only [signetryref14_half.l1] at H
     by_cases c5 : bv < 16
     case neg =>
      rw [if_neg c5] at H
      have cH : decide (bv < 16) = false := decide_eq_false c5
      clear c5
      by_cases c16 : aM < 0
      case pos =>
       rw [if_pos c16] at H
       have dX : decide (aM < 0) = true := decide_eq_true c16
       clear c16
       obtain rfl := Option.some.inj H
       go_wp2
       repeat (go_quiet (fail); try go_wp2)
       go_ret
       exact ⟨p7z, p9z⟩
      rw [if_neg c16] at H
      have dX : decide (aM < 0) = false := decide_eq_false c16
      clear c16
      have H' := Aside0.mk H
      clear H
      go_wp2
      repeat (go_quiet (fail); try go_wp2)
      go_roundg k2
      case measure => have := HK1.out; have := HK2.out; omega
      case rel => exact ⟨(wrap64 ((wrap64 (16 * aI)) + aM)), (wrap64 (ah + 1)), p7z, p7z, H', ⟨by have := HK1.out; have := HK2.out; omega⟩, p9z⟩
     rw [if_pos c5] at H
     have cH : decide (bv < 16) = true := decide_eq_true c5
     clear c5
     obtain ⟨ji6, hji6⟩ : ∃ j_ : Int, (wrap64 (a1 + ah)) = j_ := ⟨_, rfl⟩
     replace H : (if 0 ≤ (ji6) then (if (ji6) < (a0.size : Int) then (if 0 ≤ bv then (if (bt a0 (ji6)) = (bt (⟨#[48, 49, 50, 51, 52, 53, 54, 55, 56, 57, 97, 98, 99, 100, 101, 102]⟩ : ByteArray) bv) then (signetryref14_half.l1 k2 a0 a1 aI ah bv (wrap64 (bv + 1))) else (if (bt a0 (ji6)) = (bt (⟨#[48, 49, 50, 51, 52, 53, 54, 55, 56, 57, 65, 66, 67, 68, 69, 70]⟩ : ByteArray) bv) then (signetryref14_half.l1 k2 a0 a1 aI ah bv (wrap64 (bv + 1))) else (signetryref14_half.l1 k2 a0 a1 aI ah aM (wrap64 (bv + 1))))) else (none)) else (none)) else (none)) = some r := by first | (rw [hji6] at H; exact H) | (simp only [hji6] at H ⊢; exact H)
     (try rw [hji6] at bC)
     have hji6w : (IntKind.i64.wrap (a1 + ah)) = ji6 := (i64_w _).trans hji6
     by_cases c7 : 0 ≤ (ji6)
     case neg =>
      rw [if_neg c7] at H
      exact absurd H (by simp)
     rw [if_pos c7] at H
     have dj : decide (0 ≤ (ji6)) = true := decide_eq_true c7
     clear c7
     by_cases c8 : (ji6) < (a0.size : Int)
     case neg =>
      rw [if_neg c8] at H
      exact absurd H (by simp)
     rw [if_pos c8] at H
     have dx : decide ((ji6) < (a0.size : Int)) = true := decide_eq_true c8
     clear c8
     by_cases c10 : 0 ≤ bv
     case neg =>
      rw [if_neg c10] at H
      exact absurd H (by simp)
     rw [if_pos c10] at H
     have cY : decide (0 ≤ bv) = true := decide_eq_true c10
     clear c10
     by_cases c12 : (bt a0 (ji6)) = (bt (⟨#[48, 49, 50, 51, 52, 53, 54, 55, 56, 57, 97, 98, 99, 100, 101, 102]⟩ : ByteArray) bv)
     case pos =>
      rw [if_pos c12] at H
      have cF : ((bt a0 (ji6)) == (bt (⟨#[48, 49, 50, 51, 52, 53, 54, 55, 56, 57, 97, 98, 99, 100, 101, 102]⟩ : ByteArray) bv)) = true := beq_iff_eq.mpr c12
      have fL : ((bt a0 (ji6)) != (bt (⟨#[48, 49, 50, 51, 52, 53, 54, 55, 56, 57, 97, 98, 99, 100, 101, 102]⟩ : ByteArray) bv)) = false := bne_eq_false_iff_eq.mpr c12
      clear c12
      have H' := Aside0.mk H
      clear H
      have p9 : 0 ≤ ((ji6) : Int) := of_decide_eq_true p4z
      have q9 : (ji6) < (a0.size : Int) := of_decide_eq_true p4z
      have hx9 := bt_at a0 (ji6)
      replace p9 := eq_true p9
      replace q9 := eq_true q9
      have p11 : 0 ≤ (bv : Int) := of_decide_eq_true p4z
      have q11 : bv < (16 : Int) := of_decide_eq_true p4z
      have hx11 := bt_at (⟨#[48, 49, 50, 51, 52, 53, 54, 55, 56, 57, 97, 98, 99, 100, 101, 102]⟩ : ByteArray) bv
      replace p11 := eq_true p11
      replace q11 := eq_true q11
      go_wp2
      repeat (go_quiet (fail); try go_wp2)
      go_roundg k2
      case measure => have := HK1.out; have := HK2.out; omega
      case rel => exact ⟨(bv), (wrap64 (bv + 1)), p7z, p7z, H', ⟨by have := HK1.out; have := HK2.out; omega⟩, p9z⟩
     rw [if_neg c12] at H
     have cF : ((bt a0 (ji6)) == (bt (⟨#[48, 49, 50, 51, 52, 53, 54, 55, 56, 57, 97, 98, 99, 100, 101, 102]⟩ : ByteArray) bv)) = false := beq_eq_false_iff_ne.mpr c12
     have fL : ((bt a0 (ji6)) != (bt (⟨#[48, 49, 50, 51, 52, 53, 54, 55, 56, 57, 97, 98, 99, 100, 101, 102]⟩ : ByteArray) bv)) = true := bne_iff_ne.mpr c12
     by_cases c15 : (bt a0 (ji6)) = (bt (⟨#[48, 49, 50, 51, 52, 53, 54, 55, 56, 57, 65, 66, 67, 68, 69, 70]⟩ : ByteArray) bv)
     case neg =>
      rw [if_neg c15] at H
      have fc : ((bt a0 (ji6)) == (bt (⟨#[48, 49, 50, 51, 52, 53, 54, 55, 56, 57, 65, 66, 67, 68, 69, 70]⟩ : ByteArray) bv)) = false := beq_eq_false_iff_ne.mpr c15
      have c15b1 : ((bt a0 (ji6)) != (bt (⟨#[48, 49, 50, 51, 52, 53, 54, 55, 56, 57, 65, 66, 67, 68, 69, 70]⟩ : ByteArray) bv)) = true := bne_iff_ne.mpr c15
      have H' := Aside0.mk H
      clear H
      have p9 : 0 ≤ ((ji6) : Int) := of_decide_eq_true p4z
      have q9 : (ji6) < (a0.size : Int) := of_decide_eq_true p4z
      have hx9 := bt_at a0 (ji6)
      replace p9 := eq_true p9
      replace q9 := eq_true q9
      have p11 : 0 ≤ (bv : Int) := of_decide_eq_true p4z
      have q11 : bv < (16 : Int) := of_decide_eq_true p4z
      have hx11 := bt_at (⟨#[48, 49, 50, 51, 52, 53, 54, 55, 56, 57, 97, 98, 99, 100, 101, 102]⟩ : ByteArray) bv
      replace p11 := eq_true p11
      replace q11 := eq_true q11
      have p13 : 0 ≤ ((ji6) : Int) := of_decide_eq_true p4z
      have q13 : (ji6) < (a0.size : Int) := of_decide_eq_true p4z
      have hx13 := bt_at a0 (ji6)
      replace p13 := eq_true p13
      replace q13 := eq_true q13
      have p14 : 0 ≤ (bv : Int) := of_decide_eq_true p4z
      have q14 : bv < (16 : Int) := of_decide_eq_true p4z
      have hx14 := bt_at (⟨#[48, 49, 50, 51, 52, 53, 54, 55, 56, 57, 65, 66, 67, 68, 69, 70]⟩ : ByteArray) bv
      replace p14 := eq_true p14
      replace q14 := eq_true q14
      go_wp2
      repeat (go_quiet (fail); try go_wp2)
      go_roundg k2
      case measure => have := HK1.out; have := HK2.out; omega
      case rel => exact ⟨(aM), (wrap64 (bv + 1)), p7z, p7z, H', ⟨by have := HK1.out; have := HK2.out; omega⟩, p9z⟩
     rw [if_pos c15] at H
     have fc : ((bt a0 (ji6)) == (bt (⟨#[48, 49, 50, 51, 52, 53, 54, 55, 56, 57, 65, 66, 67, 68, 69, 70]⟩ : ByteArray) bv)) = true := beq_iff_eq.mpr c15
     have c15b1 : ((bt a0 (ji6)) != (bt (⟨#[48, 49, 50, 51, 52, 53, 54, 55, 56, 57, 65, 66, 67, 68, 69, 70]⟩ : ByteArray) bv)) = false := bne_eq_false_iff_eq.mpr c15
     clear c15
     have H' := Aside0.mk H
     clear H
     have p9 : 0 ≤ ((ji6) : Int) := of_decide_eq_true p4z
     have q9 : (ji6) < (a0.size : Int) := of_decide_eq_true p4z
     have hx9 := bt_at a0 (ji6)
     replace p9 := eq_true p9
     replace q9 := eq_true q9
     have p11 : 0 ≤ (bv : Int) := of_decide_eq_true p4z
     have q11 : bv < (16 : Int) := of_decide_eq_true p4z
     have hx11 := bt_at (⟨#[48, 49, 50, 51, 52, 53, 54, 55, 56, 57, 97, 98, 99, 100, 101, 102]⟩ : ByteArray) bv
     replace p11 := eq_true p11
     replace q11 := eq_true q11
     have p13 : 0 ≤ ((ji6) : Int) := of_decide_eq_true p4z
     have q13 : (ji6) < (a0.size : Int) := of_decide_eq_true p4z
     have hx13 := bt_at a0 (ji6)
     replace p13 := eq_true p13
     replace q13 := eq_true q13
     have p14 : 0 ≤ (bv : Int) := of_decide_eq_true p4z
     have q14 : bv < (16 : Int) := of_decide_eq_true p4z
     have hx14 := bt_at (⟨#[48, 49, 50, 51, 52, 53, 54, 55, 56, 57, 65, 66, 67, 68, 69, 70]⟩ : ByteArray) bv
     replace p14 := eq_true p14
     replace q14 := eq_true q14
     go_wp2
     repeat (go_quiet (fail); try go_wp2)
     go_roundg k2
     case measure => have := HK1.out; have := HK2.out; omega
     case rel => exact ⟨(bv), (wrap64 (bv + 1)), p7z, p7z, H', ⟨by have := HK1.out; have := HK2.out; omega⟩, p9z⟩
/-! ### signetryref14_escape: function 101 -/
mutual
def signetryref14_escape.l0 : Nat → ByteArray → Int → Int → Option (List Int × Int)
  | 0, _, _, _ => none
  | k + 1, x0, x1, x6 => if x6 < 8 then (if 0 ≤ x1 then (if x1 < (x0.size : Int) then (if 0 ≤ x6 then (if (bt x0 x1) = (bt (⟨#[34, 92, 47, 98, 102, 110, 114, 116]⟩ : ByteArray) x6) then ((some (([34, 92, 47, 8, 12, 10, 13, 9] : List Int) : List Int)).bind fun y264 => (if x6 < (y264.length : Int) then (some ((([rd y264 x6] : List Int)), 1)) else (none))) else (signetryref14_escape.l0 k x0 x1 (wrap64 (x6 + 1)))) else (none)) else (none)) else (none)) else ((signetryref14_half.f k x0 (wrap64 (x1 + 1))).bind fun aY => (if 0 ≤ x1 then (if x1 < (x0.size : Int) then (if (bt x0 x1) = 117 then (signetryref14_escape.j1 k x0 x1 aY (decide (aY < 0))) else (signetryref14_escape.j1 k x0 x1 aY true)) else (none)) else (none)))
def signetryref14_escape.j1 : Nat → ByteArray → Int → Int → Bool → Option (List Int × Int)
  | 0, _, _, _, _ => none
  | k + 1, x0, x1, x7, x38 => if x38 = true then (some (([] : List Int), 0)) else (if x7 ≥ 55296 then (if x7 < 56320 then (if (wrap64 (x1 + 6)) < (x0.size : Int) then (if 0 ≤ (wrap64 (x1 + 5)) then (if (wrap64 (x1 + 5)) < (x0.size : Int) then (if (bt x0 (wrap64 (x1 + 5))) = 92 then (if 0 ≤ (wrap64 (x1 + 6)) then (signetryref14_escape.j2 k x0 x1 x7 5 ((bt x0 (wrap64 (x1 + 6))) == 117)) else (none)) else (signetryref14_escape.j2 k x0 x1 x7 5 false)) else (none)) else (none)) else (signetryref14_escape.j2 k x0 x1 x7 5 false)) else (signetryref14_escape.j2 k x0 x1 x7 5 false)) else (signetryref14_escape.j2 k x0 x1 x7 5 false))
def signetryref14_escape.j2 : Nat → ByteArray → Int → Int → Int → Bool → Option (List Int × Int)
  | 0, _, _, _, _, _ => none
  | k + 1, x0, x1, x7, x8, x65 => if x65 = true then ((signetryref14_half.f k x0 (wrap64 (x1 + 7))).bind fun ci => (if ci ≥ 56320 then (signetryref14_escape.j3 k x7 x8 ci (decide (ci < 57344))) else (signetryref14_escape.j3 k x7 x8 ci false))) else ((signetryref02_Rune.f ([] : List Int) x7).bind fun d7 => (if d7.2 = 0 then (some (d7.1, x8)) else (some (([] : List Int), 0))))
def signetryref14_escape.j3 : Nat → Int → Int → Int → Bool → Option (List Int × Int)
  | 0, _, _, _, _ => none
  | k + 1, x7, x8, x9, x75 => if x75 = true then ((signetryref02_Rune.f ([] : List Int) (wrap64 ((wrap64 ((wrap64 (65536 + (wrap64 (1024 * (wrap64 (x7 - 55296)))))) + x9)) - 56320))).bind fun eJ => (if eJ.2 = 0 then (some (eJ.1, 11)) else (some (([] : List Int), 0)))) else ((signetryref02_Rune.f ([] : List Int) x7).bind fun eK => (if eK.2 = 0 then (some (eK.1, x8)) else (some (([] : List Int), 0))))
end
def signetryref14_escape.f (k : Nat) (a0 : ByteArray) (a1 : Int) : Option (List Int × Int) := signetryref14_escape.l0 k a0 a1 0
theorem signetryref14_escape.mono_l : ∀ k, (∀ y0 y1 y2, LeO (signetryref14_escape.l0 k y0 y1 y2) (signetryref14_escape.l0 (k + 1) y0 y1 y2)) ∧ (∀ y0 y1 y2 y3, LeO (signetryref14_escape.j1 k y0 y1 y2 y3) (signetryref14_escape.j1 (k + 1) y0 y1 y2 y3)) ∧ (∀ y0 y1 y2 y3 y4, LeO (signetryref14_escape.j2 k y0 y1 y2 y3 y4) (signetryref14_escape.j2 (k + 1) y0 y1 y2 y3 y4)) ∧ (∀ y0 y1 y2 y3, LeO (signetryref14_escape.j3 k y0 y1 y2 y3) (signetryref14_escape.j3 (k + 1) y0 y1 y2 y3))
 | 0 => ⟨fun _ _ _ r h => by simp [signetryref14_escape.l0] at h, fun _ _ _ _ r h => by simp [signetryref14_escape.j1] at h, fun _ _ _ _ _ r h => by simp [signetryref14_escape.j2] at h, fun _ _ _ _ r h => by simp [signetryref14_escape.j3] at h⟩
 | k + 1 => by
  obtain ⟨ih0, ih1, ih2, ih3⟩ := signetryref14_escape.mono_l k
  refine ⟨?_, ?_, ?_, ?_⟩
  ·intro y0 y1 y2
   unfold signetryref14_escape.l0
   have m0 := @signetryref14_half.mono
   exact moz
  ·intro y0 y1 y2 y3
   unfold signetryref14_escape.j1
   have m0 := @signetryref14_half.mono
   exact moz
  ·intro y0 y1 y2 y3 y4
   unfold signetryref14_escape.j2
   have m0 := @signetryref14_half.mono
   exact moz
  ·intro y0 y1 y2 y3
   unfold signetryref14_escape.j3
   have m0 := @signetryref14_half.mono
   exact moz
theorem signetryref14_escape.mono : ∀ a0 a1 k, LeO (signetryref14_escape.f k a0 a1) (signetryref14_escape.f (k + 1) a0 a1) := by
  intro a0 a1 k
  obtain ⟨ih0, ih1, ih2, ih3⟩ := signetryref14_escape.mono_l k
  unfold signetryref14_escape.f
  have m0 := @signetryref14_half.mono
  exact moz
theorem signetryref14_escape.calls (k : Nat) (a0 : ByteArray) (a1 : Int) (r1 : List Int) (r2 : Int) (w : World) (h : signetryref14_escape.f k a0 a1 = some (r1, r2)) :
 Calls Tryz.prog 101 #[.string a0, .int .i64 a1] w fun e w' => ∃ v0_ : Value, e = .returned (.tuple #[v0_, .int .i64 r2]) ∧ Kd.R (Kd.int .u8) 5 w' w.heap.size (fun _ => True) v0_ r1 ∧ Below w.heap.size w w' := by
 have HB := Aside0.mk (Below.refl w.heap.size w)
 have H : (signetryref14_escape.l0 k a0 a1 0) = some (r1, r2) := h
 clear h
 have H' := Aside0.mk H
 clear H
 go_enter Tryz.func101, Tryz.ntmps101
 go_wp2
 repeat (go_quiet (fail); try go_wp2)
 go_loopg [6] k (fun kq v6 w' => ∃ (ah : Int), v6 = .int .i64 ah ∧ Aside0 (signetryref14_escape.l0 kq a0 a1 ah = some (r1, r2)) ∧ Aside0 (kq ≤ k) ∧ Aside0 (Below w.heap.size w w'))
 case atStart => exact ⟨(0), p7z, H', ⟨Nat.le_refl _⟩, ⟨p0z⟩⟩
 case round =>
  clear H'
  try clear c1
  try clear p2
  obtain ⟨ah, rfl, HA, HK1, HB⟩ := hrel
  cases gk with
  | zero => exact absurd HA.out (by simp [signetryref14_escape.l0])
  | succ k1 =>
   have H := HA.out
   clear HA
   simp only [signetryref14_escape.l0] at H
   by_cases c3 : ah < 8
   case pos =>
    rw [if_pos c3] at H
    have bQ : decide (ah < 8) = true := decide_eq_true c3
    clear c3
    by_cases c4 : 0 ≤ a1
    case neg =>
     rw [if_neg c4] at H
     exact absurd H (by simp)
    rw [if_pos c4] at H
    have bC : decide (0 ≤ a1) = true := decide_eq_true c4
    clear c4
    by_cases c5 : a1 < (a0.size : Int)
    case neg =>
     rw [if_neg c5] at H
     exact absurd H (by simp)
    rw [if_pos c5] at H
    have cH : decide (a1 < (a0.size : Int)) = true := decide_eq_true c5
    clear c5
    by_cases c7 : 0 ≤ ah
    case neg =>
     rw [if_neg c7] at H
     exact absurd H (by simp)
    rw [if_pos c7] at H
    have dj : decide (0 ≤ ah) = true := decide_eq_true c7
    clear c7
    by_cases c9 : (bt a0 a1) = (bt (⟨#[34, 92, 47, 98, 102, 110, 114, 116]⟩ : ByteArray) ah)
    case neg =>
     rw [if_neg c9] at H
     have ew : ((bt a0 a1) == (bt (⟨#[34, 92, 47, 98, 102, 110, 114, 116]⟩ : ByteArray) ah)) = false := beq_eq_false_iff_ne.mpr c9
     have c9b1 : ((bt a0 a1) != (bt (⟨#[34, 92, 47, 98, 102, 110, 114, 116]⟩ : ByteArray) ah)) = true := bne_iff_ne.mpr c9
     have H' := Aside0.mk H
     clear H
     have p6 : 0 ≤ (a1 : Int) := of_decide_eq_true p4z
     have q6 : a1 < (a0.size : Int) := of_decide_eq_true p4z
     have hx6 := bt_at a0 a1
     replace p6 := eq_true p6
     replace q6 := eq_true q6
     have p8 : 0 ≤ (ah : Int) := of_decide_eq_true p4z
     have q8 : ah < (8 : Int) := of_decide_eq_true p4z
     have hx8 := bt_at (⟨#[34, 92, 47, 98, 102, 110, 114, 116]⟩ : ByteArray) ah
     replace p8 := eq_true p8
     replace q8 := eq_true q8
     go_wp2
     repeat (go_quiet (fail); try go_wp2)
     go_roundg k1
     case measure => have := HK1.out; omega
     case rel => exact ⟨(wrap64 (ah + 1)), p7z, H', ⟨p61z⟩, ⟨p0z⟩⟩
    rw [if_pos c9] at H
    have ew : ((bt a0 a1) == (bt (⟨#[34, 92, 47, 98, 102, 110, 114, 116]⟩ : ByteArray) ah)) = true := beq_iff_eq.mpr c9
    have c9b1 : ((bt a0 a1) != (bt (⟨#[34, 92, 47, 98, 102, 110, 114, 116]⟩ : ByteArray) ah)) = false := bne_eq_false_iff_eq.mpr c9
    clear c9
    obtain ⟨y264, hy264⟩ : ∃ y_ : List Int, y_ = (([34, 92, 47, 8, 12, 10, 13, 9] : List Int)) := ⟨_, rfl⟩
    replace H : (if ah < (y264.length : Int) then (some ((([rd y264 ah] : List Int)), 1)) else (none)) = some (r1, r2) := by first | (rw [hy264]; with_reducible exact H) | (have H2_ := (Option.bind_some _ _).symm.trans H; rw [hy264]; with_reducible exact H2_) | (have H2_ := (Option.bind_some _ _).symm.trans H; with_reducible exact H2_) | with_reducible exact H | (rw [hy264]; exact H) | exact H
    have Ny264 := Aside0.mk hy264
    clear hy264
    by_cases c10 : ah < (y264.length : Int)
    case neg =>
     rw [if_neg c10] at H
     exact absurd H (by simp)
    rw [if_pos c10] at H
    have cY : decide (ah < (y264.length : Int)) = true := decide_eq_true c10
    clear c10
    obtain ⟨y268, hy268⟩ : ∃ y_ : List Int, y_ = (([rd y264 ah] : List Int)) := ⟨_, rfl⟩
    replace H : (some (y268, 1)) = some (r1, r2) := by first | (rw [hy268]; with_reducible exact H) | (have H2_ := (Option.bind_some _ _).symm.trans H; rw [hy268]; with_reducible exact H2_) | (have H2_ := (Option.bind_some _ _).symm.trans H; with_reducible exact H2_) | with_reducible exact H | (rw [hy268]; exact H) | exact H
    have Ny268 := Aside0.mk hy268
    clear hy268
    simp only [Option.some.injEq, Prod.mk.injEq] at H
    obtain ⟨rfl, rfl⟩ := H
    have p6 : 0 ≤ (a1 : Int) := of_decide_eq_true p4z
    have q6 : a1 < (a0.size : Int) := of_decide_eq_true p4z
    have hx6 := bt_at a0 a1
    replace p6 := eq_true p6
    replace q6 := eq_true q6
    have p8 : 0 ≤ (ah : Int) := of_decide_eq_true p4z
    have q8 : ah < (8 : Int) := of_decide_eq_true p4z
    have hx8 := bt_at (⟨#[34, 92, 47, 98, 102, 110, 114, 116]⟩ : ByteArray) ah
    replace p8 := eq_true p8
    replace q8 := eq_true q8
    go_wp2_with (first | ((with_reducible refine gate_dst (N := 22) rfl ?_); (try (refine gate_guard (by rfl) ?_; dsimp only)); refine Kd.R_lit (Kd.int .u8) _ 5 ?hg (N := 22) ?hd (xs := ([34, 92, 47, 8, 12, 10, 13, 9] : List Int)) (inner := [.int .u8 34, .int .u8 92, .int .u8 47, .int .u8 8, .int .u8 12, .int .u8 10, .int .u8 13, .int .u8 9]) (ok := fun _ => True) (okp := fun _ => True) ?hr ?hp (fun _ hk => hk) trivial (Below.refl _ _) (Nat.le_refl _) (by simp) ?_; (case hd => rfl); (case hg => rfl); (case hr => exact p12z); (case hp => exact (Reps.one (show Kd.M (Kd.int .u8) _ _ _ 34 [.int .u8 34] from rfl) (Reps.one (show Kd.M (Kd.int .u8) _ _ _ 92 [.int .u8 92] from rfl) (Reps.one (show Kd.M (Kd.int .u8) _ _ _ 47 [.int .u8 47] from rfl) (Reps.one (show Kd.M (Kd.int .u8) _ _ _ 8 [.int .u8 8] from rfl) (Reps.one (show Kd.M (Kd.int .u8) _ _ _ 12 [.int .u8 12] from rfl) (Reps.one (show Kd.M (Kd.int .u8) _ _ _ 10 [.int .u8 10] from rfl) (Reps.one (show Kd.M (Kd.int .u8) _ _ _ 13 [.int .u8 13] from rfl) (Reps.one (show Kd.M (Kd.int .u8) _ _ _ 9 [.int .u8 9] from rfl) (Reps.none _ _)))))))))); intro v265 w11 ho12 hb hg_ hnew_; clear hg_ hnew_; (first | rw [← Ny264.out] at ho12 | (simp only [Int.reduceToNat] at ho12; rw [← Ny264.out] at ho12)); have z_ := asi2 (Kd.R_lower ho12 (below_size p0z)) (below_step p0z hb); clear HB; obtain ⟨cy, HB⟩ := z_; clear hb ho12; obtain ⟨Ao13, co13, eo13⟩ := Kd.R_slice cy.out; subst eo13; have p267 : 0 ≤ (ah : Int) := of_decide_eq_true p4z; have q267 : ah < (y264.length : Int) := of_decide_eq_true p4z; obtain ⟨ad267, e267, hx267_0⟩ := Kd.at_int (Kd.R_reads' cy.out).2.2 ah p267 q267; cases e267; replace p267 := eq_true p267; replace q267 := eq_true q267) | ((with_reducible refine gate_dst (N := 26) rfl ?_); (try (refine gate_guard (by rfl) ?_; dsimp only)); refine Kd.R_lit (Kd.int .u8) _ 5 ?hg (N := 26) ?hd (xs := ([rd y264 ah] : List Int)) (inner := [.int .u8 (rd y264 ah)]) (ok := fun _ => True) (okp := fun _ => True) ?hr ?hp (fun _ hk => hk) trivial (Below.refl _ _) (Nat.le_refl _) (by simp) ?_; (case hd => rfl); (case hg => rfl); (case hr => exact p12z); (case hp => exact (Reps.one (show Kd.M (Kd.int .u8) _ _ _ (rd y264 ah) [.int .u8 (rd y264 ah)] from rfl) (Reps.none _ _))); intro v269 w14 ho15 hb hg_ hnew_; clear hg_ hnew_; (first | rw [← Ny268.out] at ho15 | (simp only [Int.reduceToNat] at ho15; rw [← Ny268.out] at ho15)); have z_ := asi3 (Kd.R_elder' p43z (Kd.R_base ho15) hb) (Kd.R_lower (Kd.R_new' ho15 (Kd.R_lt p43z)) (below_size p0z)) (below_step p0z hb); clear cy HB; obtain ⟨cy, fP, HB⟩ := z_; clear hb ho15))
    repeat (go_quiet (first | ((with_reducible refine gate_dst (N := 22) rfl ?_); (try (refine gate_guard (by rfl) ?_; dsimp only)); refine Kd.R_lit (Kd.int .u8) _ 5 ?hg (N := 22) ?hd (xs := ([34, 92, 47, 8, 12, 10, 13, 9] : List Int)) (inner := [.int .u8 34, .int .u8 92, .int .u8 47, .int .u8 8, .int .u8 12, .int .u8 10, .int .u8 13, .int .u8 9]) (ok := fun _ => True) (okp := fun _ => True) ?hr ?hp (fun _ hk => hk) trivial (Below.refl _ _) (Nat.le_refl _) (by simp) ?_; (case hd => rfl); (case hg => rfl); (case hr => exact p12z); (case hp => exact (Reps.one (show Kd.M (Kd.int .u8) _ _ _ 34 [.int .u8 34] from rfl) (Reps.one (show Kd.M (Kd.int .u8) _ _ _ 92 [.int .u8 92] from rfl) (Reps.one (show Kd.M (Kd.int .u8) _ _ _ 47 [.int .u8 47] from rfl) (Reps.one (show Kd.M (Kd.int .u8) _ _ _ 8 [.int .u8 8] from rfl) (Reps.one (show Kd.M (Kd.int .u8) _ _ _ 12 [.int .u8 12] from rfl) (Reps.one (show Kd.M (Kd.int .u8) _ _ _ 10 [.int .u8 10] from rfl) (Reps.one (show Kd.M (Kd.int .u8) _ _ _ 13 [.int .u8 13] from rfl) (Reps.one (show Kd.M (Kd.int .u8) _ _ _ 9 [.int .u8 9] from rfl) (Reps.none _ _)))))))))); intro v265 w11 ho12 hb hg_ hnew_; clear hg_ hnew_; (first | rw [← Ny264.out] at ho12 | (simp only [Int.reduceToNat] at ho12; rw [← Ny264.out] at ho12)); have z_ := asi2 (Kd.R_lower ho12 (below_size p0z)) (below_step p0z hb); clear HB; obtain ⟨cy, HB⟩ := z_; clear hb ho12; obtain ⟨Ao13, co13, eo13⟩ := Kd.R_slice cy.out; subst eo13; have p267 : 0 ≤ (ah : Int) := of_decide_eq_true p4z; have q267 : ah < (y264.length : Int) := of_decide_eq_true p4z; obtain ⟨ad267, e267, hx267_0⟩ := Kd.at_int (Kd.R_reads' cy.out).2.2 ah p267 q267; cases e267; replace p267 := eq_true p267; replace q267 := eq_true q267) | ((with_reducible refine gate_dst (N := 26) rfl ?_); (try (refine gate_guard (by rfl) ?_; dsimp only)); refine Kd.R_lit (Kd.int .u8) _ 5 ?hg (N := 26) ?hd (xs := ([rd y264 ah] : List Int)) (inner := [.int .u8 (rd y264 ah)]) (ok := fun _ => True) (okp := fun _ => True) ?hr ?hp (fun _ hk => hk) trivial (Below.refl _ _) (Nat.le_refl _) (by simp) ?_; (case hd => rfl); (case hg => rfl); (case hr => exact p12z); (case hp => exact (Reps.one (show Kd.M (Kd.int .u8) _ _ _ (rd y264 ah) [.int .u8 (rd y264 ah)] from rfl) (Reps.none _ _))); intro v269 w14 ho15 hb hg_ hnew_; clear hg_ hnew_; (first | rw [← Ny268.out] at ho15 | (simp only [Int.reduceToNat] at ho15; rw [← Ny268.out] at ho15)); have z_ := asi3 (Kd.R_elder' p43z (Kd.R_base ho15) hb) (Kd.R_lower (Kd.R_new' ho15 (Kd.R_lt p43z)) (below_size p0z)) (below_step p0z hb); clear cy HB; obtain ⟨cy, fP, HB⟩ := z_; clear hb ho15)); try go_wp2_with (first | ((with_reducible refine gate_dst (N := 22) rfl ?_); (try (refine gate_guard (by rfl) ?_; dsimp only)); refine Kd.R_lit (Kd.int .u8) _ 5 ?hg (N := 22) ?hd (xs := ([34, 92, 47, 8, 12, 10, 13, 9] : List Int)) (inner := [.int .u8 34, .int .u8 92, .int .u8 47, .int .u8 8, .int .u8 12, .int .u8 10, .int .u8 13, .int .u8 9]) (ok := fun _ => True) (okp := fun _ => True) ?hr ?hp (fun _ hk => hk) trivial (Below.refl _ _) (Nat.le_refl _) (by simp) ?_; (case hd => rfl); (case hg => rfl); (case hr => exact p12z); (case hp => exact (Reps.one (show Kd.M (Kd.int .u8) _ _ _ 34 [.int .u8 34] from rfl) (Reps.one (show Kd.M (Kd.int .u8) _ _ _ 92 [.int .u8 92] from rfl) (Reps.one (show Kd.M (Kd.int .u8) _ _ _ 47 [.int .u8 47] from rfl) (Reps.one (show Kd.M (Kd.int .u8) _ _ _ 8 [.int .u8 8] from rfl) (Reps.one (show Kd.M (Kd.int .u8) _ _ _ 12 [.int .u8 12] from rfl) (Reps.one (show Kd.M (Kd.int .u8) _ _ _ 10 [.int .u8 10] from rfl) (Reps.one (show Kd.M (Kd.int .u8) _ _ _ 13 [.int .u8 13] from rfl) (Reps.one (show Kd.M (Kd.int .u8) _ _ _ 9 [.int .u8 9] from rfl) (Reps.none _ _)))))))))); intro v265 w11 ho12 hb hg_ hnew_; clear hg_ hnew_; (first | rw [← Ny264.out] at ho12 | (simp only [Int.reduceToNat] at ho12; rw [← Ny264.out] at ho12)); have z_ := asi2 (Kd.R_lower ho12 (below_size p0z)) (below_step p0z hb); clear HB; obtain ⟨cy, HB⟩ := z_; clear hb ho12; obtain ⟨Ao13, co13, eo13⟩ := Kd.R_slice cy.out; subst eo13; have p267 : 0 ≤ (ah : Int) := of_decide_eq_true p4z; have q267 : ah < (y264.length : Int) := of_decide_eq_true p4z; obtain ⟨ad267, e267, hx267_0⟩ := Kd.at_int (Kd.R_reads' cy.out).2.2 ah p267 q267; cases e267; replace p267 := eq_true p267; replace q267 := eq_true q267) | ((with_reducible refine gate_dst (N := 26) rfl ?_); (try (refine gate_guard (by rfl) ?_; dsimp only)); refine Kd.R_lit (Kd.int .u8) _ 5 ?hg (N := 26) ?hd (xs := ([rd y264 ah] : List Int)) (inner := [.int .u8 (rd y264 ah)]) (ok := fun _ => True) (okp := fun _ => True) ?hr ?hp (fun _ hk => hk) trivial (Below.refl _ _) (Nat.le_refl _) (by simp) ?_; (case hd => rfl); (case hg => rfl); (case hr => exact p12z); (case hp => exact (Reps.one (show Kd.M (Kd.int .u8) _ _ _ (rd y264 ah) [.int .u8 (rd y264 ah)] from rfl) (Reps.none _ _))); intro v269 w14 ho15 hb hg_ hnew_; clear hg_ hnew_; (first | rw [← Ny268.out] at ho15 | (simp only [Int.reduceToNat] at ho15; rw [← Ny268.out] at ho15)); have z_ := asi3 (Kd.R_elder' p43z (Kd.R_base ho15) hb) (Kd.R_lower (Kd.R_new' ho15 (Kd.R_lt p43z)) (below_size p0z)) (below_step p0z hb); clear cy HB; obtain ⟨cy, fP, HB⟩ := z_; clear hb ho15)))
    go_ret2
    exact ⟨_, p6z, by (with_reducible repeat (first | apply Kd.R_alloc | apply Kd.R_drewN | apply Kd.R_drew)); exact Kd.R_mono fP.out (fun _ hk => trivial), p0z⟩
   rw [if_neg c3] at H
   have bQ : decide (ah < 8) = false := decide_eq_false c3
   clear c3
   replace H := Option.bind_eq_some_iff.mp H
   obtain ⟨aY, A160, H⟩ := H
   replace H : (if 0 ≤ a1 then (if a1 < (a0.size : Int) then (if (bt a0 a1) = 117 then (signetryref14_escape.j1 k1 a0 a1 aY (decide (aY < 0))) else (signetryref14_escape.j1 k1 a0 a1 aY true)) else (none)) else (none)) = some (r1, r2) := H
   have A16 := Aside0.mk A160
   clear A160
   have HC17 := Aside0.mk H
   clear H
   go_upto_region 7 with (first | (go_at_call 112; (with_reducible refine (signetryref14_half.calls k1 a0 (wrap64 (a1 + 1)) aY _ A16.out).mono ?_); rintro e w' ⟨rfl, ⟨nd, rfl⟩⟩; (try first | exact ⟨rfl, _, World.drewN_drewN _ _ _⟩ | exact ⟨rfl, _, Eq.trans (World.drewN_drewN _ _ _) (congrArg (World.drewN _) (Nat.add_assoc _ _ _))⟩)))
   repeat (go_quiet (first | (go_at_call 112; (with_reducible refine (signetryref14_half.calls k1 a0 (wrap64 (a1 + 1)) aY _ A16.out).mono ?_); rintro e w' ⟨rfl, ⟨nd, rfl⟩⟩; (try first | exact ⟨rfl, _, World.drewN_drewN _ _ _⟩ | exact ⟨rfl, _, Eq.trans (World.drewN_drewN _ _ _) (congrArg (World.drewN _) (Nat.add_assoc _ _ _))⟩))); go_upto_region 7 with (first | (go_at_call 112; (with_reducible refine (signetryref14_half.calls k1 a0 (wrap64 (a1 + 1)) aY _ A16.out).mono ?_); rintro e w' ⟨rfl, ⟨nd, rfl⟩⟩; (try first | exact ⟨rfl, _, World.drewN_drewN _ _ _⟩ | exact ⟨rfl, _, Eq.trans (World.drewN_drewN _ _ _) (congrArg (World.drewN _) (Nat.add_assoc _ _ _))⟩))))
   (try simp only [Act.put, List.setIfInBounds_toArray, List.set_cons_zero, List.set_cons_succ])
   go_cut [38] (fun v38 wc => ∃ (kq : Nat) (ey : Bool), v38 = .bool ey ∧ Aside0 (signetryref14_escape.j1 kq a0 a1 aY ey = some (r1, r2)) ∧ Aside0 (kq ≤ k1) ∧ Aside0 (Below w.heap.size w wc))
   case first =>
    have H := HC17.out
    clear HC17
    by_cases c18 : 0 ≤ a1
    case neg =>
     rw [if_neg c18] at H
     exact absurd H (by simp)
    rw [if_pos c18] at H
    have dO : decide (0 ≤ a1) = true := decide_eq_true c18
    clear c18
    (first | rw [dO] | (simp only [i64_w, i32_w]; rw [dO]) | skip)
    by_cases c19 : a1 < (a0.size : Int)
    case neg =>
     rw [if_neg c19] at H
     exact absurd H (by simp)
    rw [if_pos c19] at H
    have fQ : decide (a1 < (a0.size : Int)) = true := decide_eq_true c19
    clear c19
    by_cases c21 : (bt a0 a1) = 117
    case neg =>
     rw [if_neg c21] at H
     have dp : ((bt a0 a1) == 117) = false := beq_eq_false_iff_ne.mpr c21
     have dq : ((bt a0 a1) != 117) = true := bne_iff_ne.mpr c21
     have H' := Aside0.mk H
     clear H
     have p20 : 0 ≤ (a1 : Int) := of_decide_eq_true p4z
     have q20 : a1 < (a0.size : Int) := of_decide_eq_true p4z
     have hx20 := bt_at a0 a1
     replace p20 := eq_true p20
     replace q20 := eq_true q20
     go_wp2
     repeat (go_quiet (fail); try go_wp2)
     go_meet
     case rel => exact ⟨_, (true), p7z, H', ⟨by have := HK1.out; first | omega | exact Nat.le_refl _⟩, ⟨p0z⟩⟩
    rw [if_pos c21] at H
    have dp : ((bt a0 a1) == 117) = true := beq_iff_eq.mpr c21
    have dq : ((bt a0 a1) != 117) = false := bne_eq_false_iff_eq.mpr c21
    clear c21
    have H' := Aside0.mk H
    clear H
    have p20 : 0 ≤ (a1 : Int) := of_decide_eq_true p4z
    have q20 : a1 < (a0.size : Int) := of_decide_eq_true p4z
    have hx20 := bt_at a0 a1
    replace p20 := eq_true p20
    replace q20 := eq_true q20
    go_wp2
    repeat (go_quiet (fail); try go_wp2)
    go_meet
    case rel => exact ⟨_, (decide (aY < 0)), p7z, H', ⟨by have := HK1.out; first | omega | exact Nat.le_refl _⟩, ⟨p0z⟩⟩
   case rest =>
    clear HC17
    try clear c1
    try clear c2
    try clear p2
    try clear q2
    try clear hx2
    try clear c3
    try clear bQ
    try clear c4
    try clear bC
    try clear c5
    try clear cH
    try clear p6
    try clear q6
    try clear hx6
    try clear c7
    try clear dj
    try clear p8
    try clear q8
    try clear hx8
    try clear c9
    try clear ew
    try clear c9b1
    try clear c10
    try clear cY
    try clear c18
    try clear dO
    try clear c19
    try clear fQ
    try clear p20
    try clear q20
    try clear hx20
    try clear c21
    try clear dp
    try clear dq
    try clear hx267_0
    try clear p2
    try clear p20
    try clear p267
    try clear p6
    try clear p8
    try clear q20
    try clear q267
    try clear q6
    try clear q8
    obtain ⟨kq, ey, rfl, HA, HJ16, HB⟩ := hcut
    cases kq with
    | zero => exact absurd HA.out (by simp [signetryref14_escape.j1])
    | succ kj16 =>
     have H := HA.out
     clear HA
     simp only [signetryref14_escape.j1] at H
     by_cases c22 : ey = true
     case pos =>
      subst c22
      have H1 : (some (([] : List Int), 0)) = some (r1, r2) := p53z
      clear H
      have H := H1
      clear H1
      simp only [Option.some.injEq, Prod.mk.injEq] at H
      obtain ⟨rfl, rfl⟩ := H
      go_wp2
      repeat (go_quiet (fail); try go_wp2)
      go_ret2
      exact ⟨_, p6z, p22z, p0z⟩
     replace c22 := Bool.eq_false_iff.mpr c22
     subst c22
     have H1 : (if aY ≥ 55296 then (if aY < 56320 then (if (wrap64 (a1 + 6)) < (a0.size : Int) then (if 0 ≤ (wrap64 (a1 + 5)) then (if (wrap64 (a1 + 5)) < (a0.size : Int) then (if (bt a0 (wrap64 (a1 + 5))) = 92 then (if 0 ≤ (wrap64 (a1 + 6)) then (signetryref14_escape.j2 kj16 a0 a1 aY 5 ((bt a0 (wrap64 (a1 + 6))) == 117)) else (none)) else (signetryref14_escape.j2 kj16 a0 a1 aY 5 false)) else (none)) else (none)) else (signetryref14_escape.j2 kj16 a0 a1 aY 5 false)) else (signetryref14_escape.j2 kj16 a0 a1 aY 5 false)) else (signetryref14_escape.j2 kj16 a0 a1 aY 5 false)) = some (r1, r2) := p27z
     clear H
     have H := H1
     clear H1
     have HC23 := Aside0.mk H
     clear H
     go_upto_region 10 with (fail)
     repeat (go_quiet (fail); go_upto_region 10 with (fail))
     go_cut [65] (fun v65 wc => ∃ (kq : Nat) (ez : Bool), v65 = .bool ez ∧ Aside0 (signetryref14_escape.j2 kq a0 a1 aY 5 ez = some (r1, r2)) ∧ Aside0 (kq ≤ kj16) ∧ Aside0 (Below w.heap.size w wc))
     case first =>
      have H := HC23.out
      clear HC23
      by_cases c24 : aY ≥ 55296
      case neg =>
       rw [if_neg c24] at H
       have dr : decide (55296 ≤ aY) = false := decide_eq_false c24
       clear c24
       (first | rw [dr] | (simp only [i64_w, i32_w]; rw [dr]) | skip)
       have H' := Aside0.mk H
       clear H
       go_wp2
       repeat (go_quiet (fail); try go_wp2)
       go_meet
       case rel => exact ⟨_, (false), p7z, H', ⟨p65z⟩, ⟨p0z⟩⟩
      rw [if_pos c24] at H
      have dr : decide (55296 ≤ aY) = true := decide_eq_true c24
      clear c24
      (first | rw [dr] | (simp only [i64_w, i32_w]; rw [dr]) | skip)
      by_cases c25 : aY < 56320
      case neg =>
       rw [if_neg c25] at H
       have fj : decide (aY < 56320) = false := decide_eq_false c25
       clear c25
       have H' := Aside0.mk H
       clear H
       go_wp2
       repeat (go_quiet (fail); try go_wp2)
       go_meet
       case rel => exact ⟨_, (false), p7z, H', ⟨p65z⟩, ⟨p0z⟩⟩
      rw [if_pos c25] at H
      have fj : decide (aY < 56320) = true := decide_eq_true c25
      clear c25
      by_cases c26 : (wrap64 (a1 + 6)) < (a0.size : Int)
      case neg =>
       rw [if_neg c26] at H
       have dC : decide ((wrap64 (a1 + 6)) < (a0.size : Int)) = false := decide_eq_false c26
       clear c26
       have H' := Aside0.mk H
       clear H
       go_wp2
       repeat (go_quiet (fail); try go_wp2)
       go_meet
       case rel => exact ⟨_, (false), p7z, H', ⟨p65z⟩, ⟨p0z⟩⟩
      rw [if_pos c26] at H
      have dC : decide ((wrap64 (a1 + 6)) < (a0.size : Int)) = true := decide_eq_true c26
      clear c26
      obtain ⟨ji27, hji27⟩ : ∃ j_ : Int, (wrap64 (a1 + 5)) = j_ := ⟨_, rfl⟩
      replace H : (if 0 ≤ (ji27) then (if (ji27) < (a0.size : Int) then (if (bt a0 (ji27)) = 92 then (if 0 ≤ (wrap64 (a1 + 6)) then (signetryref14_escape.j2 kj16 a0 a1 aY 5 ((bt a0 (wrap64 (a1 + 6))) == 117)) else (none)) else (signetryref14_escape.j2 kj16 a0 a1 aY 5 false)) else (none)) else (none)) = some (r1, r2) := by first | (rw [hji27] at H; exact H) | (simp only [hji27] at H ⊢; exact H)
      have hji27w : (IntKind.i64.wrap (a1 + 5)) = ji27 := (i64_w _).trans hji27
      by_cases c28 : 0 ≤ (ji27)
      case neg =>
       rw [if_neg c28] at H
       exact absurd H (by simp)
      rw [if_pos c28] at H
      have c28b0 : decide (0 ≤ (ji27)) = true := decide_eq_true c28
      clear c28
      by_cases c29 : (ji27) < (a0.size : Int)
      case neg =>
       rw [if_neg c29] at H
       exact absurd H (by simp)
      rw [if_pos c29] at H
      have c29b0 : decide ((ji27) < (a0.size : Int)) = true := decide_eq_true c29
      clear c29
      by_cases c31 : (bt a0 (ji27)) = 92
      case neg =>
       rw [if_neg c31] at H
       have fR : ((bt a0 (ji27)) == 92) = false := beq_eq_false_iff_ne.mpr c31
       have fS : ((bt a0 (ji27)) != 92) = true := bne_iff_ne.mpr c31
       have H' := Aside0.mk H
       clear H
       have p30 : 0 ≤ ((ji27) : Int) := of_decide_eq_true p4z
       have q30 : (ji27) < (a0.size : Int) := of_decide_eq_true p4z
       have hx30 := bt_at a0 (ji27)
       replace p30 := eq_true p30
       replace q30 := eq_true q30
       go_wp2
       repeat (go_quiet (fail); try go_wp2)
       go_meet
       case rel => exact ⟨_, (false), p7z, H', ⟨p65z⟩, ⟨p0z⟩⟩
      rw [if_pos c31] at H
      have fR : ((bt a0 (ji27)) == 92) = true := beq_iff_eq.mpr c31
      have fS : ((bt a0 (ji27)) != 92) = false := bne_eq_false_iff_eq.mpr c31
      clear c31
      obtain ⟨ji32, hji32⟩ : ∃ j_ : Int, (wrap64 (a1 + 6)) = j_ := ⟨_, rfl⟩
      replace H : (if 0 ≤ (ji32) then (signetryref14_escape.j2 kj16 a0 a1 aY 5 ((bt a0 (ji32)) == 117)) else (none)) = some (r1, r2) := by first | (rw [hji32] at H; exact H) | (simp only [hji32] at H ⊢; exact H)
      (try rw [hji32] at dC)
      have hji32w : (IntKind.i64.wrap (a1 + 6)) = ji32 := (i64_w _).trans hji32
      by_cases c33 : 0 ≤ (ji32)
      case neg =>
       rw [if_neg c33] at H
       exact absurd H (by simp)
      rw [if_pos c33] at H
      have c33b0 : decide (0 ≤ (ji32)) = true := decide_eq_true c33
      clear c33
      have H' := Aside0.mk H
      clear H
      have p30 : 0 ≤ ((ji27) : Int) := of_decide_eq_true p4z
      have q30 : (ji27) < (a0.size : Int) := of_decide_eq_true p4z
      have hx30 := bt_at a0 (ji27)
      replace p30 := eq_true p30
      replace q30 := eq_true q30
      have p34 : 0 ≤ ((ji32) : Int) := of_decide_eq_true p4z
      have q34 : (ji32) < (a0.size : Int) := of_decide_eq_true p4z
      have hx34 := bt_at a0 (ji32)
      replace p34 := eq_true p34
      replace q34 := eq_true q34
      go_wp2
      repeat (go_quiet (fail); try go_wp2)
      go_meet
      case rel => exact ⟨_, (((bt a0 (ji32)) == 117)), (by first | rfl | (simp; done) | (simp only [← hji32] <;> (first | rfl | simp)) | (simp [*]; done)), H', ⟨p65z⟩, ⟨p0z⟩⟩
     case rest =>
      clear HC23
      try clear c1
      try clear c2
      try clear p2
      try clear q2
      try clear hx2
      try clear c3
      try clear bQ
      try clear p3
      try clear q3
      try clear hx3
      try clear c4
      try clear bC
      try clear c5
      try clear cH
      try clear p6
      try clear q6
      try clear hx6
      try clear c7
      try clear dj
      try clear p8
      try clear q8
      try clear hx8
      try clear c9
      try clear ew
      try clear c9b1
      try clear c10
      try clear cY
      try clear c18
      try clear dO
      try clear c19
      try clear fQ
      try clear p20
      try clear q20
      try clear hx20
      try clear c21
      try clear dp
      try clear dq
      try clear c22
      try clear c24
      try clear dr
      try clear c25
      try clear fj
      try clear c26
      try clear dC
      try clear p26
      try clear q26
      try clear hx26
      try clear c28
      try clear c28b0
      try clear c29
      try clear c29b0
      try clear p30
      try clear q30
      try clear hx30
      try clear c31
      try clear fR
      try clear fS
      try clear c33
      try clear c33b0
      try clear p34
      try clear q34
      try clear hx34
      try clear hx267_0
      try clear p2
      try clear p20
      try clear p267
      try clear p30
      try clear p34
      try clear p6
      try clear p8
      try clear q2
      try clear q20
      try clear q267
      try clear q30
      try clear q34
      try clear q6
      try clear q8
      obtain ⟨kq, ez, rfl, HA, HJ22, HB⟩ := hcut
      cases kq with
      | zero => exact absurd HA.out (by simp [signetryref14_escape.j2])
      | succ kj22 =>
       have H := HA.out
       clear HA
       simp only [signetryref14_escape.j2] at H
       by_cases c35 : ez = true
       case neg =>
        replace c35 := Bool.eq_false_iff.mpr c35
        subst c35
        have H1 : ((signetryref02_Rune.f ([] : List Int) aY).bind fun d7 => (if d7.2 = 0 then (some (d7.1, 5)) else (some (([] : List Int), 0)))) = some (r1, r2) := p27z
        clear H
        have H := H1
        clear H1
        replace H := Option.bind_eq_some_iff.mp H
        obtain ⟨⟨eV, dG⟩, A480, H⟩ := H
        replace H : (if dG = 0 then (some (eV, 5)) else (some (([] : List Int), 0))) = some (r1, r2) := H
        have A48 := Aside0.mk A480
        clear A480
        by_cases c49 : dG = 0
        case neg =>
         rw [if_neg c49] at H
         have c49b0 : (dG == 0) = false := beq_eq_false_iff_ne.mpr c49
         have c49b1 : (dG != 0) = true := bne_iff_ne.mpr c49
         simp only [Option.some.injEq, Prod.mk.injEq] at H
         obtain ⟨rfl, rfl⟩ := H
         go_wp2_with (first | (go_at_call 113; (refine (signetryref02_Rune.calls _ _ ([] : List Int) aY eV dG _ ?side1 ?side2 A48.out).mono ?_); (case side1 => exact Kd.C_nil _ _); (case side2 => exact Nat.le_refl _); rintro e w51 ⟨fV, rfl, ho0, hb⟩; have z_ := asi2 (Kd.R_lower ho0 (below_size p0z)) (below_step p0z hb); clear HB; obtain ⟨eh, HB⟩ := z_; (try clear hb ho0)))
         repeat (go_quiet (first | (go_at_call 113; (refine (signetryref02_Rune.calls _ _ ([] : List Int) aY eV dG _ ?side1 ?side2 A48.out).mono ?_); (case side1 => exact Kd.C_nil _ _); (case side2 => exact Nat.le_refl _); rintro e w51 ⟨fV, rfl, ho0, hb⟩; have z_ := asi2 (Kd.R_lower ho0 (below_size p0z)) (below_step p0z hb); clear HB; obtain ⟨eh, HB⟩ := z_; (try clear hb ho0))); try go_wp2_with (first | (go_at_call 113; (refine (signetryref02_Rune.calls _ _ ([] : List Int) aY eV dG _ ?side1 ?side2 A48.out).mono ?_); (case side1 => exact Kd.C_nil _ _); (case side2 => exact Nat.le_refl _); rintro e w51 ⟨fV, rfl, ho0, hb⟩; have z_ := asi2 (Kd.R_lower ho0 (below_size p0z)) (below_step p0z hb); clear HB; obtain ⟨eh, HB⟩ := z_; (try clear hb ho0))))
         go_ret2
         exact ⟨_, p6z, p22z, p0z⟩
        rw [if_pos c49] at H
        have c49b0 : (dG == 0) = true := beq_iff_eq.mpr c49
        have c49b1 : (dG != 0) = false := bne_eq_false_iff_eq.mpr c49
        clear c49
        simp only [Option.some.injEq, Prod.mk.injEq] at H
        obtain ⟨rfl, rfl⟩ := H
        go_wp2_with (first | (go_at_call 113; (refine (signetryref02_Rune.calls _ _ ([] : List Int) aY eV dG _ ?side1 ?side2 A48.out).mono ?_); (case side1 => exact Kd.C_nil _ _); (case side2 => exact Nat.le_refl _); rintro e w50 ⟨fV, rfl, ho0, hb⟩; have z_ := asi2 (Kd.R_lower ho0 (below_size p0z)) (below_step p0z hb); clear HB; obtain ⟨eh, HB⟩ := z_; (try clear hb ho0)))
        repeat (go_quiet (first | (go_at_call 113; (refine (signetryref02_Rune.calls _ _ ([] : List Int) aY eV dG _ ?side1 ?side2 A48.out).mono ?_); (case side1 => exact Kd.C_nil _ _); (case side2 => exact Nat.le_refl _); rintro e w50 ⟨fV, rfl, ho0, hb⟩; have z_ := asi2 (Kd.R_lower ho0 (below_size p0z)) (below_step p0z hb); clear HB; obtain ⟨eh, HB⟩ := z_; (try clear hb ho0))); try go_wp2_with (first | (go_at_call 113; (refine (signetryref02_Rune.calls _ _ ([] : List Int) aY eV dG _ ?side1 ?side2 A48.out).mono ?_); (case side1 => exact Kd.C_nil _ _); (case side2 => exact Nat.le_refl _); rintro e w50 ⟨fV, rfl, ho0, hb⟩; have z_ := asi2 (Kd.R_lower ho0 (below_size p0z)) (below_step p0z hb); clear HB; obtain ⟨eh, HB⟩ := z_; (try clear hb ho0))))
        go_ret2
        exact ⟨_, p6z, q0z eh.out, p0z⟩
       subst c35
       have H1 : ((signetryref14_half.f kj22 a0 (wrap64 (a1 + 7))).bind fun ci => (if ci ≥ 56320 then (signetryref14_escape.j3 kj22 aY 5 ci (decide (ci < 57344))) else (signetryref14_escape.j3 kj22 aY 5 ci false))) = some (r1, r2) := p53z
       clear H
       have H := H1
       clear H1
       replace H := Option.bind_eq_some_iff.mp H
       obtain ⟨ci, A360, H⟩ := H
       replace H : (if ci ≥ 56320 then (signetryref14_escape.j3 kj22 aY 5 ci (decide (ci < 57344))) else (signetryref14_escape.j3 kj22 aY 5 ci false)) = some (r1, r2) := H
       have A36 := Aside0.mk A360
       clear A360
       have HC37 := Aside0.mk H
       clear H
       go_upto_region 12 with (first | (go_at_call 112; (with_reducible refine (signetryref14_half.calls kj22 a0 (wrap64 (a1 + 7)) ci _ A36.out).mono ?_); rintro e w' ⟨rfl, ⟨nd, rfl⟩⟩; (try first | exact ⟨rfl, _, World.drewN_drewN _ _ _⟩ | exact ⟨rfl, _, Eq.trans (World.drewN_drewN _ _ _) (congrArg (World.drewN _) (Nat.add_assoc _ _ _))⟩)))
       repeat (go_quiet (first | (go_at_call 112; (with_reducible refine (signetryref14_half.calls kj22 a0 (wrap64 (a1 + 7)) ci _ A36.out).mono ?_); rintro e w' ⟨rfl, ⟨nd, rfl⟩⟩; (try first | exact ⟨rfl, _, World.drewN_drewN _ _ _⟩ | exact ⟨rfl, _, Eq.trans (World.drewN_drewN _ _ _) (congrArg (World.drewN _) (Nat.add_assoc _ _ _))⟩))); go_upto_region 12 with (first | (go_at_call 112; (with_reducible refine (signetryref14_half.calls kj22 a0 (wrap64 (a1 + 7)) ci _ A36.out).mono ?_); rintro e w' ⟨rfl, ⟨nd, rfl⟩⟩; (try first | exact ⟨rfl, _, World.drewN_drewN _ _ _⟩ | exact ⟨rfl, _, Eq.trans (World.drewN_drewN _ _ _) (congrArg (World.drewN _) (Nat.add_assoc _ _ _))⟩))))
       (try simp only [Act.put, List.setIfInBounds_toArray, List.set_cons_zero, List.set_cons_succ])
       go_cut [75] (fun v75 wc => ∃ (kq : Nat) (eC : Bool), v75 = .bool eC ∧ Aside0 (signetryref14_escape.j3 kq aY 5 ci eC = some (r1, r2)) ∧ Aside0 (kq ≤ kj22) ∧ Aside0 (Below w.heap.size w wc))
       case first =>
        have H := HC37.out
        clear HC37
        by_cases c38 : ci ≥ 56320
        case neg =>
         rw [if_neg c38] at H
         have ea : decide (56320 ≤ ci) = false := decide_eq_false c38
         clear c38
         (first | rw [ea] | (simp only [i64_w, i32_w]; rw [ea]) | skip)
         have H' := Aside0.mk H
         clear H
         go_wp2
         repeat (go_quiet (fail); try go_wp2)
         go_meet
         case rel => exact ⟨_, (false), p7z, H', ⟨by have := HK1.out; have := HJ16.out; have := HJ22.out; first | omega | exact Nat.le_refl _⟩, ⟨p0z⟩⟩
        rw [if_pos c38] at H
        have ea : decide (56320 ≤ ci) = true := decide_eq_true c38
        clear c38
        (first | rw [ea] | (simp only [i64_w, i32_w]; rw [ea]) | skip)
        have H' := Aside0.mk H
        clear H
        go_wp2
        repeat (go_quiet (fail); try go_wp2)
        go_meet
        case rel => exact ⟨_, (decide (ci < 57344)), p7z, H', ⟨by have := HK1.out; have := HJ16.out; have := HJ22.out; first | omega | exact Nat.le_refl _⟩, ⟨p0z⟩⟩
       case rest =>
        clear HC37
        try clear c1
        try clear c2
        try clear p2
        try clear q2
        try clear hx2
        try clear c3
        try clear bQ
        try clear p3
        try clear q3
        try clear hx3
        try clear c4
        try clear bC
        try clear c5
        try clear cH
        try clear p6
        try clear q6
        try clear hx6
        try clear c7
        try clear dj
        try clear p8
        try clear q8
        try clear hx8
        try clear c9
        try clear ew
        try clear c9b1
        try clear c10
        try clear cY
        try clear c18
        try clear dO
        try clear c19
        try clear fQ
        try clear p20
        try clear q20
        try clear hx20
        try clear c21
        try clear dp
        try clear dq
        try clear c22
        try clear c24
        try clear dr
        try clear c25
        try clear fj
        try clear c26
        try clear dC
        try clear p26
        try clear q26
        try clear hx26
        try clear c28
        try clear c28b0
        try clear c29
        try clear c29b0
        try clear p30
        try clear q30
        try clear hx30
        try clear c31
        try clear fR
        try clear fS
        try clear c33
        try clear c33b0
        try clear p34
        try clear q34
        try clear hx34
        try clear c35
        try clear c38
        try clear ea
        try clear hx267_0
        try clear p2
        try clear p20
        try clear p26
        try clear p267
        try clear p3
        try clear p30
        try clear p34
        try clear p6
        try clear p8
        try clear q2
        try clear q20
        try clear q26
        try clear q267
        try clear q3
        try clear q30
        try clear q34
        try clear q6
        try clear q8
        obtain ⟨kq, eC, rfl, HA, HJ36, HB⟩ := hcut
        cases kq with
        | zero => exact absurd HA.out (by simp [signetryref14_escape.j3])
        | succ kj36 =>
         have H := HA.out
         clear HA
         simp only [signetryref14_escape.j3] at H
         by_cases c39 : eC = true
         case neg =>
          replace c39 := Bool.eq_false_iff.mpr c39
          subst c39
          have H1 : ((signetryref02_Rune.f ([] : List Int) aY).bind fun eK => (if eK.2 = 0 then (some (eK.1, 5)) else (some (([] : List Int), 0)))) = some (r1, r2) := p27z
          clear H
          have H := H1
          clear H1
          replace H := Option.bind_eq_some_iff.mp H
          obtain ⟨⟨eU, dF⟩, A440, H⟩ := H
          replace H : (if dF = 0 then (some (eU, 5)) else (some (([] : List Int), 0))) = some (r1, r2) := H
          have A44 := Aside0.mk A440
          clear A440
          by_cases c45 : dF = 0
          case neg =>
           rw [if_neg c45] at H
           have c45b0 : (dF == 0) = false := beq_eq_false_iff_ne.mpr c45
           have c45b1 : (dF != 0) = true := bne_iff_ne.mpr c45
           simp only [Option.some.injEq, Prod.mk.injEq] at H
           obtain ⟨rfl, rfl⟩ := H
           go_wp2_with (first | (go_at_call 113; (refine (signetryref02_Rune.calls _ _ ([] : List Int) aY eU dF _ ?side1 ?side2 A44.out).mono ?_); (case side1 => exact Kd.C_nil _ _); (case side2 => exact Nat.le_refl _); rintro e w47 ⟨fU, rfl, ho0, hb⟩; have z_ := asi2 (Kd.R_lower ho0 (below_size p0z)) (below_step p0z hb); clear HB; obtain ⟨ef, HB⟩ := z_; (try clear hb ho0)))
           repeat (go_quiet (first | (go_at_call 113; (refine (signetryref02_Rune.calls _ _ ([] : List Int) aY eU dF _ ?side1 ?side2 A44.out).mono ?_); (case side1 => exact Kd.C_nil _ _); (case side2 => exact Nat.le_refl _); rintro e w47 ⟨fU, rfl, ho0, hb⟩; have z_ := asi2 (Kd.R_lower ho0 (below_size p0z)) (below_step p0z hb); clear HB; obtain ⟨ef, HB⟩ := z_; (try clear hb ho0))); try go_wp2_with (first | (go_at_call 113; (refine (signetryref02_Rune.calls _ _ ([] : List Int) aY eU dF _ ?side1 ?side2 A44.out).mono ?_); (case side1 => exact Kd.C_nil _ _); (case side2 => exact Nat.le_refl _); rintro e w47 ⟨fU, rfl, ho0, hb⟩; have z_ := asi2 (Kd.R_lower ho0 (below_size p0z)) (below_step p0z hb); clear HB; obtain ⟨ef, HB⟩ := z_; (try clear hb ho0))))
           go_ret2
           exact ⟨_, p6z, p22z, p0z⟩
          rw [if_pos c45] at H
          have c45b0 : (dF == 0) = true := beq_iff_eq.mpr c45
          have c45b1 : (dF != 0) = false := bne_eq_false_iff_eq.mpr c45
          clear c45
          simp only [Option.some.injEq, Prod.mk.injEq] at H
          obtain ⟨rfl, rfl⟩ := H
          go_wp2_with (first | (go_at_call 113; (refine (signetryref02_Rune.calls _ _ ([] : List Int) aY eU dF _ ?side1 ?side2 A44.out).mono ?_); (case side1 => exact Kd.C_nil _ _); (case side2 => exact Nat.le_refl _); rintro e w46 ⟨fU, rfl, ho0, hb⟩; have z_ := asi2 (Kd.R_lower ho0 (below_size p0z)) (below_step p0z hb); clear HB; obtain ⟨ef, HB⟩ := z_; (try clear hb ho0)))
          repeat (go_quiet (first | (go_at_call 113; (refine (signetryref02_Rune.calls _ _ ([] : List Int) aY eU dF _ ?side1 ?side2 A44.out).mono ?_); (case side1 => exact Kd.C_nil _ _); (case side2 => exact Nat.le_refl _); rintro e w46 ⟨fU, rfl, ho0, hb⟩; have z_ := asi2 (Kd.R_lower ho0 (below_size p0z)) (below_step p0z hb); clear HB; obtain ⟨ef, HB⟩ := z_; (try clear hb ho0))); try go_wp2_with (first | (go_at_call 113; (refine (signetryref02_Rune.calls _ _ ([] : List Int) aY eU dF _ ?side1 ?side2 A44.out).mono ?_); (case side1 => exact Kd.C_nil _ _); (case side2 => exact Nat.le_refl _); rintro e w46 ⟨fU, rfl, ho0, hb⟩; have z_ := asi2 (Kd.R_lower ho0 (below_size p0z)) (below_step p0z hb); clear HB; obtain ⟨ef, HB⟩ := z_; (try clear hb ho0))))
          go_ret2
          exact ⟨_, p6z, q0z ef.out, p0z⟩
         subst c39
         have H1 : ((signetryref02_Rune.f ([] : List Int) (wrap64 ((wrap64 ((wrap64 (65536 + (wrap64 (1024 * (wrap64 (aY - 55296)))))) + ci)) - 56320))).bind fun eJ => (if eJ.2 = 0 then (some (eJ.1, 11)) else (some (([] : List Int), 0)))) = some (r1, r2) := p53z
         clear H
         have H := H1
         clear H1
         replace H := Option.bind_eq_some_iff.mp H
         obtain ⟨⟨eT, dE⟩, A400, H⟩ := H
         replace H : (if dE = 0 then (some (eT, 11)) else (some (([] : List Int), 0))) = some (r1, r2) := H
         have A40 := Aside0.mk A400
         clear A400
         by_cases c41 : dE = 0
         case neg =>
          rw [if_neg c41] at H
          have c41b0 : (dE == 0) = false := beq_eq_false_iff_ne.mpr c41
          have c41b1 : (dE != 0) = true := bne_iff_ne.mpr c41
          simp only [Option.some.injEq, Prod.mk.injEq] at H
          obtain ⟨rfl, rfl⟩ := H
          go_wp2_with (first | (go_at_call 113; (refine (signetryref02_Rune.calls _ _ ([] : List Int) (wrap64 ((wrap64 ((wrap64 (65536 + (wrap64 (1024 * (wrap64 (aY - 55296)))))) + ci)) - 56320)) eT dE _ ?side1 ?side2 A40.out).mono ?_); (case side1 => exact Kd.C_nil _ _); (case side2 => exact Nat.le_refl _); rintro e w43 ⟨fT, rfl, ho0, hb⟩; have z_ := asi2 (Kd.R_lower ho0 (below_size p0z)) (below_step p0z hb); clear HB; obtain ⟨ec, HB⟩ := z_; (try clear hb ho0)))
          repeat (go_quiet (first | (go_at_call 113; (refine (signetryref02_Rune.calls _ _ ([] : List Int) (wrap64 ((wrap64 ((wrap64 (65536 + (wrap64 (1024 * (wrap64 (aY - 55296)))))) + ci)) - 56320)) eT dE _ ?side1 ?side2 A40.out).mono ?_); (case side1 => exact Kd.C_nil _ _); (case side2 => exact Nat.le_refl _); rintro e w43 ⟨fT, rfl, ho0, hb⟩; have z_ := asi2 (Kd.R_lower ho0 (below_size p0z)) (below_step p0z hb); clear HB; obtain ⟨ec, HB⟩ := z_; (try clear hb ho0))); try go_wp2_with (first | (go_at_call 113; (refine (signetryref02_Rune.calls _ _ ([] : List Int) (wrap64 ((wrap64 ((wrap64 (65536 + (wrap64 (1024 * (wrap64 (aY - 55296)))))) + ci)) - 56320)) eT dE _ ?side1 ?side2 A40.out).mono ?_); (case side1 => exact Kd.C_nil _ _); (case side2 => exact Nat.le_refl _); rintro e w43 ⟨fT, rfl, ho0, hb⟩; have z_ := asi2 (Kd.R_lower ho0 (below_size p0z)) (below_step p0z hb); clear HB; obtain ⟨ec, HB⟩ := z_; (try clear hb ho0))))
          go_ret2
          exact ⟨_, p6z, p22z, p0z⟩
         rw [if_pos c41] at H
         have c41b0 : (dE == 0) = true := beq_iff_eq.mpr c41
         have c41b1 : (dE != 0) = false := bne_eq_false_iff_eq.mpr c41
         clear c41
         simp only [Option.some.injEq, Prod.mk.injEq] at H
         obtain ⟨rfl, rfl⟩ := H
         go_wp2_with (first | (go_at_call 113; (refine (signetryref02_Rune.calls _ _ ([] : List Int) (wrap64 ((wrap64 ((wrap64 (65536 + (wrap64 (1024 * (wrap64 (aY - 55296)))))) + ci)) - 56320)) eT dE _ ?side1 ?side2 A40.out).mono ?_); (case side1 => exact Kd.C_nil _ _); (case side2 => exact Nat.le_refl _); rintro e w42 ⟨fT, rfl, ho0, hb⟩; have z_ := asi2 (Kd.R_lower ho0 (below_size p0z)) (below_step p0z hb); clear HB; obtain ⟨ec, HB⟩ := z_; (try clear hb ho0)))
         repeat (go_quiet (first | (go_at_call 113; (refine (signetryref02_Rune.calls _ _ ([] : List Int) (wrap64 ((wrap64 ((wrap64 (65536 + (wrap64 (1024 * (wrap64 (aY - 55296)))))) + ci)) - 56320)) eT dE _ ?side1 ?side2 A40.out).mono ?_); (case side1 => exact Kd.C_nil _ _); (case side2 => exact Nat.le_refl _); rintro e w42 ⟨fT, rfl, ho0, hb⟩; have z_ := asi2 (Kd.R_lower ho0 (below_size p0z)) (below_step p0z hb); clear HB; obtain ⟨ec, HB⟩ := z_; (try clear hb ho0))); try go_wp2_with (first | (go_at_call 113; (refine (signetryref02_Rune.calls _ _ ([] : List Int) (wrap64 ((wrap64 ((wrap64 (65536 + (wrap64 (1024 * (wrap64 (aY - 55296)))))) + ci)) - 56320)) eT dE _ ?side1 ?side2 A40.out).mono ?_); (case side1 => exact Kd.C_nil _ _); (case side2 => exact Nat.le_refl _); rintro e w42 ⟨fT, rfl, ho0, hb⟩; have z_ := asi2 (Kd.R_lower ho0 (below_size p0z)) (below_step p0z hb); clear HB; obtain ⟨ec, HB⟩ := z_; (try clear hb ho0))))
         go_ret2
         exact ⟨_, p6z, q0z ec.out, p0z⟩
end Go.Proofs.YtodnggilomanbaaGreatDoor.PAll
