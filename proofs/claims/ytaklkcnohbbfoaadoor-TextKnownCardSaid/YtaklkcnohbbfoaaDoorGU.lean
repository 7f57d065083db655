-- Written by this repo's program wip/tools/pr.py (over the kit's print) out of the translation. Not trusted: Lean checks it.
import Derived.Test.YtaklkcnohbbfoaaDoorPAllx0
import Derived.Test.YtaklkcnohbbfoaaDoorHandConv
namespace Go.Proofs.YtaklkcnohbbfoaaDoor.PAll
open Go.Proofs.YtaklkcnohbbfoaaDoor.Hand
open Go.RowKit Go.Proofs.YtaklkcnohbbfoaaDoorW.PrintWords Go.Proofs.YtaklkcnohbbfoaaDoorW.PrintLast Go.Proofs.YtaklkcnohbbfoaaDoorW.PrintMore
attribute [local go_sem] max2_int min2_int max_two min_two max_three min_three max_four min_four   -- for this text's walks alone
set_option linter.unusedVariables false
set_option linter.unusedSimpArgs false

/-! ### strconv_lower: function 77 -/
def strconv_lower.f (a0 : Int) : Option (Int) := some (Go.bits .or .u8 a0 32)
set_option maxHeartbeats 8000000 in
set_option maxRecDepth 100000 in
theorem strconv_lower.calls (a0 : Int) (r : Int) (w : World) (h : strconv_lower.f a0 = some r) :
    Calls Tryd.prog 77 #[.int .u8 a0] w fun e w' => e = .returned (.int .u8 r) ∧ Drawn0 w w' := by
  have H : (some (Go.bits .or .u8 a0 32)) = some r := h
  clear h
  obtain rfl := Option.some.inj H
  go_enter Tryd.func77, Tryd.ntmps77
  go_wp2
  go_ret
  exact ⟨by first | rfl | (simp; done) | (simp [*]; done), by repeat (first | exact Drawn0.refl _ | apply Drawn0.step)⟩

/-! ### strconv_ParseUint: function 70 -/
mutual
def strconv_ParseUint.j3 : Nat → ByteArray → Int → Int → Bool → Option (Int × Option Int)
  | 0, _, _, _, _ => none
  | k + 1, x0, x1, x2, x8 => if x2 = 0 then (strconv_ParseUint.j4 k x0 x1 64 x8) else (if x2 < 0 then (some (0, some 4)) else (if x2 > 64 then (some (0, some 4)) else (strconv_ParseUint.j4 k x0 x1 x2 x8)))
def strconv_ParseUint.j4 : Nat → ByteArray → Int → Int → Bool → Option (Int × Option Int)
  | 0, _, _, _, _ => none
  | k + 1, x0, x1, x2, x8 => if x1 = 10 then (strconv_ParseUint.j5 k x0 x1 x2 x8 1844674407370955162) else (if x1 = 16 then (strconv_ParseUint.j5 k x0 x1 x2 x8 1152921504606846976) else (if (IntKind.u64.wrap (x1)) = 0 then (none) else (strconv_ParseUint.j5 k x0 x1 x2 x8 (IntKind.u64.wrap ((IntKind.u64.wrap ((18446744073709551615 : Int) / (IntKind.u64.wrap (x1)))) + 1)))))
def strconv_ParseUint.j5 : Nat → ByteArray → Int → Int → Bool → Int → Option (Int × Option Int)
  | 0, _, _, _, _, _ => none
  | k + 1, x0, x1, x2, x8, x10 => if 0 ≤ (IntKind.u64.wrap (x2)) then ((gosem_bytesOf.f x0).bind fun t108 => (strconv_ParseUint.l0 k x1 x8 x10 (IntKind.u64.wrap ((shl .u64 1 (IntKind.u64.wrap (x2))) - 1)) false 0 t108 (t108.length : Int) 0)) else (none)
def strconv_ParseUint.l0 : Nat → Int → Bool → Int → Int → Bool → Int → List Int → Int → Int → Option (Int × Option Int)
  | 0, _, _, _, _, _, _, _, _, _ => none
  | k + 1, x1, x8, x10, x11, x12, x13, x99, x100, x101 => if x101 < x100 then (if 0 ≤ x101 then (if x101 < (x99.length : Int) then (if (rd x99 x101) = 95 then (strconv_ParseUint.j7 k x1 x8 x10 x11 x12 x13 (rd x99 x101) x99 x100 x101 x8) else (strconv_ParseUint.j7 k x1 x8 x10 x11 x12 x13 (rd x99 x101) x99 x100 x101 false)) else (none)) else (none)) else (if x12 = true then (none) else (some (x13, none)))
def strconv_ParseUint.j9 : Nat → Int → Bool → Int → Int → Bool → Int → Int → List Int → Int → Int → Option (Int × Option Int)
  | 0, _, _, _, _, _, _, _, _, _, _ => none
  | k + 1, x1, x8, x10, x11, x12, x13, x16, x99, x100, x101 => if x16 ≥ ((x1) % 256) then (some (0, some 2)) else (if x13 ≥ x10 then (some (x11, some 1)) else (if (IntKind.u64.wrap ((IntKind.u64.wrap (x13 * (IntKind.u64.wrap (x1)))) + (IntKind.u64.wrap (x16)))) < (IntKind.u64.wrap (x13 * (IntKind.u64.wrap (x1)))) then (some (x11, some 1)) else (if (IntKind.u64.wrap ((IntKind.u64.wrap (x13 * (IntKind.u64.wrap (x1)))) + (IntKind.u64.wrap (x16)))) > x11 then (some (x11, some 1)) else (strconv_ParseUint.l0 k x1 x8 x10 x11 x12 (IntKind.u64.wrap ((IntKind.u64.wrap (x13 * (IntKind.u64.wrap (x1)))) + (IntKind.u64.wrap (x16)))) x99 x100 (wrap64 (x101 + 1))))))
def strconv_ParseUint.j7 : Nat → Int → Bool → Int → Int → Bool → Int → Int → List Int → Int → Int → Bool → Option (Int × Option Int)
  | 0, _, _, _, _, _, _, _, _, _, _, _ => none
  | k + 1, x1, x8, x10, x11, x12, x13, x15, x99, x100, x101, x106 => if x106 = true then (none) else (if 48 ≤ x15 then (strconv_ParseUint.j8 k x1 x8 x10 x11 x12 x13 x15 x99 x100 x101 (decide (x15 ≤ 57))) else (strconv_ParseUint.j8 k x1 x8 x10 x11 x12 x13 x15 x99 x100 x101 false))
def strconv_ParseUint.j8 : Nat → Int → Bool → Int → Int → Bool → Int → Int → List Int → Int → Int → Bool → Option (Int × Option Int)
  | 0, _, _, _, _, _, _, _, _, _, _, _ => none
  | k + 1, x1, x8, x10, x11, x12, x13, x15, x99, x100, x101, x112 => if x112 = true then (strconv_ParseUint.j9 k x1 x8 x10 x11 x12 x13 ((x15 - 48) % 256) x99 x100 x101) else ((strconv_lower.f x15).bind fun t113 => (if 97 ≤ t113 then (if t113 ≤ 122 then (strconv_ParseUint.j9 k x1 x8 x10 x11 x12 x13 ((((t113 - 97) % 256) + 10) % 256) x99 x100 x101) else (some (0, some 2))) else (some (0, some 2))))
def strconv_ParseUint.j0 : Nat → ByteArray → Int → Int → Bool → Bool → Option (Int × Option Int)
  | 0, _, _, _, _, _ => none
  | k + 1, x0, x1, x2, x8, x25 => if x25 = true then (strconv_ParseUint.j3 k x0 x1 x2 x8) else (if x1 = 0 then (none) else (some (0, some 3)))
end
def strconv_ParseUint.f (k : Nat) (a0 : ByteArray) (a1 : Int) (a2 : Int) : Option (Int × Option Int) := if a0.toList = ([] : List UInt8) then (some (0, some 2)) else (if 2 ≤ a1 then (strconv_ParseUint.j0 k a0 a1 a2 (a1 == 0) (decide (a1 ≤ 36))) else (strconv_ParseUint.j0 k a0 a1 a2 (a1 == 0) false))
theorem strconv_ParseUint.mono_l : ∀ k, (∀ y0 y1 y2 y3, LeO (strconv_ParseUint.j3 k y0 y1 y2 y3) (strconv_ParseUint.j3 (k + 1) y0 y1 y2 y3)) ∧ (∀ y0 y1 y2 y3, LeO (strconv_ParseUint.j4 k y0 y1 y2 y3) (strconv_ParseUint.j4 (k + 1) y0 y1 y2 y3)) ∧ (∀ y0 y1 y2 y3 y4, LeO (strconv_ParseUint.j5 k y0 y1 y2 y3 y4) (strconv_ParseUint.j5 (k + 1) y0 y1 y2 y3 y4)) ∧ (∀ y0 y1 y2 y3 y4 y5 y6 y7 y8, LeO (strconv_ParseUint.l0 k y0 y1 y2 y3 y4 y5 y6 y7 y8) (strconv_ParseUint.l0 (k + 1) y0 y1 y2 y3 y4 y5 y6 y7 y8)) ∧ (∀ y0 y1 y2 y3 y4 y5 y6 y7 y8 y9, LeO (strconv_ParseUint.j9 k y0 y1 y2 y3 y4 y5 y6 y7 y8 y9) (strconv_ParseUint.j9 (k + 1) y0 y1 y2 y3 y4 y5 y6 y7 y8 y9)) ∧ (∀ y0 y1 y2 y3 y4 y5 y6 y7 y8 y9 y10, LeO (strconv_ParseUint.j7 k y0 y1 y2 y3 y4 y5 y6 y7 y8 y9 y10) (strconv_ParseUint.j7 (k + 1) y0 y1 y2 y3 y4 y5 y6 y7 y8 y9 y10)) ∧ (∀ y0 y1 y2 y3 y4 y5 y6 y7 y8 y9 y10, LeO (strconv_ParseUint.j8 k y0 y1 y2 y3 y4 y5 y6 y7 y8 y9 y10) (strconv_ParseUint.j8 (k + 1) y0 y1 y2 y3 y4 y5 y6 y7 y8 y9 y10)) ∧ (∀ y0 y1 y2 y3 y4, LeO (strconv_ParseUint.j0 k y0 y1 y2 y3 y4) (strconv_ParseUint.j0 (k + 1) y0 y1 y2 y3 y4))
 | 0 => ⟨fun _ _ _ _ r h => by simp [strconv_ParseUint.j3] at h, fun _ _ _ _ r h => by simp [strconv_ParseUint.j4] at h, fun _ _ _ _ _ r h => by simp [strconv_ParseUint.j5] at h, fun _ _ _ _ _ _ _ _ _ r h => by simp [strconv_ParseUint.l0] at h, fun _ _ _ _ _ _ _ _ _ _ r h => by simp [strconv_ParseUint.j9] at h, fun _ _ _ _ _ _ _ _ _ _ _ r h => by simp [strconv_ParseUint.j7] at h, fun _ _ _ _ _ _ _ _ _ _ _ r h => by simp [strconv_ParseUint.j8] at h, fun _ _ _ _ _ r h => by simp [strconv_ParseUint.j0] at h⟩
 | k + 1 => by
  obtain ⟨ih0, ih1, ih2, ih3, ih4, ih5, ih6, ih7⟩ := strconv_ParseUint.mono_l k
  refine ⟨?_, ?_, ?_, ?_, ?_, ?_, ?_, ?_⟩
  ·intro y0 y1 y2 y3
   unfold strconv_ParseUint.j3
   repeat' first
   | (with_reducible exact ih0 _ _ _ _)
   | (with_reducible exact ih1 _ _ _ _)
   | (with_reducible exact ih2 _ _ _ _ _)
   | (with_reducible exact ih3 _ _ _ _ _ _ _ _ _)
   | (with_reducible exact ih4 _ _ _ _ _ _ _ _ _ _)
   | (with_reducible exact ih5 _ _ _ _ _ _ _ _ _ _ _)
   | (with_reducible exact ih6 _ _ _ _ _ _ _ _ _ _ _)
   | (with_reducible exact ih7 _ _ _ _ _)
   | (with_reducible exact LeO.refl _)
   | (with_reducible exact LeO.none _)
   | (with_reducible refine LeO.ite ?_ ?_)
   | (with_reducible refine LeO.bind ?_ (fun _ => ?_))
   | exact ih0 _ _ _ _
   | exact ih1 _ _ _ _
   | exact ih2 _ _ _ _ _
   | exact ih3 _ _ _ _ _ _ _ _ _
   | exact ih4 _ _ _ _ _ _ _ _ _ _
   | exact ih5 _ _ _ _ _ _ _ _ _ _ _
   | exact ih6 _ _ _ _ _ _ _ _ _ _ _
   | exact ih7 _ _ _ _ _
   | exact LeO.none _
   | refine LeO.ite ?_ ?_
   | refine LeO.bind ?_ (fun _ => ?_)
  ·intro y0 y1 y2 y3
   unfold strconv_ParseUint.j4
   repeat' first
   | (with_reducible exact ih0 _ _ _ _)
   | (with_reducible exact ih1 _ _ _ _)
   | (with_reducible exact ih2 _ _ _ _ _)
   | (with_reducible exact ih3 _ _ _ _ _ _ _ _ _)
   | (with_reducible exact ih4 _ _ _ _ _ _ _ _ _ _)
   | (with_reducible exact ih5 _ _ _ _ _ _ _ _ _ _ _)
   | (with_reducible exact ih6 _ _ _ _ _ _ _ _ _ _ _)
   | (with_reducible exact ih7 _ _ _ _ _)
   | (with_reducible exact LeO.refl _)
   | (with_reducible exact LeO.none _)
   | (with_reducible refine LeO.ite ?_ ?_)
   | (with_reducible refine LeO.bind ?_ (fun _ => ?_))
   | exact ih0 _ _ _ _
   | exact ih1 _ _ _ _
   | exact ih2 _ _ _ _ _
   | exact ih3 _ _ _ _ _ _ _ _ _
   | exact ih4 _ _ _ _ _ _ _ _ _ _
   | exact ih5 _ _ _ _ _ _ _ _ _ _ _
   | exact ih6 _ _ _ _ _ _ _ _ _ _ _
   | exact ih7 _ _ _ _ _
   | exact LeO.none _
   | refine LeO.ite ?_ ?_
   | refine LeO.bind ?_ (fun _ => ?_)
  ·intro y0 y1 y2 y3 y4
   unfold strconv_ParseUint.j5
   repeat' first
   | (with_reducible exact ih0 _ _ _ _)
   | (with_reducible exact ih1 _ _ _ _)
   | (with_reducible exact ih2 _ _ _ _ _)
   | (with_reducible exact ih3 _ _ _ _ _ _ _ _ _)
   | (with_reducible exact ih4 _ _ _ _ _ _ _ _ _ _)
   | (with_reducible exact ih5 _ _ _ _ _ _ _ _ _ _ _)
   | (with_reducible exact ih6 _ _ _ _ _ _ _ _ _ _ _)
   | (with_reducible exact ih7 _ _ _ _ _)
   | (with_reducible exact LeO.refl _)
   | (with_reducible exact LeO.none _)
   | (with_reducible refine LeO.ite ?_ ?_)
   | (with_reducible refine LeO.bind ?_ (fun _ => ?_))
   | exact ih0 _ _ _ _
   | exact ih1 _ _ _ _
   | exact ih2 _ _ _ _ _
   | exact ih3 _ _ _ _ _ _ _ _ _
   | exact ih4 _ _ _ _ _ _ _ _ _ _
   | exact ih5 _ _ _ _ _ _ _ _ _ _ _
   | exact ih6 _ _ _ _ _ _ _ _ _ _ _
   | exact ih7 _ _ _ _ _
   | exact LeO.none _
   | refine LeO.ite ?_ ?_
   | refine LeO.bind ?_ (fun _ => ?_)
  ·intro y0 y1 y2 y3 y4 y5 y6 y7 y8
   unfold strconv_ParseUint.l0
   repeat' first
   | (with_reducible exact ih0 _ _ _ _)
   | (with_reducible exact ih1 _ _ _ _)
   | (with_reducible exact ih2 _ _ _ _ _)
   | (with_reducible exact ih3 _ _ _ _ _ _ _ _ _)
   | (with_reducible exact ih4 _ _ _ _ _ _ _ _ _ _)
   | (with_reducible exact ih5 _ _ _ _ _ _ _ _ _ _ _)
   | (with_reducible exact ih6 _ _ _ _ _ _ _ _ _ _ _)
   | (with_reducible exact ih7 _ _ _ _ _)
   | (with_reducible exact LeO.refl _)
   | (with_reducible exact LeO.none _)
   | (with_reducible refine LeO.ite ?_ ?_)
   | (with_reducible refine LeO.bind ?_ (fun _ => ?_))
   | exact ih0 _ _ _ _
   | exact ih1 _ _ _ _
   | exact ih2 _ _ _ _ _
   | exact ih3 _ _ _ _ _ _ _ _ _
   | exact ih4 _ _ _ _ _ _ _ _ _ _
   | exact ih5 _ _ _ _ _ _ _ _ _ _ _
   | exact ih6 _ _ _ _ _ _ _ _ _ _ _
   | exact ih7 _ _ _ _ _
   | exact LeO.none _
   | refine LeO.ite ?_ ?_
   | refine LeO.bind ?_ (fun _ => ?_)
  ·intro y0 y1 y2 y3 y4 y5 y6 y7 y8 y9
   unfold strconv_ParseUint.j9
   repeat' first
   | (with_reducible exact ih0 _ _ _ _)
   | (with_reducible exact ih1 _ _ _ _)
   | (with_reducible exact ih2 _ _ _ _ _)
   | (with_reducible exact ih3 _ _ _ _ _ _ _ _ _)
   | (with_reducible exact ih4 _ _ _ _ _ _ _ _ _ _)
   | (with_reducible exact ih5 _ _ _ _ _ _ _ _ _ _ _)
   | (with_reducible exact ih6 _ _ _ _ _ _ _ _ _ _ _)
   | (with_reducible exact ih7 _ _ _ _ _)
   | (with_reducible exact LeO.refl _)
   | (with_reducible exact LeO.none _)
   | (with_reducible refine LeO.ite ?_ ?_)
   | (with_reducible refine LeO.bind ?_ (fun _ => ?_))
   | exact ih0 _ _ _ _
   | exact ih1 _ _ _ _
   | exact ih2 _ _ _ _ _
   | exact ih3 _ _ _ _ _ _ _ _ _
   | exact ih4 _ _ _ _ _ _ _ _ _ _
   | exact ih5 _ _ _ _ _ _ _ _ _ _ _
   | exact ih6 _ _ _ _ _ _ _ _ _ _ _
   | exact ih7 _ _ _ _ _
   | exact LeO.none _
   | refine LeO.ite ?_ ?_
   | refine LeO.bind ?_ (fun _ => ?_)
  ·intro y0 y1 y2 y3 y4 y5 y6 y7 y8 y9 y10
   unfold strconv_ParseUint.j7
   repeat' first
   | (with_reducible exact ih0 _ _ _ _)
   | (with_reducible exact ih1 _ _ _ _)
   | (with_reducible exact ih2 _ _ _ _ _)
   | (with_reducible exact ih3 _ _ _ _ _ _ _ _ _)
   | (with_reducible exact ih4 _ _ _ _ _ _ _ _ _ _)
   | (with_reducible exact ih5 _ _ _ _ _ _ _ _ _ _ _)
   | (with_reducible exact ih6 _ _ _ _ _ _ _ _ _ _ _)
   | (with_reducible exact ih7 _ _ _ _ _)
   | (with_reducible exact LeO.refl _)
   | (with_reducible exact LeO.none _)
   | (with_reducible refine LeO.ite ?_ ?_)
   | (with_reducible refine LeO.bind ?_ (fun _ => ?_))
   | exact ih0 _ _ _ _
   | exact ih1 _ _ _ _
   | exact ih2 _ _ _ _ _
   | exact ih3 _ _ _ _ _ _ _ _ _
   | exact ih4 _ _ _ _ _ _ _ _ _ _
   | exact ih5 _ _ _ _ _ _ _ _ _ _ _
   | exact ih6 _ _ _ _ _ _ _ _ _ _ _
   | exact ih7 _ _ _ _ _
   | exact LeO.none _
   | refine LeO.ite ?_ ?_
   | refine LeO.bind ?_ (fun _ => ?_)
  ·intro y0 y1 y2 y3 y4 y5 y6 y7 y8 y9 y10
   unfold strconv_ParseUint.j8
   repeat' first
   | (with_reducible exact ih0 _ _ _ _)
   | (with_reducible exact ih1 _ _ _ _)
   | (with_reducible exact ih2 _ _ _ _ _)
   | (with_reducible exact ih3 _ _ _ _ _ _ _ _ _)
   | (with_reducible exact ih4 _ _ _ _ _ _ _ _ _ _)
   | (with_reducible exact ih5 _ _ _ _ _ _ _ _ _ _ _)
   | (with_reducible exact ih6 _ _ _ _ _ _ _ _ _ _ _)
   | (with_reducible exact ih7 _ _ _ _ _)
   | (with_reducible exact LeO.refl _)
   | (with_reducible exact LeO.none _)
   | (with_reducible refine LeO.ite ?_ ?_)
   | (with_reducible refine LeO.bind ?_ (fun _ => ?_))
   | exact ih0 _ _ _ _
   | exact ih1 _ _ _ _
   | exact ih2 _ _ _ _ _
   | exact ih3 _ _ _ _ _ _ _ _ _
   | exact ih4 _ _ _ _ _ _ _ _ _ _
   | exact ih5 _ _ _ _ _ _ _ _ _ _ _
   | exact ih6 _ _ _ _ _ _ _ _ _ _ _
   | exact ih7 _ _ _ _ _
   | exact LeO.none _
   | refine LeO.ite ?_ ?_
   | refine LeO.bind ?_ (fun _ => ?_)
  ·intro y0 y1 y2 y3 y4
   unfold strconv_ParseUint.j0
   repeat' first
   | (with_reducible exact ih0 _ _ _ _)
   | (with_reducible exact ih1 _ _ _ _)
   | (with_reducible exact ih2 _ _ _ _ _)
   | (with_reducible exact ih3 _ _ _ _ _ _ _ _ _)
   | (with_reducible exact ih4 _ _ _ _ _ _ _ _ _ _)
   | (with_reducible exact ih5 _ _ _ _ _ _ _ _ _ _ _)
   | (with_reducible exact ih6 _ _ _ _ _ _ _ _ _ _ _)
   | (with_reducible exact ih7 _ _ _ _ _)
   | (with_reducible exact LeO.refl _)
   | (with_reducible exact LeO.none _)
   | (with_reducible refine LeO.ite ?_ ?_)
   | (with_reducible refine LeO.bind ?_ (fun _ => ?_))
   | exact ih0 _ _ _ _
   | exact ih1 _ _ _ _
   | exact ih2 _ _ _ _ _
   | exact ih3 _ _ _ _ _ _ _ _ _
   | exact ih4 _ _ _ _ _ _ _ _ _ _
   | exact ih5 _ _ _ _ _ _ _ _ _ _ _
   | exact ih6 _ _ _ _ _ _ _ _ _ _ _
   | exact ih7 _ _ _ _ _
   | exact LeO.none _
   | refine LeO.ite ?_ ?_
   | refine LeO.bind ?_ (fun _ => ?_)
theorem strconv_ParseUint.mono : ∀ a0 a1 a2 k, LeO (strconv_ParseUint.f k a0 a1 a2) (strconv_ParseUint.f (k + 1) a0 a1 a2) := by
  intro a0 a1 a2 k
  obtain ⟨ih0, ih1, ih2, ih3, ih4, ih5, ih6, ih7⟩ := strconv_ParseUint.mono_l k
  unfold strconv_ParseUint.f
  repeat' first
      | (with_reducible exact ih0 _ _ _ _)
      | (with_reducible exact ih1 _ _ _ _)
      | (with_reducible exact ih2 _ _ _ _ _)
      | (with_reducible exact ih3 _ _ _ _ _ _ _ _ _)
      | (with_reducible exact ih4 _ _ _ _ _ _ _ _ _ _)
      | (with_reducible exact ih5 _ _ _ _ _ _ _ _ _ _ _)
      | (with_reducible exact ih6 _ _ _ _ _ _ _ _ _ _ _)
      | (with_reducible exact ih7 _ _ _ _ _)
      | (with_reducible exact LeO.refl _)
      | (with_reducible exact LeO.none _)
      | (with_reducible refine LeO.ite ?_ ?_)
      | (with_reducible refine LeO.bind ?_ (fun _ => ?_))
      | exact ih0 _ _ _ _
      | exact ih1 _ _ _ _
      | exact ih2 _ _ _ _ _
      | exact ih3 _ _ _ _ _ _ _ _ _
      | exact ih4 _ _ _ _ _ _ _ _ _ _
      | exact ih5 _ _ _ _ _ _ _ _ _ _ _
      | exact ih6 _ _ _ _ _ _ _ _ _ _ _
      | exact ih7 _ _ _ _ _
      | exact LeO.none _
      | refine LeO.ite ?_ ?_
      | refine LeO.bind ?_ (fun _ => ?_)
set_option maxHeartbeats 8000000 in
set_option maxRecDepth 100000 in
theorem strconv_ParseUint.calls (k : Nat) (a0 : ByteArray) (a1 : Int) (a2 : Int) (r1 : Int) (r2 : Option Int) (w : World) (h : strconv_ParseUint.f k a0 a1 a2 = some (r1, r2)) :
 Calls Tryd.prog 70 #[.string a0, .int .i64 a1, .int .i64 a2] w fun e w' => e = .returned (.tuple #[.int .u64 r1, errW r2]) ∧ Below w.heap.size w w' := by
 have hu60 := Tryd.underlying60
 have hu93 := Tryd.underlying93
 have HB := Aside0.mk (Below.refl w.heap.size w)
 have H : (if a0.toList = ([] : List UInt8) then (some (0, some 2)) else (if 2 ≤ a1 then (strconv_ParseUint.j0 k a0 a1 a2 (a1 == 0) (decide (a1 ≤ 36))) else (strconv_ParseUint.j0 k a0 a1 a2 (a1 == 0) false))) = some (r1, r2) := h
 clear h
 by_cases c4 : a0.toList = ([] : List UInt8)
 case pos =>
  rw [if_pos c4] at H
  have c4b0 : (a0.toList == ([] : List UInt8)) = true := beq_iff_eq.mpr c4
  have c4b1 : (a0.toList != ([] : List UInt8)) = false := bne_eq_false_iff_eq.mpr c4
  clear c4
  simp only [Option.some.injEq, Prod.mk.injEq] at H
  obtain ⟨rfl, rfl⟩ := H
  go_enter Tryd.func70, Tryd.ntmps70
  go_wp2
  go_ret2
  exact ⟨by first | rfl | (simp [errW_none, errW_some] <;> rfl) | (simp [*, errW_none, errW_some] <;> rfl), by repeat (first | (with_reducible first | exact HB.out | apply below_alloc | apply pw_below_drewN | apply below_drew1) | exact HB.out)⟩
 rw [if_neg c4] at H
 have c4b0 : (a0.toList == ([] : List UInt8)) = false := beq_eq_false_iff_ne.mpr c4
 have c4b1 : (a0.toList != ([] : List UInt8)) = true := bne_iff_ne.mpr c4
 have HC5 := Aside0.mk H
 clear H
 go_enter Tryd.func70, Tryd.ntmps70
 go_upto_block 0 with (fail)
 go_cut [0, 1] (fun v0 v1 wc => ∃ (kq : Nat) (x0_4 : ByteArray) (x1_4 : Int), v0 = .string x0_4 ∧ v1 = .int .i64 x1_4 ∧ Aside0 (strconv_ParseUint.j3 kq x0_4 x1_4 a2 (a1 == 0) = some (r1, r2)) ∧ Aside0 (kq ≤ k) ∧ Aside0 (Below w.heap.size w wc))
 case first =>
  have H := HC5.out
  clear HC5
  have HC6 := Aside0.mk H
  clear H
  go_upto_region 6 with (fail)
  go_cut [25] (fun v25 wc => ∃ (kq : Nat) (x25_5 : Bool), v25 = .bool x25_5 ∧ Aside0 (strconv_ParseUint.j0 kq a0 a1 a2 (a1 == 0) x25_5 = some (r1, r2)) ∧ Aside0 (kq ≤ k) ∧ Aside0 (Below w.heap.size w wc))
  case first =>
   have H := HC6.out
   clear HC6
   by_cases c7 : 2 ≤ a1
   case neg =>
    rw [if_neg c7] at H
    have c7b0 : decide (2 ≤ a1) = false := decide_eq_false c7
    clear c7
    (first | rw [c7b0] | (simp only [i64_w, i32_w]; rw [c7b0]) | skip)
    have H' := Aside0.mk H
    clear H
    go_wp2
    go_meet
    case rel => exact ⟨_, (false), (by first | rfl | (simp; done) | (simp [*]; done)), H', ⟨by first | omega | exact Nat.le_refl _⟩, ⟨by repeat (first | (with_reducible first | exact HB.out | apply below_alloc | apply pw_below_drewN | apply below_drew1) | exact HB.out)⟩⟩
   rw [if_pos c7] at H
   have c7b0 : decide (2 ≤ a1) = true := decide_eq_true c7
   clear c7
   (first | rw [c7b0] | (simp only [i64_w, i32_w]; rw [c7b0]) | skip)
   have H' := Aside0.mk H
   clear H
   go_wp2
   go_meet
   case rel => exact ⟨_, (decide (a1 ≤ 36)), (by first | rfl | (simp; done) | (simp [*]; done)), H', ⟨by first | omega | exact Nat.le_refl _⟩, ⟨by repeat (first | (with_reducible first | exact HB.out | apply below_alloc | apply pw_below_drewN | apply below_drew1) | exact HB.out)⟩⟩
  case rest =>
   clear HC6
   try clear p2
   try clear c4
   try clear c4b0
   try clear c4b1
   try clear c7
   try clear c7b0
   obtain ⟨kq, x25_5, rfl, HA, HJ5, HB⟩ := hcut
   cases kq with
   | zero => exact absurd HA.out (by simp [strconv_ParseUint.j0])
   | succ kj5 =>
    have H := HA.out
    clear HA
    simp only [strconv_ParseUint.j0] at H
    by_cases c8 : x25_5 = true
    case pos =>
     subst c8
     have H1 : (strconv_ParseUint.j3 kj5 a0 a1 a2 (a1 == 0)) = some (r1, r2) := by rw [if_pos rfl] at H; exact H
     clear H
     have H := H1
     clear H1
     have H' := Aside0.mk H
     clear H
     go_wp2
     go_meet
     case rel => exact ⟨_, (a0), (a1), (by first | rfl | (simp; done) | (simp [*]; done)), (by first | rfl | (simp; done) | (simp [*]; done)), H', ⟨by have := HJ5.out; first | omega | exact Nat.le_refl _⟩, ⟨by repeat (first | (with_reducible first | exact HB.out | apply below_alloc | apply pw_below_drewN | apply below_drew1) | exact HB.out)⟩⟩
    replace c8 := Bool.eq_false_iff.mpr c8
    subst c8
    have H1 : (if a1 = 0 then (none) else (some (0, some 3))) = some (r1, r2) := by rw [if_neg (show ¬ (false = true) by decide)] at H; exact H
    clear H
    have H := H1
    clear H1
    by_cases c9 : a1 = 0
    case pos =>
     rw [if_pos c9] at H
     exact absurd H (by simp)
    rw [if_neg c9] at H
    have c9b0 : (a1 == 0) = false := beq_eq_false_iff_ne.mpr c9
    have c9b1 : (a1 != 0) = true := bne_iff_ne.mpr c9
    simp only [Option.some.injEq, Prod.mk.injEq] at H
    obtain ⟨rfl, rfl⟩ := H
    go_wp2
    go_ret2
    exact ⟨by first | rfl | (simp [errW_none, errW_some] <;> rfl) | (simp [*, errW_none, errW_some] <;> rfl), by repeat (first | (with_reducible first | exact HB.out | apply below_alloc | apply pw_below_drewN | apply below_drew1) | exact HB.out)⟩
 case rest =>
  clear HC5
  try clear p2
  try clear c4
  try clear c4b0
  try clear c4b1
  try clear c7
  try clear c7b0
  try clear c8
  try clear c9
  try clear c9b0
  try clear c9b1
  try clear p2
  obtain ⟨kq, x0_4, x1_4, rfl, rfl, HA, HJ4, HB⟩ := hcut
  cases kq with
  | zero => exact absurd HA.out (by simp [strconv_ParseUint.j3])
  | succ kj4 =>
   have H := HA.out
   clear HA
   simp only [strconv_ParseUint.j3] at H
   have HC10 := Aside0.mk H
   clear H
   go_upto_if 77 with (fail)
   go_cut [2] (fun v2 wc => ∃ (kq : Nat) (x2_9 : Int), v2 = .int .i64 x2_9 ∧ Aside0 (strconv_ParseUint.j4 kq x0_4 x1_4 x2_9 (a1 == 0) = some (r1, r2)) ∧ Aside0 (kq ≤ kj4) ∧ Aside0 (Below w.heap.size w wc))
   case first =>
    have H := HC10.out
    clear HC10
    by_cases c11 : a2 = 0
    case pos =>
     rw [if_pos c11] at H
     have c11b0 : (a2 == 0) = true := beq_iff_eq.mpr c11
     have c11b1 : (a2 != 0) = false := bne_eq_false_iff_eq.mpr c11
     clear c11
     (first | rw [c11b0] | (simp only [i64_w, i32_w]; rw [c11b0]) | skip)
     have H' := Aside0.mk H
     clear H
     go_wp2
     go_meet
     case rel => exact ⟨_, (64), (by first | rfl | (simp; done) | (simp [*]; done)), H', ⟨by have := HJ4.out; first | omega | exact Nat.le_refl _⟩, ⟨by repeat (first | (with_reducible first | exact HB.out | apply below_alloc | apply pw_below_drewN | apply below_drew1) | exact HB.out)⟩⟩
    rw [if_neg c11] at H
    have c11b0 : (a2 == 0) = false := beq_eq_false_iff_ne.mpr c11
    have c11b1 : (a2 != 0) = true := bne_iff_ne.mpr c11
    (first | rw [c11b0] | (simp only [i64_w, i32_w]; rw [c11b0]) | skip)
    by_cases c12 : a2 < 0
    case pos =>
     rw [if_pos c12] at H
     have c12b0 : decide (a2 < 0) = true := decide_eq_true c12
     clear c12
     simp only [Option.some.injEq, Prod.mk.injEq] at H
     obtain ⟨rfl, rfl⟩ := H
     go_wp2
     go_ret2
     exact ⟨by first | rfl | (simp [errW_none, errW_some] <;> rfl) | (simp [*, errW_none, errW_some] <;> rfl), by repeat (first | (with_reducible first | exact HB.out | apply below_alloc | apply pw_below_drewN | apply below_drew1) | exact HB.out)⟩
    rw [if_neg c12] at H
    have c12b0 : decide (a2 < 0) = false := decide_eq_false c12
    clear c12
    by_cases c13 : a2 > 64
    case neg =>
     rw [if_neg c13] at H
     have c13b0 : decide (64 < a2) = false := decide_eq_false c13
     clear c13
     have H' := Aside0.mk H
     clear H
     go_wp2
     go_meet
     case rel => exact ⟨_, (a2), (by first | rfl | (simp; done) | (simp [*]; done)), H', ⟨by have := HJ4.out; first | omega | exact Nat.le_refl _⟩, ⟨by repeat (first | (with_reducible first | exact HB.out | apply below_alloc | apply pw_below_drewN | apply below_drew1) | exact HB.out)⟩⟩
    rw [if_pos c13] at H
    have c13b0 : decide (64 < a2) = true := decide_eq_true c13
    clear c13
    simp only [Option.some.injEq, Prod.mk.injEq] at H
    obtain ⟨rfl, rfl⟩ := H
    go_wp2
    go_ret2
    exact ⟨by first | rfl | (simp [errW_none, errW_some] <;> rfl) | (simp [*, errW_none, errW_some] <;> rfl), by repeat (first | (with_reducible first | exact HB.out | apply below_alloc | apply pw_below_drewN | apply below_drew1) | exact HB.out)⟩
   case rest =>
    clear HC10
    try clear c1
    try clear p2
    try clear c4
    try clear c4b0
    try clear c4b1
    try clear c7
    try clear c7b0
    try clear c8
    try clear c9
    try clear c9b0
    try clear c9b1
    try clear c11
    try clear c11b0
    try clear c11b1
    try clear c12
    try clear c12b0
    try clear c13
    try clear c13b0
    try clear p2
    obtain ⟨kq, x2_9, rfl, HA, HJ9, HB⟩ := hcut
    cases kq with
    | zero => exact absurd HA.out (by simp [strconv_ParseUint.j4])
    | succ kj9 =>
     have H := HA.out
     clear HA
     simp only [strconv_ParseUint.j4] at H
     have HC14 := Aside0.mk H
     clear H
     go_upto_block 2 with (fail)
     go_cut [10] (fun v10 wc => ∃ (kq : Nat) (x10_13 : Int), v10 = .int .u64 x10_13 ∧ Aside0 (strconv_ParseUint.j5 kq x0_4 x1_4 x2_9 (a1 == 0) x10_13 = some (r1, r2)) ∧ Aside0 (kq ≤ kj9) ∧ Aside0 (Below w.heap.size w wc))
     case first =>
      have H := HC14.out
      clear HC14
      by_cases c15 : x1_4 = 10
      case pos =>
       rw [if_pos c15] at H
       have c15b0 : (x1_4 == 10) = true := beq_iff_eq.mpr c15
       have c15b1 : (x1_4 != 10) = false := bne_eq_false_iff_eq.mpr c15
       clear c15
       (first | rw [c15b0] | (simp only [i64_w, i32_w]; rw [c15b0]) | skip)
       have H' := Aside0.mk H
       clear H
       go_wp2
       go_meet
       case rel => exact ⟨_, (1844674407370955162), (by first | rw [Int.tdiv_eq_ediv_of_nonneg (by decide)] | rfl | (simp; done) | (simp [*]; done)), H', ⟨by have := HJ4.out; have := HJ9.out; first | omega | exact Nat.le_refl _⟩, ⟨by repeat (first | (with_reducible first | exact HB.out | apply below_alloc | apply pw_below_drewN | apply below_drew1) | exact HB.out)⟩⟩
      rw [if_neg c15] at H
      have c15b0 : (x1_4 == 10) = false := beq_eq_false_iff_ne.mpr c15
      have c15b1 : (x1_4 != 10) = true := bne_iff_ne.mpr c15
      (first | rw [c15b0] | (simp only [i64_w, i32_w]; rw [c15b0]) | skip)
      by_cases c16 : x1_4 = 16
      case pos =>
       rw [if_pos c16] at H
       have c16b0 : (x1_4 == 16) = true := beq_iff_eq.mpr c16
       have c16b1 : (x1_4 != 16) = false := bne_eq_false_iff_eq.mpr c16
       clear c16
       have H' := Aside0.mk H
       clear H
       go_wp2
       go_meet
       case rel => exact ⟨_, (1152921504606846976), (by first | rw [Int.tdiv_eq_ediv_of_nonneg (by decide)] | rfl | (simp; done) | (simp [*]; done)), H', ⟨by have := HJ4.out; have := HJ9.out; first | omega | exact Nat.le_refl _⟩, ⟨by repeat (first | (with_reducible first | exact HB.out | apply below_alloc | apply pw_below_drewN | apply below_drew1) | exact HB.out)⟩⟩
      rw [if_neg c16] at H
      have c16b0 : (x1_4 == 16) = false := beq_eq_false_iff_ne.mpr c16
      have c16b1 : (x1_4 != 16) = true := bne_iff_ne.mpr c16
      by_cases c17 : (IntKind.u64.wrap (x1_4)) = 0
      case pos =>
       rw [if_pos c17] at H
       exact absurd H (by simp)
      rw [if_neg c17] at H
      have c17b0 : ((IntKind.u64.wrap (x1_4)) == 0) = false := beq_eq_false_iff_ne.mpr c17
      have c17b1 : ((IntKind.u64.wrap (x1_4)) != 0) = true := bne_iff_ne.mpr c17
      have H' := Aside0.mk H
      clear H
      go_wp2
      go_meet
      case rel => exact ⟨_, (IntKind.u64.wrap ((IntKind.u64.wrap ((18446744073709551615 : Int) / (IntKind.u64.wrap (x1_4)))) + 1)), (by first | rw [Int.tdiv_eq_ediv_of_nonneg (by decide)] | rfl | (simp; done) | (simp [*]; done)), H', ⟨by have := HJ4.out; have := HJ9.out; first | omega | exact Nat.le_refl _⟩, ⟨by repeat (first | (with_reducible first | exact HB.out | apply below_alloc | apply pw_below_drewN | apply below_drew1) | exact HB.out)⟩⟩
     case rest =>
      clear HC14
      try clear c1
      try clear p2
      try clear c4
      try clear c4b0
      try clear c4b1
      try clear c7
      try clear c7b0
      try clear c8
      try clear c9
      try clear c9b0
      try clear c9b1
      try clear c11
      try clear c11b0
      try clear c11b1
      try clear c12
      try clear c12b0
      try clear c13
      try clear c13b0
      try clear c15
      try clear c15b0
      try clear c15b1
      try clear c16
      try clear c16b0
      try clear c16b1
      try clear c17
      try clear c17b0
      try clear c17b1
      try clear p2
      obtain ⟨kq, x10_13, rfl, HA, HJ13, HB⟩ := hcut
      cases kq with
      | zero => exact absurd HA.out (by simp [strconv_ParseUint.j5])
      | succ kj13 =>
       have H := HA.out
       clear HA
       simp only [strconv_ParseUint.j5] at H
       obtain ⟨ji18, hji18⟩ : ∃ j_ : Int, (IntKind.u64.wrap (x2_9)) = j_ := ⟨_, rfl⟩
       replace H : (if 0 ≤ (ji18) then ((gosem_bytesOf.f x0_4).bind fun t108 => (strconv_ParseUint.l0 kj13 x1_4 (a1 == 0) x10_13 (IntKind.u64.wrap ((shl .u64 1 (ji18)) - 1)) false 0 t108 (t108.length : Int) 0)) else (none)) = some (r1, r2) := by first | (rw [hji18] at H; exact H) | (simp only [hji18] at H ⊢; exact H)
       by_cases c19 : 0 ≤ (ji18)
       case neg =>
        rw [if_neg c19] at H
        exact absurd H (by simp)
       rw [if_pos c19] at H
       have c19b0 := eq_true c19
       have c19b1 : decide (0 ≤ (ji18)) = true := decide_eq_true c19
       clear c19
       obtain ⟨ji20, hji20⟩ : ∃ j_ : Int, (shl .u64 1 (ji18)) = j_ := ⟨_, rfl⟩
       replace H : ((gosem_bytesOf.f x0_4).bind fun t108 => (strconv_ParseUint.l0 kj13 x1_4 (a1 == 0) x10_13 (IntKind.u64.wrap ((ji20) - 1)) false 0 t108 (t108.length : Int) 0)) = some (r1, r2) := by first | (rw [hji20] at H; exact H) | (simp only [hji20] at H ⊢; exact H)
       have hji20_ : (IntKind.u64.wrap (1 * 2 ^ min (ji18).toNat 64)) = ji20 := hji20
       have hji20z : (ji18) ≤ 64 → (IntKind.u64.wrap (1 * 2 ^ (ji18).toNat)) = ji20 := shl_small hji20
       have hji20u : (IntKind.u64.wrap (2 ^ min (ji18).toNat 64)) = ji20 := by have h_ := hji20_; rw [Int.one_mul] at h_; exact h_
       have hji20v : (ji18) ≤ 64 → (IntKind.u64.wrap (2 ^ (ji18).toNat)) = ji20 := fun hle_ => by have h_ := hji20z hle_; rw [Int.one_mul] at h_; exact h_
       replace H := Option.bind_eq_some_iff.mp H
       obtain ⟨t108, A210, H⟩ := H
       replace H : (strconv_ParseUint.l0 kj13 x1_4 (a1 == 0) x10_13 (IntKind.u64.wrap ((ji20) - 1)) false 0 t108 (t108.length : Int) 0) = some (r1, r2) := H
       have A21 := Aside0.mk A210
       clear A210
       have H' := Aside0.mk H
       clear H
       go_wp2_with (first | ((with_reducible refine gate_conv rfl ?_); refine conv_event rfl A21.out (by go_simp; first | done | (rw [Lib.run_convert_string_bytes (e := 5) _ _ _ _ Tryd.underlying9 Tryd.underlying22 Tryd.underlying5]; rfl) | exact Lib.run_convert_string_bytes (e := 5) _ _ _ _ Tryd.underlying9 Tryd.underlying22 Tryd.underlying5) ?_; intro v109 w22 ho0 hb; have n0_ := Aside0.mk (Kd.V_lower (Kd.V_mono (ok' := fun k_ => True) ho0 (fun k_ hk_ => trivial)) (below_size (by repeat (first | (with_reducible first | exact HB.out | apply below_alloc | apply pw_below_drewN | apply below_drew1) | exact HB.out)))); have n1_ := Aside0.mk (below_step (by repeat (first | (with_reducible first | exact HB.out | apply below_alloc | apply pw_below_drewN | apply below_drew1) | exact HB.out)) hb); clear HB; have HO110 := n0_; have HB := n1_; clear n0_ n1_; (try clear hb); (try clear hb2); (try clear hk); (try clear hi); (try clear ho0); obtain ⟨Ao23, co23, eo23⟩ := Kd.V_slice HO110.out; subst eo23))
       go_loopg [12, 13, 101] kj13 (fun kq v12 v13 v101 w' => ∃ (x12_4 : Bool) (x13_4 : Int) (x101_4 : Int), v12 = .bool x12_4 ∧ v13 = .int .u64 x13_4 ∧ v101 = .int .i64 x101_4 ∧ Aside0 (strconv_ParseUint.l0 kq x1_4 (a1 == 0) x10_13 (IntKind.u64.wrap ((ji20) - 1)) x12_4 x13_4 t108 (t108.length : Int) x101_4 = some (r1, r2)) ∧ Aside0 (kq ≤ kj13) ∧ Aside0 (Kd.V (Kd.int .u8) 5 w' w.heap.size (fun _ => True) (.slice Ao23 t108.length co23) t108) ∧ Aside0 (Below w.heap.size w w'))
       case atStart => exact ⟨(false), (0), (0), (by first | rfl | (simp; done) | (simp [*]; done)), (by first | rfl | (simp; done) | (simp [*]; done)), (by first | rfl | (simp; done) | (simp [*]; done)), H', ⟨Nat.le_refl _⟩, ⟨by (with_reducible repeat (first | apply Kd.V_alloc | apply Kd.V_drewN | apply Kd.V_drew)); exact HO110.out⟩, ⟨by repeat (first | (with_reducible first | exact HB.out | apply below_alloc | apply pw_below_drewN | apply below_drew1) | exact HB.out)⟩⟩
       case round =>
        clear H'
        try clear c1
        try clear p2
        try clear c4
        try clear c4b0
        try clear c4b1
        try clear c7
        try clear c7b0
        try clear c8
        try clear c9
        try clear c9b0
        try clear c9b1
        try clear c11
        try clear c11b0
        try clear c11b1
        try clear c12
        try clear c12b0
        try clear c13
        try clear c13b0
        try clear c15
        try clear c15b0
        try clear c15b1
        try clear c16
        try clear c16b0
        try clear c16b1
        try clear c17
        try clear c17b0
        try clear c17b1
        try clear c19
        try clear c19b0
        try clear c19b1
        try clear p2
        obtain ⟨x12_4, x13_4, x101_4, rfl, rfl, rfl, HA, HK4, HO_99, HB⟩ := hrel
        cases gk with
        | zero => exact absurd HA.out (by simp [strconv_ParseUint.l0])
        | succ k4 =>
         have H := HA.out
         clear HA
         simp only [strconv_ParseUint.l0] at H
         by_cases c24 : x101_4 < (t108.length : Int)
         case neg =>
          rw [if_neg c24] at H
          have c24b0 : decide (x101_4 < (t108.length : Int)) = false := decide_eq_false c24
          clear c24
          by_cases c41 : x12_4 = true
          case pos =>
           subst c41
           have H1 : (none) = some (r1, r2) := by rw [if_pos rfl] at H; exact H
           clear H
           have H := H1
           clear H1
           exact absurd H (by simp)
          replace c41 := Bool.eq_false_iff.mpr c41
          subst c41
          have H1 : (some (x13_4, none)) = some (r1, r2) := by rw [if_neg (show ¬ (false = true) by decide)] at H; exact H
          clear H
          have H := H1
          clear H1
          simp only [Option.some.injEq, Prod.mk.injEq] at H
          obtain ⟨rfl, rfl⟩ := H
          go_wp2
          go_ret2
          exact ⟨by first | rfl | (simp [errW_none, errW_some] <;> rfl) | (simp only [← hji18, ← hji20]; first | rfl | (simp [errW_none, errW_some] <;> rfl)) | (simp [*, errW_none, errW_some] <;> rfl), by repeat (first | (with_reducible first | exact HB.out | apply below_alloc | apply pw_below_drewN | apply below_drew1) | exact HB.out)⟩
         rw [if_pos c24] at H
         have c24b0 : decide (x101_4 < (t108.length : Int)) = true := decide_eq_true c24
         clear c24
         by_cases c25 : 0 ≤ x101_4
         case neg =>
          rw [if_neg c25] at H
          exact absurd H (by simp)
         rw [if_pos c25] at H
         have c25b0 : decide (0 ≤ x101_4) = true := decide_eq_true c25
         clear c25
         by_cases c26 : x101_4 < (t108.length : Int)
         case neg =>
          rw [if_neg c26] at H
          exact absurd H (by simp)
         rw [if_pos c26] at H
         have c26b0 : decide (x101_4 < (t108.length : Int)) = true := decide_eq_true c26
         clear c26
         have HC27 := Aside0.mk H
         clear H
         have p112 : 0 ≤ (x101_4 : Int) := of_decide_eq_true (by first | (with_reducible assumption) | assumption)
         have q112 : x101_4 < (t108.length : Int) := of_decide_eq_true (by first | (with_reducible assumption) | assumption)
         obtain ⟨ad112, e112, hx112_0⟩ := Kd.at_int (Kd.V_reads' HO_99.out).2.2 x101_4 p112 q112
         cases e112
         replace p112 := eq_true p112
         replace q112 := eq_true q112
         go_upto_block 5 with (fail)
         go_cut [12, 16] (fun v12 v16 wc => ∃ (kq : Nat) (x12_26 : Bool) (x16_26 : Int), v12 = .bool x12_26 ∧ v16 = .int .u8 x16_26 ∧ Aside0 (strconv_ParseUint.j9 kq x1_4 (a1 == 0) x10_13 (IntKind.u64.wrap ((ji20) - 1)) x12_26 x13_4 x16_26 t108 (t108.length : Int) x101_4 = some (r1, r2)) ∧ Aside0 (kq ≤ k4) ∧ Aside0 (Kd.V (Kd.int .u8) 5 wc w.heap.size (fun _ => True) (.slice (some ad112) t108.length co23) t108) ∧ Aside0 (Below w.heap.size w wc))
         case first =>
          have H := HC27.out
          clear HC27
          have HC28 := Aside0.mk H
          clear H
          go_upto_region 40 with (fail)
          go_cut [106] (fun v106 wc => ∃ (kq : Nat) (x106_27 : Bool), v106 = .bool x106_27 ∧ Aside0 (strconv_ParseUint.j7 kq x1_4 (a1 == 0) x10_13 (IntKind.u64.wrap ((ji20) - 1)) x12_4 x13_4 (rd t108 x101_4) t108 (t108.length : Int) x101_4 x106_27 = some (r1, r2)) ∧ Aside0 (kq ≤ k4) ∧ Aside0 (Kd.V (Kd.int .u8) 5 wc w.heap.size (fun _ => True) (.slice (some ad112) t108.length co23) t108) ∧ Aside0 (Below w.heap.size w wc))
          case first =>
           have H := HC28.out
           clear HC28
           by_cases c29 : (rd t108 x101_4) = 95
           case neg =>
            rw [if_neg c29] at H
            have c29b0 : ((rd t108 x101_4) == 95) = false := beq_eq_false_iff_ne.mpr c29
            have c29b1 : ((rd t108 x101_4) != 95) = true := bne_iff_ne.mpr c29
            (first | rw [c29b0] | (simp only [i64_w, i32_w]; rw [c29b0]) | skip)
            have H' := Aside0.mk H
            clear H
            go_wp2
            go_meet
            case rel => exact ⟨_, (false), (by first | rfl | (simp; done) | (simp [*]; done)), H', ⟨by have := HJ4.out; have := HJ9.out; have := HJ13.out; have := HK4.out; first | omega | exact Nat.le_refl _⟩, ⟨by (with_reducible repeat (first | apply Kd.V_alloc | apply Kd.V_drewN | apply Kd.V_drew)); exact HO_99.out⟩, ⟨by repeat (first | (with_reducible first | exact HB.out | apply below_alloc | apply pw_below_drewN | apply below_drew1) | exact HB.out)⟩⟩
           rw [if_pos c29] at H
           have c29b0 : ((rd t108 x101_4) == 95) = true := beq_iff_eq.mpr c29
           have c29b1 : ((rd t108 x101_4) != 95) = false := bne_eq_false_iff_eq.mpr c29
           clear c29
           (first | rw [c29b0] | (simp only [i64_w, i32_w]; rw [c29b0]) | skip)
           have H' := Aside0.mk H
           clear H
           go_wp2
           go_meet
           case rel => exact ⟨_, ((a1 == 0)), (by first | rfl | (simp; done) | (simp [*]; done)), H', ⟨by have := HJ4.out; have := HJ9.out; have := HJ13.out; have := HK4.out; first | omega | exact Nat.le_refl _⟩, ⟨by (with_reducible repeat (first | apply Kd.V_alloc | apply Kd.V_drewN | apply Kd.V_drew)); exact HO_99.out⟩, ⟨by repeat (first | (with_reducible first | exact HB.out | apply below_alloc | apply pw_below_drewN | apply below_drew1) | exact HB.out)⟩⟩
          case rest =>
           clear HC28
           try clear c1
           try clear p1
           try clear q1
           try clear hx1
           try clear c2
           try clear p2
           try clear c4
           try clear c4b0
           try clear c4b1
           try clear c7
           try clear c7b0
           try clear c8
           try clear c9
           try clear c9b0
           try clear c9b1
           try clear c11
           try clear c11b0
           try clear c11b1
           try clear p11
           try clear q11
           try clear hx11
           try clear c12
           try clear c12b0
           try clear c13
           try clear c13b0
           try clear c15
           try clear c15b0
           try clear c15b1
           try clear c16
           try clear c16b0
           try clear c16b1
           try clear c17
           try clear c17b0
           try clear c17b1
           try clear c19
           try clear c19b0
           try clear c19b1
           try clear c24
           try clear c24b0
           try clear c25
           try clear c25b0
           try clear c26
           try clear c26b0
           try clear c29
           try clear c29b0
           try clear c29b1
           try clear hx112_0
           try clear p112
           try clear p2
           try clear q112
           obtain ⟨kq, x106_27, rfl, HA, HJ27, HO_99, HB⟩ := hcut
           cases kq with
           | zero => exact absurd HA.out (by simp [strconv_ParseUint.j7])
           | succ kj27 =>
            have H := HA.out
            clear HA
            simp only [strconv_ParseUint.j7] at H
            by_cases c30 : x106_27 = true
            case pos =>
             subst c30
             have H1 : (none) = some (r1, r2) := by rw [if_pos rfl] at H; exact H
             clear H
             have H := H1
             clear H1
             exact absurd H (by simp)
            replace c30 := Bool.eq_false_iff.mpr c30
            subst c30
            have H1 : (if 48 ≤ (rd t108 x101_4) then (strconv_ParseUint.j8 kj27 x1_4 (a1 == 0) x10_13 (IntKind.u64.wrap ((ji20) - 1)) x12_4 x13_4 (rd t108 x101_4) t108 (t108.length : Int) x101_4 (decide ((rd t108 x101_4) ≤ 57))) else (strconv_ParseUint.j8 kj27 x1_4 (a1 == 0) x10_13 (IntKind.u64.wrap ((ji20) - 1)) x12_4 x13_4 (rd t108 x101_4) t108 (t108.length : Int) x101_4 false)) = some (r1, r2) := by rw [if_neg (show ¬ (false = true) by decide)] at H; exact H
            clear H
            have H := H1
            clear H1
            have HC31 := Aside0.mk H
            clear H
            go_upto_region 42 with (fail)
            go_cut [112] (fun v112 wc => ∃ (kq : Nat) (x112_30 : Bool), v112 = .bool x112_30 ∧ Aside0 (strconv_ParseUint.j8 kq x1_4 (a1 == 0) x10_13 (IntKind.u64.wrap ((ji20) - 1)) x12_4 x13_4 (rd t108 x101_4) t108 (t108.length : Int) x101_4 x112_30 = some (r1, r2)) ∧ Aside0 (kq ≤ kj27) ∧ Aside0 (Kd.V (Kd.int .u8) 5 wc w.heap.size (fun _ => True) (.slice (some ad112) t108.length co23) t108) ∧ Aside0 (Below w.heap.size w wc))
            case first =>
             have H := HC31.out
             clear HC31
             by_cases c32 : 48 ≤ (rd t108 x101_4)
             case neg =>
              rw [if_neg c32] at H
              have c32b0 : decide (48 ≤ (rd t108 x101_4)) = false := decide_eq_false c32
              clear c32
              (first | rw [c32b0] | (simp only [i64_w, i32_w]; rw [c32b0]) | skip)
              have H' := Aside0.mk H
              clear H
              go_wp2
              go_meet
              case rel => exact ⟨_, (false), (by first | rfl | (simp; done) | (simp [*]; done)), H', ⟨by have := HJ4.out; have := HJ9.out; have := HJ13.out; have := HK4.out; have := HJ27.out; first | omega | exact Nat.le_refl _⟩, ⟨by (with_reducible repeat (first | apply Kd.V_alloc | apply Kd.V_drewN | apply Kd.V_drew)); exact HO_99.out⟩, ⟨by repeat (first | (with_reducible first | exact HB.out | apply below_alloc | apply pw_below_drewN | apply below_drew1) | exact HB.out)⟩⟩
             rw [if_pos c32] at H
             have c32b0 : decide (48 ≤ (rd t108 x101_4)) = true := decide_eq_true c32
             clear c32
             (first | rw [c32b0] | (simp only [i64_w, i32_w]; rw [c32b0]) | skip)
             have H' := Aside0.mk H
             clear H
             go_wp2
             go_meet
             case rel => exact ⟨_, (decide ((rd t108 x101_4) ≤ 57)), (by first | rfl | (simp; done) | (simp [*]; done)), H', ⟨by have := HJ4.out; have := HJ9.out; have := HJ13.out; have := HK4.out; have := HJ27.out; first | omega | exact Nat.le_refl _⟩, ⟨by (with_reducible repeat (first | apply Kd.V_alloc | apply Kd.V_drewN | apply Kd.V_drew)); exact HO_99.out⟩, ⟨by repeat (first | (with_reducible first | exact HB.out | apply below_alloc | apply pw_below_drewN | apply below_drew1) | exact HB.out)⟩⟩
            case rest =>
             clear HC31
             try clear c1
             try clear p1
             try clear q1
             try clear hx1
             try clear c2
             try clear p2
             try clear c3
             try clear c4
             try clear c4b0
             try clear c4b1
             try clear c7
             try clear c7b0
             try clear c8
             try clear c9
             try clear c9b0
             try clear c9b1
             try clear c11
             try clear c11b0
             try clear c11b1
             try clear p11
             try clear q11
             try clear hx11
             try clear c12
             try clear c12b0
             try clear c13
             try clear c13b0
             try clear c15
             try clear c15b0
             try clear c15b1
             try clear c16
             try clear c16b0
             try clear c16b1
             try clear c17
             try clear c17b0
             try clear c17b1
             try clear c19
             try clear c19b0
             try clear c19b1
             try clear c24
             try clear c24b0
             try clear c25
             try clear c25b0
             try clear c26
             try clear c26b0
             try clear c29
             try clear c29b0
             try clear c29b1
             try clear c30
             try clear c32
             try clear c32b0
             try clear hx112_0
             try clear p1
             try clear p11
             try clear p112
             try clear p2
             try clear q1
             try clear q11
             try clear q112
             obtain ⟨kq, x112_30, rfl, HA, HJ30, HO_99, HB⟩ := hcut
             cases kq with
             | zero => exact absurd HA.out (by simp [strconv_ParseUint.j8])
             | succ kj30 =>
              have H := HA.out
              clear HA
              simp only [strconv_ParseUint.j8] at H
              by_cases c33 : x112_30 = true
              case pos =>
               subst c33
               have H1 : (strconv_ParseUint.j9 kj30 x1_4 (a1 == 0) x10_13 (IntKind.u64.wrap ((ji20) - 1)) x12_4 x13_4 (((rd t108 x101_4) - 48) % 256) t108 (t108.length : Int) x101_4) = some (r1, r2) := by rw [if_pos rfl] at H; exact H
               clear H
               have H := H1
               clear H1
               have H' := Aside0.mk H
               clear H
               go_wp2
               go_meet
               case rel => exact ⟨_, (x12_4), (((rd t108 x101_4) - 48) % 256), (by first | rfl | (simp; done) | (simp [*]; done)), (by first | rfl | (simp; done) | (simp [*]; done)), H', ⟨by have := HJ4.out; have := HJ9.out; have := HJ13.out; have := HK4.out; have := HJ27.out; have := HJ30.out; first | omega | exact Nat.le_refl _⟩, ⟨by (with_reducible repeat (first | apply Kd.V_alloc | apply Kd.V_drewN | apply Kd.V_drew)); exact HO_99.out⟩, ⟨by repeat (first | (with_reducible first | exact HB.out | apply below_alloc | apply pw_below_drewN | apply below_drew1) | exact HB.out)⟩⟩
              replace c33 := Bool.eq_false_iff.mpr c33
              subst c33
              have H1 : ((strconv_lower.f (rd t108 x101_4)).bind fun t113 => (if 97 ≤ t113 then (if t113 ≤ 122 then (strconv_ParseUint.j9 kj30 x1_4 (a1 == 0) x10_13 (IntKind.u64.wrap ((ji20) - 1)) x12_4 x13_4 ((((t113 - 97) % 256) + 10) % 256) t108 (t108.length : Int) x101_4) else (some (0, some 2))) else (some (0, some 2)))) = some (r1, r2) := by rw [if_neg (show ¬ (false = true) by decide)] at H; exact H
              clear H
              have H := H1
              clear H1
              replace H := Option.bind_eq_some_iff.mp H
              obtain ⟨t113, A340, H⟩ := H
              replace H : (if 97 ≤ t113 then (if t113 ≤ 122 then (strconv_ParseUint.j9 kj30 x1_4 (a1 == 0) x10_13 (IntKind.u64.wrap ((ji20) - 1)) x12_4 x13_4 ((((t113 - 97) % 256) + 10) % 256) t108 (t108.length : Int) x101_4) else (some (0, some 2))) else (some (0, some 2))) = some (r1, r2) := H
              have A34 := Aside0.mk A340
              clear A340
              by_cases c35 : 97 ≤ t113
              case neg =>
               rw [if_neg c35] at H
               have c35b0 : decide (97 ≤ t113) = false := decide_eq_false c35
               clear c35
               simp only [Option.some.injEq, Prod.mk.injEq] at H
               obtain ⟨rfl, rfl⟩ := H
               go_wp2_with (first | ((with_reducible refine gate_callee (f := 77) rfl ?_); refine goesL_ (some 123) rfl rfl Tryd.func77 (by kernel_rfl) rfl #[.int .u8 (rd t108 x101_4)] rfl (by (try simp only [List.map_toArray, List.map_cons, List.map_nil]); first | done | rfl | (simp only [List.length_drop, List.length_take]; rfl)) ?_; (with_reducible refine (strconv_lower.calls (rd t108 x101_4) t113 _ A34.out).mono ?_); rintro e w' ⟨rfl, ⟨nd, rfl⟩⟩; refine ⟨_, rfl, ?_⟩) | (go_at_call 77; (with_reducible refine (strconv_lower.calls (rd t108 x101_4) t113 _ A34.out).mono ?_); rintro e w' ⟨rfl, ⟨nd, rfl⟩⟩))
               go_ret2
               exact ⟨by first | rfl | (simp [errW_none, errW_some] <;> rfl) | (simp only [← hji18, ← hji20]; first | rfl | (simp [errW_none, errW_some] <;> rfl)) | (simp [*, errW_none, errW_some] <;> rfl), by repeat (first | (with_reducible first | exact HB.out | apply below_alloc | apply pw_below_drewN | apply below_drew1) | exact HB.out)⟩
              rw [if_pos c35] at H
              have c35b0 : decide (97 ≤ t113) = true := decide_eq_true c35
              clear c35
              by_cases c36 : t113 ≤ 122
              case neg =>
               rw [if_neg c36] at H
               have c36b0 : decide (t113 ≤ 122) = false := decide_eq_false c36
               clear c36
               simp only [Option.some.injEq, Prod.mk.injEq] at H
               obtain ⟨rfl, rfl⟩ := H
               go_wp2_with (first | ((with_reducible refine gate_callee (f := 77) rfl ?_); refine goesL_ (some 123) rfl rfl Tryd.func77 (by kernel_rfl) rfl #[.int .u8 (rd t108 x101_4)] rfl (by (try simp only [List.map_toArray, List.map_cons, List.map_nil]); first | done | rfl | (simp only [List.length_drop, List.length_take]; rfl)) ?_; (with_reducible refine (strconv_lower.calls (rd t108 x101_4) t113 _ A34.out).mono ?_); rintro e w' ⟨rfl, ⟨nd, rfl⟩⟩; refine ⟨_, rfl, ?_⟩) | (go_at_call 77; (with_reducible refine (strconv_lower.calls (rd t108 x101_4) t113 _ A34.out).mono ?_); rintro e w' ⟨rfl, ⟨nd, rfl⟩⟩))
               go_ret2
               exact ⟨by first | rfl | (simp [errW_none, errW_some] <;> rfl) | (simp only [← hji18, ← hji20]; first | rfl | (simp [errW_none, errW_some] <;> rfl)) | (simp [*, errW_none, errW_some] <;> rfl), by repeat (first | (with_reducible first | exact HB.out | apply below_alloc | apply pw_below_drewN | apply below_drew1) | exact HB.out)⟩
              rw [if_pos c36] at H
              have c36b0 : decide (t113 ≤ 122) = true := decide_eq_true c36
              clear c36
              have H' := Aside0.mk H
              clear H
              go_wp2_with (first | ((with_reducible refine gate_callee (f := 77) rfl ?_); refine goesL_ (some 123) rfl rfl Tryd.func77 (by kernel_rfl) rfl #[.int .u8 (rd t108 x101_4)] rfl (by (try simp only [List.map_toArray, List.map_cons, List.map_nil]); first | done | rfl | (simp only [List.length_drop, List.length_take]; rfl)) ?_; (with_reducible refine (strconv_lower.calls (rd t108 x101_4) t113 _ A34.out).mono ?_); rintro e w' ⟨rfl, ⟨nd, rfl⟩⟩; refine ⟨_, rfl, ?_⟩) | (go_at_call 77; (with_reducible refine (strconv_lower.calls (rd t108 x101_4) t113 _ A34.out).mono ?_); rintro e w' ⟨rfl, ⟨nd, rfl⟩⟩))
              go_meet
              case rel => exact ⟨_, (x12_4), ((((t113 - 97) % 256) + 10) % 256), (by first | rfl | (simp; done) | (simp [*]; done)), (by first | rfl | (simp; done) | (simp [*]; done)), H', ⟨by have := HJ4.out; have := HJ9.out; have := HJ13.out; have := HK4.out; have := HJ27.out; have := HJ30.out; first | omega | exact Nat.le_refl _⟩, ⟨by (with_reducible repeat (first | apply Kd.V_alloc | apply Kd.V_drewN | apply Kd.V_drew)); exact HO_99.out⟩, ⟨by repeat (first | (with_reducible first | exact HB.out | apply below_alloc | apply pw_below_drewN | apply below_drew1) | exact HB.out)⟩⟩
         case rest =>
          clear HC27
          try clear c1
          try clear p1
          try clear q1
          try clear hx1
          try clear c2
          try clear p2
          try clear c3
          try clear c4
          try clear c4b0
          try clear c4b1
          try clear c7
          try clear c7b0
          try clear c8
          try clear c9
          try clear c9b0
          try clear c9b1
          try clear c11
          try clear c11b0
          try clear c11b1
          try clear p11
          try clear q11
          try clear hx11
          try clear c12
          try clear c12b0
          try clear c13
          try clear c13b0
          try clear c15
          try clear c15b0
          try clear c15b1
          try clear c16
          try clear c16b0
          try clear c16b1
          try clear c17
          try clear c17b0
          try clear c17b1
          try clear c19
          try clear c19b0
          try clear c19b1
          try clear c24
          try clear c24b0
          try clear c25
          try clear c25b0
          try clear c26
          try clear c26b0
          try clear c29
          try clear c29b0
          try clear c29b1
          try clear c30
          try clear c32
          try clear c32b0
          try clear c33
          try clear c35
          try clear c35b0
          try clear c36
          try clear c36b0
          try clear hx112_0
          try clear p1
          try clear p11
          try clear p112
          try clear p2
          try clear q1
          try clear q11
          try clear q112
          obtain ⟨kq, x12_26, x16_26, rfl, rfl, HA, HJ26, HO_99, HB⟩ := hcut
          cases kq with
          | zero => exact absurd HA.out (by simp [strconv_ParseUint.j9])
          | succ kj26 =>
           have H := HA.out
           clear HA
           simp only [strconv_ParseUint.j9] at H
           by_cases c37 : x16_26 ≥ ((x1_4) % 256)
           case pos =>
            rw [if_pos c37] at H
            have c37b0 : decide (((x1_4) % 256) ≤ x16_26) = true := decide_eq_true c37
            clear c37
            simp only [Option.some.injEq, Prod.mk.injEq] at H
            obtain ⟨rfl, rfl⟩ := H
            go_wp2
            go_ret2
            exact ⟨by first | rfl | (simp [errW_none, errW_some] <;> rfl) | (simp only [← hji18, ← hji20]; first | rfl | (simp [errW_none, errW_some] <;> rfl)) | (simp [*, errW_none, errW_some] <;> rfl), by repeat (first | (with_reducible first | exact HB.out | apply below_alloc | apply pw_below_drewN | apply below_drew1) | exact HB.out)⟩
           rw [if_neg c37] at H
           have c37b0 : decide (((x1_4) % 256) ≤ x16_26) = false := decide_eq_false c37
           clear c37
           by_cases c38 : x13_4 ≥ x10_13
           case pos =>
            rw [if_pos c38] at H
            have c38b0 : decide (x10_13 ≤ x13_4) = true := decide_eq_true c38
            clear c38
            simp only [Option.some.injEq, Prod.mk.injEq] at H
            obtain ⟨rfl, rfl⟩ := H
            go_wp2
            go_ret2
            exact ⟨by first | rfl | (simp [errW_none, errW_some] <;> rfl) | (simp only [← hji18, ← hji20]; first | rfl | (simp [errW_none, errW_some] <;> rfl)) | (simp [*, errW_none, errW_some] <;> rfl), by repeat (first | (with_reducible first | exact HB.out | apply below_alloc | apply pw_below_drewN | apply below_drew1) | exact HB.out)⟩
           rw [if_neg c38] at H
           have c38b0 : decide (x10_13 ≤ x13_4) = false := decide_eq_false c38
           clear c38
           by_cases c39 : (IntKind.u64.wrap ((IntKind.u64.wrap (x13_4 * (IntKind.u64.wrap (x1_4)))) + (IntKind.u64.wrap (x16_26)))) < (IntKind.u64.wrap (x13_4 * (IntKind.u64.wrap (x1_4))))
           case pos =>
            rw [if_pos c39] at H
            have c39b0 : decide ((IntKind.u64.wrap ((IntKind.u64.wrap (x13_4 * (IntKind.u64.wrap (x1_4)))) + (IntKind.u64.wrap (x16_26)))) < (IntKind.u64.wrap (x13_4 * (IntKind.u64.wrap (x1_4))))) = true := decide_eq_true c39
            clear c39
            simp only [Option.some.injEq, Prod.mk.injEq] at H
            obtain ⟨rfl, rfl⟩ := H
            go_wp2
            go_ret2
            exact ⟨by first | rfl | (simp [errW_none, errW_some] <;> rfl) | (simp only [← hji18, ← hji20]; first | rfl | (simp [errW_none, errW_some] <;> rfl)) | (simp [*, errW_none, errW_some] <;> rfl), by repeat (first | (with_reducible first | exact HB.out | apply below_alloc | apply pw_below_drewN | apply below_drew1) | exact HB.out)⟩
           rw [if_neg c39] at H
           have c39b0 : decide ((IntKind.u64.wrap ((IntKind.u64.wrap (x13_4 * (IntKind.u64.wrap (x1_4)))) + (IntKind.u64.wrap (x16_26)))) < (IntKind.u64.wrap (x13_4 * (IntKind.u64.wrap (x1_4))))) = false := decide_eq_false c39
           clear c39
           by_cases c40 : (IntKind.u64.wrap ((IntKind.u64.wrap (x13_4 * (IntKind.u64.wrap (x1_4)))) + (IntKind.u64.wrap (x16_26)))) > (IntKind.u64.wrap ((ji20) - 1))
           case pos =>
            rw [if_pos c40] at H
            have c40b0 : decide ((IntKind.u64.wrap ((ji20) - 1)) < (IntKind.u64.wrap ((IntKind.u64.wrap (x13_4 * (IntKind.u64.wrap (x1_4)))) + (IntKind.u64.wrap (x16_26))))) = true := decide_eq_true c40
            clear c40
            simp only [Option.some.injEq, Prod.mk.injEq] at H
            obtain ⟨rfl, rfl⟩ := H
            go_wp2
            go_ret2
            exact ⟨by first | rfl | (simp [errW_none, errW_some] <;> rfl) | (simp only [← hji18, ← hji20]; first | rfl | (simp [errW_none, errW_some] <;> rfl)) | (simp [*, errW_none, errW_some] <;> rfl), by repeat (first | (with_reducible first | exact HB.out | apply below_alloc | apply pw_below_drewN | apply below_drew1) | exact HB.out)⟩
           rw [if_neg c40] at H
           have c40b0 : decide ((IntKind.u64.wrap ((ji20) - 1)) < (IntKind.u64.wrap ((IntKind.u64.wrap (x13_4 * (IntKind.u64.wrap (x1_4)))) + (IntKind.u64.wrap (x16_26))))) = false := decide_eq_false c40
           clear c40
           have H' := Aside0.mk H
           clear H
           go_wp2
           go_roundg kj26
           case measure => have := HJ4.out; have := HJ9.out; have := HJ13.out; have := HK4.out; have := HJ26.out; omega
           case rel => exact ⟨(x12_26), (IntKind.u64.wrap ((IntKind.u64.wrap (x13_4 * (IntKind.u64.wrap (x1_4)))) + (IntKind.u64.wrap (x16_26)))), (wrap64 (x101_4 + 1)), (by first | rfl | (simp; done) | (simp [*]; done)), (by first | rfl | (simp; done) | (simp [*]; done)), (by first | rfl | (simp; done) | (simp [*]; done)), H', ⟨by have := HJ4.out; have := HJ9.out; have := HJ13.out; have := HK4.out; have := HJ26.out; omega⟩, ⟨by (with_reducible repeat (first | apply Kd.V_alloc | apply Kd.V_drewN | apply Kd.V_drew)); exact HO_99.out⟩, ⟨by repeat (first | (with_reducible first | exact HB.out | apply below_alloc | apply pw_below_drewN | apply below_drew1) | exact HB.out)⟩⟩
end Go.Proofs.YtaklkcnohbbfoaaDoor.PAll
