-- Written by this repo's program wip/tools/pr.py (over the kit's print) out of the translation. Not trusted: Lean checks it.
import Derived.Test.YtaklkcnohbbfoaaDoorPAllx0
import Derived.Test.YtaklkcnohbbfoaaDoorGA
import Derived.Test.YtaklkcnohbbfoaaDoorGQ
import Derived.Test.YtaklkcnohbbfoaaDoorGT
import Derived.Test.YtaklkcnohbbfoaaDoorGW
namespace Go.Proofs.YtaklkcnohbbfoaaDoor.PAll
open Go.Proofs.YtaklkcnohbbfoaaDoor.Hand
open Go.RowKit Go.Proofs.YtaklkcnohbbfoaaDoorW.PrintWords Go.Proofs.YtaklkcnohbbfoaaDoorW.PrintLast Go.Proofs.YtaklkcnohbbfoaaDoorW.PrintMore
attribute [local go_sem] max2_int min2_int max_two min_two max_three min_three max_four min_four   -- for this text's walks alone
attribute [-simp] List.length_take List.length_drop ByteArray.size_extract
set_option linter.unusedVariables false
set_option linter.unusedSimpArgs false

/-! ### signetrylaw02_TextSpelt: function 9 -/
mutual
def signetrylaw02_TextSpelt.j0 : Nat → List Int → List Int → ByteArray → Option (Bool)
  | 0, _, _, _ => none
  | k + 1, x0, x1, x7 => signetrylaw02_TextSpelt.l0 k x0 x1 x7 x7 0
def signetrylaw02_TextSpelt.l0 : Nat → List Int → List Int → ByteArray → ByteArray → Int → Option (Bool)
  | 0, _, _, _, _, _ => none
  | k + 1, x0, x1, x7, x8, x9 => if x9 < (x0.length : Int) then (if (x1.length : Int) > 0 then (if (x1.length : Int) = 0 then (none) else (if 0 ≤ (Int.tmod x9 (x1.length : Int)) then (if (Int.tmod x9 (x1.length : Int)) < (x1.length : Int) then ((signetryref00_Bring.f (rd x1 (Int.tmod x9 (x1.length : Int))) 4).bind fun t483 => (signetrylaw02_TextSpelt.j2 k x0 x1 x7 x8 x9 t483)) else (none)) else (none))) else (signetrylaw02_TextSpelt.j2 k x0 x1 x7 x8 x9 0)) else (if x8.size + x7.size ≤ 9223372036854775807 then ((text_Unquote.f k (x8 ++ x7)).bind fun bt494 => ((text_Unquote.f k x8).bind fun bt498 => (if bt494.2 = 0 then ((signetryref00_EqBytes.f bt494.1 x0).bind fun t502 => (if t502 = true then (if bt498.2 = 21 then ((signetrylaw02_works.f k).bind fun t503 => (some t503)) else (if (x8.size : Int) > 1 then ((signetrylaw02_works.f k).bind fun t504 => (some t504)) else (none))) else (none))) else (none)))) else (none))
def signetrylaw02_TextSpelt.j2 : Nat → List Int → List Int → ByteArray → ByteArray → Int → Int → Option (Bool)
  | 0, _, _, _, _, _, _ => none
  | k + 1, x0, x1, x7, x8, x9, x10 => if 0 ≤ x9 then (if x9 < (x0.length : Int) then ((some (([(48 + ((Int.tdiv (rd x0 x9) 64) % 256)) % 256, 48 + (((Int.tdiv (rd x0 x9) 8) % 256) % 8), (48 + (Int.tmod (rd x0 x9) 8)) % 256] : List Int) : List Int)).bind fun y485 => (if 1 + (strOfNums y485).size ≤ 9223372036854775807 then (if 0 ≤ ((Int.tdiv (rd x0 x9) 16) % 256) then (if ((Int.tdiv (rd x0 x9) 16) % 256) < 16 then (if 0 ≤ (Int.tmod (rd x0 x9) 16) then (if (Int.tmod (rd x0 x9) 16) < 16 then ((some (([bt (⟨#[48, 49, 50, 51, 52, 53, 54, 55, 56, 57, 97, 98, 99, 100, 101, 102]⟩ : ByteArray) ((Int.tdiv (rd x0 x9) 16) % 256), bt (⟨#[48, 49, 50, 51, 52, 53, 54, 55, 56, 57, 65, 66, 67, 68, 69, 70]⟩ : ByteArray) (Int.tmod (rd x0 x9) 16)] : List Int) : List Int)).bind fun y488 => (if (rd x0 x9) ≥ 32 then (if (rd x0 x9) = 92 then (signetrylaw02_TextSpelt.j3 k x0 x1 x7 x8 x9 x10 (rd x0 x9) ((⟨#[92]⟩ : ByteArray) ++ (strOfNums y485)) (strOfNums y488) false) else (if 0 < (x7.size : Int) then (signetrylaw02_TextSpelt.j3 k x0 x1 x7 x8 x9 x10 (rd x0 x9) ((⟨#[92]⟩ : ByteArray) ++ (strOfNums y485)) (strOfNums y488) ((rd x0 x9) != (bt x7 0))) else (none))) else (signetrylaw02_TextSpelt.j3 k x0 x1 x7 x8 x9 x10 (rd x0 x9) ((⟨#[92]⟩ : ByteArray) ++ (strOfNums y485)) (strOfNums y488) false))) else (none)) else (none)) else (none)) else (none)) else (none))) else (none)) else (none)
def signetrylaw02_TextSpelt.j3 : Nat → List Int → List Int → ByteArray → ByteArray → Int → Int → Int → ByteArray → ByteArray → Bool → Option (Bool)
  | 0, _, _, _, _, _, _, _, _, _, _ => none
  | k + 1, x0, x1, x7, x8, x9, x10, x11, x12, x13, x14 => if x10 = 1 then (if x8.size + 2 ≤ 9223372036854775807 then (if (x8 ++ (⟨#[92, 120]⟩ : ByteArray)).size + x13.size ≤ 9223372036854775807 then (signetrylaw02_TextSpelt.l0 k x0 x1 x7 ((x8 ++ (⟨#[92, 120]⟩ : ByteArray)) ++ x13) (wrap64 (x9 + 1))) else (none)) else (none)) else (if x10 = 2 then (if x8.size + 2 ≤ 9223372036854775807 then (if (x8 ++ (⟨#[92, 88]⟩ : ByteArray)).size + x13.size ≤ 9223372036854775807 then (signetrylaw02_TextSpelt.l0 k x0 x1 x7 ((x8 ++ (⟨#[92, 88]⟩ : ByteArray)) ++ x13) (wrap64 (x9 + 1))) else (none)) else (none)) else (if x10 = 3 then (if x14 = true then ((some (([x11] : List Int) : List Int)).bind fun y491 => (if x8.size + (strOfNums y491).size ≤ 9223372036854775807 then (signetrylaw02_TextSpelt.l0 k x0 x1 x7 (x8 ++ (strOfNums y491)) (wrap64 (x9 + 1))) else (none))) else (if x8.size + x12.size ≤ 9223372036854775807 then (signetrylaw02_TextSpelt.l0 k x0 x1 x7 (x8 ++ x12) (wrap64 (x9 + 1))) else (none))) else (if x8.size + x12.size ≤ 9223372036854775807 then (signetrylaw02_TextSpelt.l0 k x0 x1 x7 (x8 ++ x12) (wrap64 (x9 + 1))) else (none))))
end
def signetrylaw02_TextSpelt.f (k : Nat) (l0 : List Int) (l1 : List Int) (a2 : Bool) : Option (Bool) := if 0 ≤ (mn (l0.length : Int) 100) then (if (mn (l0.length : Int) 100) ≤ (l0.length : Int) then (if a2 = true then (signetrylaw02_TextSpelt.j0 k (l0.take ((mn (l0.length : Int) 100) : Int).toNat) l1 (⟨#[39]⟩ : ByteArray)) else (signetrylaw02_TextSpelt.j0 k (l0.take ((mn (l0.length : Int) 100) : Int).toNat) l1 (⟨#[34]⟩ : ByteArray))) else (none)) else (none)
theorem signetrylaw02_TextSpelt.mono_l : ∀ k, (∀ y0 y1 y2, LeO (signetrylaw02_TextSpelt.j0 k y0 y1 y2) (signetrylaw02_TextSpelt.j0 (k + 1) y0 y1 y2)) ∧ (∀ y0 y1 y2 y3 y4, LeO (signetrylaw02_TextSpelt.l0 k y0 y1 y2 y3 y4) (signetrylaw02_TextSpelt.l0 (k + 1) y0 y1 y2 y3 y4)) ∧ (∀ y0 y1 y2 y3 y4 y5, LeO (signetrylaw02_TextSpelt.j2 k y0 y1 y2 y3 y4 y5) (signetrylaw02_TextSpelt.j2 (k + 1) y0 y1 y2 y3 y4 y5)) ∧ (∀ y0 y1 y2 y3 y4 y5 y6 y7 y8 y9, LeO (signetrylaw02_TextSpelt.j3 k y0 y1 y2 y3 y4 y5 y6 y7 y8 y9) (signetrylaw02_TextSpelt.j3 (k + 1) y0 y1 y2 y3 y4 y5 y6 y7 y8 y9))
  | 0 => ⟨fun _ _ _ r h => by simp [signetrylaw02_TextSpelt.j0] at h, fun _ _ _ _ _ r h => by simp [signetrylaw02_TextSpelt.l0] at h, fun _ _ _ _ _ _ r h => by simp [signetrylaw02_TextSpelt.j2] at h, fun _ _ _ _ _ _ _ _ _ _ r h => by simp [signetrylaw02_TextSpelt.j3] at h⟩
  | k + 1 => by
    obtain ⟨ih0, ih1, ih2, ih3⟩ := signetrylaw02_TextSpelt.mono_l k
    refine ⟨?_, ?_, ?_, ?_⟩
    · intro y0 y1 y2
      unfold signetrylaw02_TextSpelt.j0
      repeat' first
      | (with_reducible exact ih0 _ _ _)
      | (with_reducible exact ih1 _ _ _ _ _)
      | (with_reducible exact ih2 _ _ _ _ _ _)
      | (with_reducible exact ih3 _ _ _ _ _ _ _ _ _ _)
      | (with_reducible exact signetrylaw02_works.mono _)
      | (with_reducible exact text_Unquote.mono _ _)
      | (with_reducible exact LeO.refl _)
      | (with_reducible exact LeO.none _)
      | (with_reducible refine LeO.ite ?_ ?_)
      | (with_reducible refine LeO.bind ?_ (fun _ => ?_))
      | exact ih0 _ _ _
      | exact ih1 _ _ _ _ _
      | exact ih2 _ _ _ _ _ _
      | exact ih3 _ _ _ _ _ _ _ _ _ _
      | exact signetrylaw02_works.mono _
      | exact text_Unquote.mono _ _
      | exact LeO.none _
      | refine LeO.ite ?_ ?_
      | refine LeO.bind ?_ (fun _ => ?_)
    · intro y0 y1 y2 y3 y4
      unfold signetrylaw02_TextSpelt.l0
      repeat' first
      | (with_reducible exact ih0 _ _ _)
      | (with_reducible exact ih1 _ _ _ _ _)
      | (with_reducible exact ih2 _ _ _ _ _ _)
      | (with_reducible exact ih3 _ _ _ _ _ _ _ _ _ _)
      | (with_reducible exact signetrylaw02_works.mono _)
      | (with_reducible exact text_Unquote.mono _ _)
      | (with_reducible exact LeO.refl _)
      | (with_reducible exact LeO.none _)
      | (with_reducible refine LeO.ite ?_ ?_)
      | (with_reducible refine LeO.bind ?_ (fun _ => ?_))
      | exact ih0 _ _ _
      | exact ih1 _ _ _ _ _
      | exact ih2 _ _ _ _ _ _
      | exact ih3 _ _ _ _ _ _ _ _ _ _
      | exact signetrylaw02_works.mono _
      | exact text_Unquote.mono _ _
      | exact LeO.none _
      | refine LeO.ite ?_ ?_
      | refine LeO.bind ?_ (fun _ => ?_)
    · intro y0 y1 y2 y3 y4 y5
      unfold signetrylaw02_TextSpelt.j2
      repeat' first
      | (with_reducible exact ih0 _ _ _)
      | (with_reducible exact ih1 _ _ _ _ _)
      | (with_reducible exact ih2 _ _ _ _ _ _)
      | (with_reducible exact ih3 _ _ _ _ _ _ _ _ _ _)
      | (with_reducible exact signetrylaw02_works.mono _)
      | (with_reducible exact text_Unquote.mono _ _)
      | (with_reducible exact LeO.refl _)
      | (with_reducible exact LeO.none _)
      | (with_reducible refine LeO.ite ?_ ?_)
      | (with_reducible refine LeO.bind ?_ (fun _ => ?_))
      | exact ih0 _ _ _
      | exact ih1 _ _ _ _ _
      | exact ih2 _ _ _ _ _ _
      | exact ih3 _ _ _ _ _ _ _ _ _ _
      | exact signetrylaw02_works.mono _
      | exact text_Unquote.mono _ _
      | exact LeO.none _
      | refine LeO.ite ?_ ?_
      | refine LeO.bind ?_ (fun _ => ?_)
    · intro y0 y1 y2 y3 y4 y5 y6 y7 y8 y9
      unfold signetrylaw02_TextSpelt.j3
      repeat' first
      | (with_reducible exact ih0 _ _ _)
      | (with_reducible exact ih1 _ _ _ _ _)
      | (with_reducible exact ih2 _ _ _ _ _ _)
      | (with_reducible exact ih3 _ _ _ _ _ _ _ _ _ _)
      | (with_reducible exact signetrylaw02_works.mono _)
      | (with_reducible exact text_Unquote.mono _ _)
      | (with_reducible exact LeO.refl _)
      | (with_reducible exact LeO.none _)
      | (with_reducible refine LeO.ite ?_ ?_)
      | (with_reducible refine LeO.bind ?_ (fun _ => ?_))
      | exact ih0 _ _ _
      | exact ih1 _ _ _ _ _
      | exact ih2 _ _ _ _ _ _
      | exact ih3 _ _ _ _ _ _ _ _ _ _
      | exact signetrylaw02_works.mono _
      | exact text_Unquote.mono _ _
      | exact LeO.none _
      | refine LeO.ite ?_ ?_
      | refine LeO.bind ?_ (fun _ => ?_)
theorem signetrylaw02_TextSpelt.mono : ∀ a0 a1 a2 k, LeO (signetrylaw02_TextSpelt.f k a0 a1 a2) (signetrylaw02_TextSpelt.f (k + 1) a0 a1 a2) := by
  intro a0 a1 a2 k
  obtain ⟨ih0, ih1, ih2, ih3⟩ := signetrylaw02_TextSpelt.mono_l k
  unfold signetrylaw02_TextSpelt.f
  repeat' first
      | (with_reducible exact ih0 _ _ _)
      | (with_reducible exact ih1 _ _ _ _ _)
      | (with_reducible exact ih2 _ _ _ _ _ _)
      | (with_reducible exact ih3 _ _ _ _ _ _ _ _ _ _)
      | (with_reducible exact signetrylaw02_works.mono _)
      | (with_reducible exact text_Unquote.mono _ _)
      | (with_reducible exact LeO.refl _)
      | (with_reducible exact LeO.none _)
      | (with_reducible refine LeO.ite ?_ ?_)
      | (with_reducible refine LeO.bind ?_ (fun _ => ?_))
      | exact ih0 _ _ _
      | exact ih1 _ _ _ _ _
      | exact ih2 _ _ _ _ _ _
      | exact ih3 _ _ _ _ _ _ _ _ _ _
      | exact signetrylaw02_works.mono _
      | exact text_Unquote.mono _ _
      | exact LeO.none _
      | refine LeO.ite ?_ ?_
      | refine LeO.bind ?_ (fun _ => ?_)
def signetrylaw02_TextSpelt.T14 : Bool × List (List Nat × List Nat) := (true, [([], []), ([0], [0]), ([1], [1]), ([], []), ([3], [3]), ([4], [4]), ([2, 5], [2, 5]), ([6], [6]), ([7, 0, 1, 2, 3, 4, 5, 6, 7], [7])])
def signetrylaw02_TextSpelt.B14 : List Nat := [0, 1, 3, 0, 8, 24, 63, 127, 255]
theorem signetrylaw02_TextSpelt.tab14 : rtab .any (opsOf Tryd.f9 14) = signetrylaw02_TextSpelt.T14 := by kernel_rfl
theorem signetrylaw02_TextSpelt.bits14 : waitsOk signetrylaw02_TextSpelt.T14.2 signetrylaw02_TextSpelt.B14 = true := by kernel_rfl
set_option maxHeartbeats 8000000 in
set_option maxRecDepth 100000 in
theorem signetrylaw02_TextSpelt.calls (k : Nat) (A0 : Option Addr) (c0 : Nat) (l0 : List Int) (A1 : Option Addr) (c1 : Nat) (l1 : List Int) (a2 : Bool) (r : Bool) (w : World) (hr0 : Kd.C (Kd.int .u8) w A0 l0.length l0) (hc0 : l0.length ≤ c0) (hr1 : Kd.C (Kd.int .i64) w A1 l1.length l1) (hc1 : l1.length ≤ c1) (h : signetrylaw02_TextSpelt.f k l0 l1 a2 = some r) (HTB_ : Tabs w) :
    Calls Tryd.prog 9 #[.slice A0 l0.length c0, .slice A1 l1.length c1, .bool a2] w fun e w' => e = .returned (.bool r) ∧ Below w.heap.size w w' := by
  have HR0 := Aside0.mk hr0
  have HC0 := Aside0.mk hc0
  clear hr0 hc0
  have HR1 := Aside0.mk hr1
  have HC1 := Aside0.mk hc1
  clear hr1 hc1
  have HB := Aside0.mk (Below.refl w.heap.size w)
  have H : (if 0 ≤ (mn (l0.length : Int) 100) then (if (mn (l0.length : Int) 100) ≤ (l0.length : Int) then (if a2 = true then (signetrylaw02_TextSpelt.j0 k (l0.take ((mn (l0.length : Int) 100) : Int).toNat) l1 (⟨#[39]⟩ : ByteArray)) else (signetrylaw02_TextSpelt.j0 k (l0.take ((mn (l0.length : Int) 100) : Int).toNat) l1 (⟨#[34]⟩ : ByteArray))) else (none)) else (none)) = some r := h
  clear h
  obtain ⟨ji4, hji4⟩ : ∃ j_ : Int, (mn (l0.length : Int) 100) = j_ := ⟨_, rfl⟩
  replace H : (if 0 ≤ (ji4) then (if (ji4) ≤ (l0.length : Int) then (if a2 = true then (signetrylaw02_TextSpelt.j0 k (l0.take ((ji4) : Int).toNat) l1 (⟨#[39]⟩ : ByteArray)) else (signetrylaw02_TextSpelt.j0 k (l0.take ((ji4) : Int).toNat) l1 (⟨#[34]⟩ : ByteArray))) else (none)) else (none)) = some r := by first | (rw [hji4] at H; exact H) | (simp only [hji4] at H ⊢; exact H)
  (try (have hji4h : ji4 ≤ 100 := by (rw [← hji4]; unfold mn; (repeat' split) <;> omega)))
  (try (have hji4g : ji4 ≤ 64 := by omega))
  (try (have hji4l : 0 ≤ ji4 := by (rw [← hji4]; unfold mn; (repeat' split) <;> omega)))
  (try (have hji4m : 0 ≤ ji4 := by omega))
  have hji4_ : (if 100 < (l0.length : Int) then 100 else (l0.length : Int)) = ji4 := hji4
  by_cases c5 : 0 ≤ (ji4)
  · rw [if_pos c5] at H
    have c5b0 := eq_true c5
    have c5b1 : decide (0 ≤ (ji4)) = true := decide_eq_true c5
    clear c5
    by_cases c6 : (ji4) ≤ (l0.length : Int)
    · rw [if_pos c6] at H
      have c6b0 := eq_true c6
      have c6b1 : decide ((ji4) ≤ (l0.length : Int)) = true := decide_eq_true c6
      clear c6
      have HC7 := Aside0.mk H
      clear H
      obtain ⟨i08, hi08, _, hsz8, _⟩ := info_parts info5
      obtain ⟨hcut8, hA8, hC8⟩ := print_take_of (P := Tryd.prog) (Value.int .u8) 0 22 5 .i64 Tryd.underlying22 hi08 hsz8 A0 c0 l0 (ji4) (of_decide_eq_true (by first | (with_reducible assumption) | assumption)) (of_decide_eq_true (by first | (with_reducible assumption) | assumption)) HC0.out
      have HR481 := Aside0.mk (Kd.C_of_reads (h1 := fun _ => rfl) (hA8 _ (Kd.reads_of_C HR0.out)))
      have HC481 := Aside0.mk hC8
      clear hA8 hC8 hi08 hsz8
      go_enter Tryd.func9, Tryd.ntmps9
      go_upto_if 24 with (fail)
      go_cut [7] (fun v7 wc => ∃ (kq : Nat) (x7_6 : ByteArray), v7 = .string x7_6 ∧ Aside0 (signetrylaw02_TextSpelt.j0 kq (l0.take ((ji4) : Int).toNat) l1 x7_6 = some r) ∧ Aside0 (kq ≤ k) ∧ Aside0 (Below w.heap.size w wc))
      case first =>
        have H := HC7.out
        clear HC7
        by_cases c9 : a2 = true
        · subst c9
          have H1 : (signetrylaw02_TextSpelt.j0 k (l0.take ((ji4) : Int).toNat) l1 (⟨#[39]⟩ : ByteArray)) = some r := by rw [if_pos rfl] at H; exact H
          clear H
          have H := H1
          clear H1
          have H' := Aside0.mk H
          clear H
          go_wp2
          go_meet
          case rel => exact ⟨_, ((⟨#[39]⟩ : ByteArray)), (by first | rfl | (simp; done) | (simp [*]; done)), H', ⟨by first | omega | exact Nat.le_refl _⟩, ⟨by repeat (first | (with_reducible first | exact HB.out | apply below_alloc | apply pw_below_drewN | apply below_drew1) | exact HB.out)⟩⟩
        · replace c9 := Bool.eq_false_iff.mpr c9
          subst c9
          have H1 : (signetrylaw02_TextSpelt.j0 k (l0.take ((ji4) : Int).toNat) l1 (⟨#[34]⟩ : ByteArray)) = some r := by rw [if_neg (show ¬ (false = true) by decide)] at H; exact H
          clear H
          have H := H1
          clear H1
          have H' := Aside0.mk H
          clear H
          go_wp2
          go_meet
          case rel => exact ⟨_, ((⟨#[34]⟩ : ByteArray)), (by first | rfl | (simp; done) | (simp [*]; done)), H', ⟨by first | omega | exact Nat.le_refl _⟩, ⟨by repeat (first | (with_reducible first | exact HB.out | apply below_alloc | apply pw_below_drewN | apply below_drew1) | exact HB.out)⟩⟩
      case rest =>
        clear HC7
        try clear c1
        try clear p2
        try clear c5
        try clear c5b0
        try clear c5b1
        try clear c6
        try clear c6b0
        try clear c6b1
        try clear c9
        obtain ⟨kq, x7_6, rfl, HA, HJ6, HB⟩ := hcut
        cases kq with
        | zero => exact absurd HA.out (by simp [signetrylaw02_TextSpelt.j0])
        | succ kj6 =>
          have H := HA.out
          clear HA
          simp only [signetrylaw02_TextSpelt.j0] at H
          have H' := Aside0.mk H
          clear H
          go_wp2
          go_loopg [8, 9] kj6 (fun kq v8 v9 w' => ∃ (x8_2 : ByteArray) (x9_2 : Int), v8 = .string x8_2 ∧ v9 = .int .i64 x9_2 ∧ Aside0 (signetrylaw02_TextSpelt.l0 kq (l0.take ((ji4) : Int).toNat) l1 x7_6 x8_2 x9_2 = some r) ∧ Aside0 (kq ≤ kj6) ∧ Aside0 (Below w.heap.size w w'))
          case atStart => exact ⟨(x7_6), (0), (by first | rfl | (simp; done) | (simp [*]; done)), (by first | rfl | (simp; done) | (simp [*]; done)), H', ⟨Nat.le_refl _⟩, ⟨by repeat (first | (with_reducible first | exact HB.out | apply below_alloc | apply pw_below_drewN | apply below_drew1) | exact HB.out)⟩⟩
          case round =>
            clear H'
            try clear c1
            try clear p2
            try clear c5
            try clear c5b0
            try clear c5b1
            try clear c6
            try clear c6b0
            try clear c6b1
            try clear c9
            try clear p2
            obtain ⟨x8_2, x9_2, rfl, rfl, HA, HK2, HB⟩ := hrel
            cases gk with
            | zero => exact absurd HA.out (by simp [signetrylaw02_TextSpelt.l0])
            | succ k2 =>
              have H := HA.out
              clear HA
              simp only [signetrylaw02_TextSpelt.l0] at H
              by_cases c10 : x9_2 < ((l0.take ((ji4) : Int).toNat).length : Int)
              · rw [if_pos c10] at H
                have c10b0 : decide (x9_2 < ((l0.take ((ji4) : Int).toNat).length : Int)) = true := decide_eq_true c10
                clear c10
                have HC11 := Aside0.mk H
                clear H
                go_upto_if 34 with (fail)
                go_cut [10] (fun v10 wc => ∃ (kq : Nat) (x10_10 : Int), v10 = .int .i64 x10_10 ∧ Aside0 (signetrylaw02_TextSpelt.j2 kq (l0.take ((ji4) : Int).toNat) l1 x7_6 x8_2 x9_2 x10_10 = some r) ∧ Aside0 (kq ≤ k2) ∧ Aside0 (Below w.heap.size w wc))
                case first =>
                  have H := HC11.out
                  clear HC11
                  by_cases c12 : (l1.length : Int) > 0
                  · rw [if_pos c12] at H
                    have c12b0 : decide (0 < (l1.length : Int)) = true := decide_eq_true c12
                    have c12b1 : decide (0 < l1.length) = true := decide_eq_true (by omega)
                    clear c12
                    (first | rw [c12b0] | (simp only [i64_w, i32_w]; rw [c12b0]) | skip)
                    by_cases c13 : (l1.length : Int) = 0
                    · rw [if_pos c13] at H
                      exact absurd H (by simp)
                    · rw [if_neg c13] at H
                      have c13b0 : ((l1.length : Int) == 0) = false := beq_eq_false_iff_ne.mpr c13
                      have c13b1 : ((l1.length : Int) != 0) = true := bne_iff_ne.mpr c13
                      have c13b2 : ¬ (l1 = []) := fun h_ => c13 (by rw [h_]; rfl)
                      obtain ⟨ji14, hji14⟩ : ∃ j_ : Int, (Int.tmod x9_2 (l1.length : Int)) = j_ := ⟨_, rfl⟩
                      replace H : (if 0 ≤ (ji14) then (if (ji14) < (l1.length : Int) then ((signetryref00_Bring.f (rd l1 (ji14)) 4).bind fun t483 => (signetrylaw02_TextSpelt.j2 k2 (l0.take ((ji4) : Int).toNat) l1 x7_6 x8_2 x9_2 t483)) else (none)) else (none)) = some r := by first | (rw [hji14] at H; exact H) | (simp only [hji14] at H ⊢; exact H)
                      by_cases c15 : 0 ≤ (ji14)
                      · rw [if_pos c15] at H
                        have c15b0 : decide (0 ≤ (ji14)) = true := decide_eq_true c15
                        clear c15
                        by_cases c16 : (ji14) < (l1.length : Int)
                        · rw [if_pos c16] at H
                          have c16b0 : decide ((ji14) < (l1.length : Int)) = true := decide_eq_true c16
                          clear c16
                          replace H := Option.bind_eq_some_iff.mp H
                          obtain ⟨t483, A170, H⟩ := H
                          replace H : (signetrylaw02_TextSpelt.j2 k2 (l0.take ((ji4) : Int).toNat) l1 x7_6 x8_2 x9_2 t483) = some r := H
                          have A17 := Aside0.mk A170
                          clear A170
                          have H' := Aside0.mk H
                          clear H
                          have p482 : 0 ≤ ((ji14) : Int) := of_decide_eq_true (by first | (with_reducible assumption) | assumption)
                          have q482 : (ji14) < (l1.length : Int) := of_decide_eq_true (by first | (with_reducible assumption) | assumption)
                          obtain ⟨ad482, e482, hx482_0⟩ := Kd.at_int HR1.out (ji14) p482 q482
                          cases e482
                          replace hx482_0 := (HB.out.cell (World.block_lt_of_cell? w _ hx482_0)).trans hx482_0
                          replace p482 := eq_true p482
                          replace q482 := eq_true q482
                          go_wp2_with (first | ((with_reducible refine gate_callee (f := 33) rfl ?_); refine goesL_ (some 42) rfl rfl Tryd.func33 (by kernel_rfl) rfl #[.int .i64 (rd l1 (ji14)), .int .i64 4] rfl (by (try simp only [List.map_toArray, List.map_cons, List.map_nil]); first | done | (simp only [hji14]; rfl) | rfl | (simp only [List.length_drop, List.length_take]; rfl)) ?_; (with_reducible refine (signetryref00_Bring.calls (rd l1 (ji14)) 4 t483 _ A17.out).mono ?_); rintro e w' ⟨rfl, ⟨nd, rfl⟩⟩; refine ⟨_, rfl, ?_⟩))
                          go_meet
                          case rel => exact ⟨_, (t483), (by first | rfl | (simp; done) | (simp [*]; done)), H', ⟨by have := HJ6.out; have := HK2.out; first | omega | exact Nat.le_refl _⟩, ⟨by repeat (first | (with_reducible first | exact HB.out | apply below_alloc | apply pw_below_drewN | apply below_drew1) | exact HB.out)⟩⟩
                        · rw [if_neg c16] at H
                          exact absurd H (by simp)
                      · rw [if_neg c15] at H
                        exact absurd H (by simp)
                  · rw [if_neg c12] at H
                    have c12b0 : decide (0 < (l1.length : Int)) = false := decide_eq_false c12
                    have c12b1 : decide (0 < l1.length) = false := decide_eq_false (by omega)
                    have c12n : l1 = [] := List.eq_nil_of_length_eq_zero (by omega)
                    clear c12
                    (first | rw [c12b0] | (simp only [i64_w, i32_w]; rw [c12b0]) | skip)
                    try rw [c12b1]
                    have H' := Aside0.mk H
                    clear H
                    go_wp2
                    go_meet
                    case rel => exact ⟨_, (0), (by first | rfl | (simp; done) | (simp [*]; done)), H', ⟨by have := HJ6.out; have := HK2.out; first | omega | exact Nat.le_refl _⟩, ⟨by repeat (first | (with_reducible first | exact HB.out | apply below_alloc | apply pw_below_drewN | apply below_drew1) | exact HB.out)⟩⟩
                case rest =>
                  clear HC11
                  try clear c1
                  try clear p2
                  try clear c3
                  try clear p4
                  try clear q4
                  try clear hx4
                  try clear c5
                  try clear c5b0
                  try clear c5b1
                  try clear c6
                  try clear c6b0
                  try clear c6b1
                  try clear c9
                  try clear c10
                  try clear c10b0
                  try clear c12
                  try clear c12b0
                  try clear c12b1
                  try clear c13
                  try clear c13b0
                  try clear c13b1
                  try clear c13b2
                  try clear c15
                  try clear c15b0
                  try clear c16
                  try clear c16b0
                  try clear hx482_0
                  try clear p2
                  try clear p482
                  try clear q482
                  obtain ⟨kq, x10_10, rfl, HA, HJ10, HB⟩ := hcut
                  cases kq with
                  | zero => exact absurd HA.out (by simp [signetrylaw02_TextSpelt.j2])
                  | succ kj10 =>
                    have H := HA.out
                    clear HA
                    simp only [signetrylaw02_TextSpelt.j2] at H
                    by_cases c18 : 0 ≤ x9_2
                    · rw [if_pos c18] at H
                      have c18b0 : decide (0 ≤ x9_2) = true := decide_eq_true c18
                      clear c18
                      by_cases c19 : x9_2 < ((l0.take ((ji4) : Int).toNat).length : Int)
                      · rw [if_pos c19] at H
                        have c19b0 : decide (x9_2 < ((l0.take ((ji4) : Int).toNat).length : Int)) = true := decide_eq_true c19
                        clear c19
                        obtain ⟨y485, hy485⟩ : ∃ y_ : List Int, y_ = (([(48 + ((Int.tdiv (rd (l0.take ((ji4) : Int).toNat) x9_2) 64) % 256)) % 256, 48 + (((Int.tdiv (rd (l0.take ((ji4) : Int).toNat) x9_2) 8) % 256) % 8), (48 + (Int.tmod (rd (l0.take ((ji4) : Int).toNat) x9_2) 8)) % 256] : List Int)) := ⟨_, rfl⟩
                        replace H : (if 1 + (strOfNums y485).size ≤ 9223372036854775807 then (if 0 ≤ ((Int.tdiv (rd (l0.take ((ji4) : Int).toNat) x9_2) 16) % 256) then (if ((Int.tdiv (rd (l0.take ((ji4) : Int).toNat) x9_2) 16) % 256) < 16 then (if 0 ≤ (Int.tmod (rd (l0.take ((ji4) : Int).toNat) x9_2) 16) then (if (Int.tmod (rd (l0.take ((ji4) : Int).toNat) x9_2) 16) < 16 then ((some (([bt (⟨#[48, 49, 50, 51, 52, 53, 54, 55, 56, 57, 97, 98, 99, 100, 101, 102]⟩ : ByteArray) ((Int.tdiv (rd (l0.take ((ji4) : Int).toNat) x9_2) 16) % 256), bt (⟨#[48, 49, 50, 51, 52, 53, 54, 55, 56, 57, 65, 66, 67, 68, 69, 70]⟩ : ByteArray) (Int.tmod (rd (l0.take ((ji4) : Int).toNat) x9_2) 16)] : List Int) : List Int)).bind fun y488 => (if (rd (l0.take ((ji4) : Int).toNat) x9_2) ≥ 32 then (if (rd (l0.take ((ji4) : Int).toNat) x9_2) = 92 then (signetrylaw02_TextSpelt.j3 kj10 (l0.take ((ji4) : Int).toNat) l1 x7_6 x8_2 x9_2 x10_10 (rd (l0.take ((ji4) : Int).toNat) x9_2) ((⟨#[92]⟩ : ByteArray) ++ (strOfNums y485)) (strOfNums y488) false) else (if 0 < (x7_6.size : Int) then (signetrylaw02_TextSpelt.j3 kj10 (l0.take ((ji4) : Int).toNat) l1 x7_6 x8_2 x9_2 x10_10 (rd (l0.take ((ji4) : Int).toNat) x9_2) ((⟨#[92]⟩ : ByteArray) ++ (strOfNums y485)) (strOfNums y488) ((rd (l0.take ((ji4) : Int).toNat) x9_2) != (bt x7_6 0))) else (none))) else (signetrylaw02_TextSpelt.j3 kj10 (l0.take ((ji4) : Int).toNat) l1 x7_6 x8_2 x9_2 x10_10 (rd (l0.take ((ji4) : Int).toNat) x9_2) ((⟨#[92]⟩ : ByteArray) ++ (strOfNums y485)) (strOfNums y488) false))) else (none)) else (none)) else (none)) else (none)) else (none)) = some r := by first | (rw [hy485]; with_reducible exact H) | (have H2_ := (Option.bind_some _ _).symm.trans H; rw [hy485]; with_reducible exact H2_) | (have H2_ := (Option.bind_some _ _).symm.trans H; with_reducible exact H2_) | with_reducible exact H | (rw [hy485]; exact H) | exact H
                        have Ny485 := Aside0.mk hy485
                        clear hy485
                        by_cases c20 : 1 + (strOfNums y485).size ≤ 9223372036854775807
                        · rw [if_pos c20] at H
                          have c20b0 := eq_true c20
                          have c20b1 : decide (1 + (strOfNums y485).size ≤ 9223372036854775807) = true := decide_eq_true c20
                          try have c20b2 : (9223372036854775807 < 1 + (strOfNums y485).size) = False := eq_false (Nat.not_lt.2 c20)
                          obtain ⟨ji21, hji21⟩ : ∃ j_ : Int, ((Int.tdiv (rd (l0.take ((ji4) : Int).toNat) x9_2) 16) % 256) = j_ := ⟨_, rfl⟩
                          have hwji21 : IntKind.u8.wrap (Int.tdiv (rd (l0.take ((ji4) : Int).toNat) x9_2) 16) = ji21 := by rw [← hji21]; simp [IntKind.wrap, IntKind.bits, IntKind.signed]
                          replace H : (if 0 ≤ (ji21) then (if (ji21) < 16 then (if 0 ≤ (Int.tmod (rd (l0.take ((ji4) : Int).toNat) x9_2) 16) then (if (Int.tmod (rd (l0.take ((ji4) : Int).toNat) x9_2) 16) < 16 then ((some (([bt (⟨#[48, 49, 50, 51, 52, 53, 54, 55, 56, 57, 97, 98, 99, 100, 101, 102]⟩ : ByteArray) (ji21), bt (⟨#[48, 49, 50, 51, 52, 53, 54, 55, 56, 57, 65, 66, 67, 68, 69, 70]⟩ : ByteArray) (Int.tmod (rd (l0.take ((ji4) : Int).toNat) x9_2) 16)] : List Int) : List Int)).bind fun y488 => (if (rd (l0.take ((ji4) : Int).toNat) x9_2) ≥ 32 then (if (rd (l0.take ((ji4) : Int).toNat) x9_2) = 92 then (signetrylaw02_TextSpelt.j3 kj10 (l0.take ((ji4) : Int).toNat) l1 x7_6 x8_2 x9_2 x10_10 (rd (l0.take ((ji4) : Int).toNat) x9_2) ((⟨#[92]⟩ : ByteArray) ++ (strOfNums y485)) (strOfNums y488) false) else (if 0 < (x7_6.size : Int) then (signetrylaw02_TextSpelt.j3 kj10 (l0.take ((ji4) : Int).toNat) l1 x7_6 x8_2 x9_2 x10_10 (rd (l0.take ((ji4) : Int).toNat) x9_2) ((⟨#[92]⟩ : ByteArray) ++ (strOfNums y485)) (strOfNums y488) ((rd (l0.take ((ji4) : Int).toNat) x9_2) != (bt x7_6 0))) else (none))) else (signetrylaw02_TextSpelt.j3 kj10 (l0.take ((ji4) : Int).toNat) l1 x7_6 x8_2 x9_2 x10_10 (rd (l0.take ((ji4) : Int).toNat) x9_2) ((⟨#[92]⟩ : ByteArray) ++ (strOfNums y485)) (strOfNums y488) false))) else (none)) else (none)) else (none)) else (none)) = some r := by first | (rw [hji21] at H; exact H) | (simp only [hji21] at H ⊢; exact H)
                          by_cases c22 : 0 ≤ (ji21)
                          · rw [if_pos c22] at H
                            have c22b0 : decide (0 ≤ (ji21)) = true := decide_eq_true c22
                            clear c22
                            by_cases c23 : (ji21) < 16
                            · rw [if_pos c23] at H
                              have c23b0 : decide ((ji21) < 16) = true := decide_eq_true c23
                              clear c23
                              obtain ⟨ji25, hji25⟩ : ∃ j_ : Int, (Int.tmod (rd (l0.take ((ji4) : Int).toNat) x9_2) 16) = j_ := ⟨_, rfl⟩
                              replace H : (if 0 ≤ (ji25) then (if (ji25) < 16 then ((some (([bt (⟨#[48, 49, 50, 51, 52, 53, 54, 55, 56, 57, 97, 98, 99, 100, 101, 102]⟩ : ByteArray) (ji21), bt (⟨#[48, 49, 50, 51, 52, 53, 54, 55, 56, 57, 65, 66, 67, 68, 69, 70]⟩ : ByteArray) (ji25)] : List Int) : List Int)).bind fun y488 => (if (rd (l0.take ((ji4) : Int).toNat) x9_2) ≥ 32 then (if (rd (l0.take ((ji4) : Int).toNat) x9_2) = 92 then (signetrylaw02_TextSpelt.j3 kj10 (l0.take ((ji4) : Int).toNat) l1 x7_6 x8_2 x9_2 x10_10 (rd (l0.take ((ji4) : Int).toNat) x9_2) ((⟨#[92]⟩ : ByteArray) ++ (strOfNums y485)) (strOfNums y488) false) else (if 0 < (x7_6.size : Int) then (signetrylaw02_TextSpelt.j3 kj10 (l0.take ((ji4) : Int).toNat) l1 x7_6 x8_2 x9_2 x10_10 (rd (l0.take ((ji4) : Int).toNat) x9_2) ((⟨#[92]⟩ : ByteArray) ++ (strOfNums y485)) (strOfNums y488) ((rd (l0.take ((ji4) : Int).toNat) x9_2) != (bt x7_6 0))) else (none))) else (signetrylaw02_TextSpelt.j3 kj10 (l0.take ((ji4) : Int).toNat) l1 x7_6 x8_2 x9_2 x10_10 (rd (l0.take ((ji4) : Int).toNat) x9_2) ((⟨#[92]⟩ : ByteArray) ++ (strOfNums y485)) (strOfNums y488) false))) else (none)) else (none)) = some r := by first | (rw [hji25] at H; exact H) | (simp only [hji25] at H ⊢; exact H)
                              by_cases c26 : 0 ≤ (ji25)
                              · rw [if_pos c26] at H
                                have c26b0 : decide (0 ≤ (ji25)) = true := decide_eq_true c26
                                clear c26
                                by_cases c27 : (ji25) < 16
                                · rw [if_pos c27] at H
                                  have c27b0 : decide ((ji25) < 16) = true := decide_eq_true c27
                                  clear c27
                                  obtain ⟨y488, hy488⟩ : ∃ y_ : List Int, y_ = (([bt (⟨#[48, 49, 50, 51, 52, 53, 54, 55, 56, 57, 97, 98, 99, 100, 101, 102]⟩ : ByteArray) (ji21), bt (⟨#[48, 49, 50, 51, 52, 53, 54, 55, 56, 57, 65, 66, 67, 68, 69, 70]⟩ : ByteArray) (ji25)] : List Int)) := ⟨_, rfl⟩
                                  replace H : (if (rd (l0.take ((ji4) : Int).toNat) x9_2) ≥ 32 then (if (rd (l0.take ((ji4) : Int).toNat) x9_2) = 92 then (signetrylaw02_TextSpelt.j3 kj10 (l0.take ((ji4) : Int).toNat) l1 x7_6 x8_2 x9_2 x10_10 (rd (l0.take ((ji4) : Int).toNat) x9_2) ((⟨#[92]⟩ : ByteArray) ++ (strOfNums y485)) (strOfNums y488) false) else (if 0 < (x7_6.size : Int) then (signetrylaw02_TextSpelt.j3 kj10 (l0.take ((ji4) : Int).toNat) l1 x7_6 x8_2 x9_2 x10_10 (rd (l0.take ((ji4) : Int).toNat) x9_2) ((⟨#[92]⟩ : ByteArray) ++ (strOfNums y485)) (strOfNums y488) ((rd (l0.take ((ji4) : Int).toNat) x9_2) != (bt x7_6 0))) else (none))) else (signetrylaw02_TextSpelt.j3 kj10 (l0.take ((ji4) : Int).toNat) l1 x7_6 x8_2 x9_2 x10_10 (rd (l0.take ((ji4) : Int).toNat) x9_2) ((⟨#[92]⟩ : ByteArray) ++ (strOfNums y485)) (strOfNums y488) false)) = some r := by first | (rw [hy488]; with_reducible exact H) | (have H2_ := (Option.bind_some _ _).symm.trans H; rw [hy488]; with_reducible exact H2_) | (have H2_ := (Option.bind_some _ _).symm.trans H; with_reducible exact H2_) | with_reducible exact H | (rw [hy488]; exact H) | exact H
                                  have Ny488 := Aside0.mk hy488
                                  clear hy488
                                  have HC29 := Aside0.mk H
                                  clear H
                                  have p484 : 0 ≤ (x9_2 : Int) := of_decide_eq_true (by first | (with_reducible assumption) | assumption)
                                  have q484 : x9_2 < ((l0.take ((ji4) : Int).toNat).length : Int) := of_decide_eq_true (by first | (with_reducible assumption) | assumption)
                                  obtain ⟨ad484, e484, hx484_0⟩ := Kd.at_int HR481.out x9_2 p484 q484
                                  cases e484
                                  replace hx484_0 := (HB.out.cell (World.block_lt_of_cell? w _ hx484_0)).trans hx484_0
                                  replace p484 := eq_true p484
                                  replace q484 := eq_true q484
                                  try go_wp2_with (first | ((with_reducible refine gate_dst (N := 57) rfl ?_); (try (refine gate_guard (by rfl) ?_; dsimp only)); refine Kd.R_lit (Kd.int .u8) _ 5 ?hg (N := 57) ?hd (xs := ([(48 + ((Int.tdiv (rd (l0.take ((ji4) : Int).toNat) x9_2) 64) % 256)) % 256, 48 + (((Int.tdiv (rd (l0.take ((ji4) : Int).toNat) x9_2) 8) % 256) % 8), (48 + (Int.tmod (rd (l0.take ((ji4) : Int).toNat) x9_2) 8)) % 256] : List Int)) (inner := [.int .u8 ((48 + ((Int.tdiv (rd (l0.take ((ji4) : Int).toNat) x9_2) 64) % 256)) % 256), .int .u8 (48 + (((Int.tdiv (rd (l0.take ((ji4) : Int).toNat) x9_2) 8) % 256) % 8)), .int .u8 ((48 + (Int.tmod (rd (l0.take ((ji4) : Int).toNat) x9_2) 8)) % 256)]) (ok := fun _ => True) (okp := fun _ => True) ?hr ?hp (fun _ hk => hk) trivial (Below.refl _ _) (Nat.le_refl _) (by simp) ?_; (case hd => rfl); (case hg => rfl); (case hr => first | (go_simp; done) | (go_simp; rfl)); (case hp => exact (Reps.one (show Kd.M (Kd.int .u8) _ _ _ ((48 + ((Int.tdiv (rd (l0.take ((ji4) : Int).toNat) x9_2) 64) % 256)) % 256) [.int .u8 ((48 + ((Int.tdiv (rd (l0.take ((ji4) : Int).toNat) x9_2) 64) % 256)) % 256)] from rfl) (Reps.one (show Kd.M (Kd.int .u8) _ _ _ (48 + (((Int.tdiv (rd (l0.take ((ji4) : Int).toNat) x9_2) 8) % 256) % 8)) [.int .u8 (48 + (((Int.tdiv (rd (l0.take ((ji4) : Int).toNat) x9_2) 8) % 256) % 8))] from rfl) (Reps.one (show Kd.M (Kd.int .u8) _ _ _ ((48 + (Int.tmod (rd (l0.take ((ji4) : Int).toNat) x9_2) 8)) % 256) [.int .u8 ((48 + (Int.tmod (rd (l0.take ((ji4) : Int).toNat) x9_2) 8)) % 256)] from rfl) (Reps.none _ _))))); intro v486 w30 ho31 hb hg_ hnew_; clear hg_ hnew_; (first | rw [← Ny485.out] at ho31 | (simp only [Int.reduceToNat] at ho31; rw [← Ny485.out] at ho31)); have n0_ := Aside0.mk (Kd.R_lower ho31 (below_size (by repeat (first | (with_reducible first | exact HB.out | apply below_alloc | apply pw_below_drewN | apply below_drew1) | exact HB.out)))); have n1_ := Aside0.mk (below_step (by repeat (first | (with_reducible first | exact HB.out | apply below_alloc | apply pw_below_drewN | apply below_drew1) | exact HB.out)) hb); clear HB; have HO487 := n0_; have HB := n1_; clear n0_ n1_; clear hb ho31; have hcv32 := own_string (P := Tryd.prog) Tryd.underlying22 Tryd.underlying5 Tryd.underlying9 (Kd.own_of_R HO487.out)))
                                  have n0_ := Aside0.mk (Kd.R_drew HO487.out)
                                  have n1_ := Aside0.mk (below_drew1 HB.out)
                                  clear HO487
                                  clear HB
                                  have HO487 := n0_
                                  have HB := n1_
                                  clear n0_ n1_
                                  have p24 : 0 ≤ ((ji21) : Int) := of_decide_eq_true (by first | (with_reducible assumption) | assumption)
                                  have q24 : (ji21) < (16 : Int) := of_decide_eq_true (by first | (with_reducible assumption) | assumption)
                                  have hx24 := bt_at (⟨#[48, 49, 50, 51, 52, 53, 54, 55, 56, 57, 97, 98, 99, 100, 101, 102]⟩ : ByteArray) (ji21)
                                  replace p24 := eq_true p24
                                  replace q24 := eq_true q24
                                  have p28 : 0 ≤ ((ji25) : Int) := of_decide_eq_true (by first | (with_reducible assumption) | assumption)
                                  have q28 : (ji25) < (16 : Int) := of_decide_eq_true (by first | (with_reducible assumption) | assumption)
                                  have hx28 := bt_at (⟨#[48, 49, 50, 51, 52, 53, 54, 55, 56, 57, 65, 66, 67, 68, 69, 70]⟩ : ByteArray) (ji25)
                                  replace p28 := eq_true p28
                                  replace q28 := eq_true q28
                                  refine start_ (n := 9) (S := fun w' => True) (ds := []) #[false, false, false, false, false, false, false, false, false] (by kernel_rfl) rfl rfl trivial (fun hHeld => ?_); refine with_tabW signetrylaw02_TextSpelt.tab14 signetrylaw02_TextSpelt.bits14 (fun HT_ HW_ => ?_)
                                  generalize w30.drew = w33 at HO487 HB hHeld ⊢
                                  refine pure_ (i := 0) (N := some 60) (v := ?_) (a' := ?_) #[true, false, false, false, false, false, false, false, false] rfl rfl (any_of HT_.out (by kernel_rfl)) (fun _ _ _ h => h) (Or.inl ⟨by rfl, ?_⟩) ?_ ?_
                                  rotate_left
                                  · intro w'
                                    go_simp
                                    with_reducible rfl
                                  rotate_left
                                  · simp only [Act.put, List.setIfInBounds_toArray, List.set_cons_zero, List.set_cons_succ, i64_w, i32_w]
                                    rfl
                                  refine pure_ (i := 1) (N := some 61) (v := ?_) (a' := ?_) #[true, true, false, false, false, false, false, false, false] rfl rfl (any_of HT_.out (by kernel_rfl)) (fun _ _ _ h => h) (Or.inl ⟨by rfl, ?_⟩) ?_ ?_
                                  rotate_left
                                  · intro w'
                                    go_simp
                                    with_reducible rfl
                                  rotate_left
                                  · simp only [Act.put, List.setIfInBounds_toArray, List.set_cons_zero, List.set_cons_succ, i64_w, i32_w]
                                    rfl
                                  refine pure_ (i := 3) (N := some 63) (v := ?_) (a' := ?_) #[true, true, false, true, false, false, false, false, false] rfl rfl (any_of HT_.out (by kernel_rfl)) (fun _ _ _ h => h) (Or.inl ⟨by rfl, ?_⟩) ?_ ?_
                                  rotate_left
                                  · intro w'
                                    go_simp
                                    with_reducible rfl
                                  rotate_left
                                  · simp only [Act.put, List.setIfInBounds_toArray, List.set_cons_zero, List.set_cons_succ, i64_w, i32_w]
                                    rfl
                                  refine pure_ (i := 4) (N := some 64) (v := ?_) (a' := ?_) #[true, true, false, true, true, false, false, false, false] rfl rfl (any_of HT_.out (by kernel_rfl)) (fun _ _ _ h => h) (Or.inl ⟨by rfl, ?_⟩) ?_ ?_
                                  rotate_left
                                  · intro w'
                                    go_simp
                                    with_reducible rfl
                                  rotate_left
                                  · simp only [Act.put, List.setIfInBounds_toArray, List.set_cons_zero, List.set_cons_succ, i64_w, i32_w]
                                    rfl
                                  refine take_ (i := 2) (N := some 62) (v := ?_) (a' := ?_) #[true, true, true, true, true, false, false, false, false] rfl rfl (take_ofW HT_.out HW_.out (by kernel_rfl)) (fun _ _ _ h => h) (Or.inl ⟨by rfl, ?_⟩) hHeld ?_ ?_
                                  rotate_left
                                  · intro w' _
                                    go_simp
                                    with_reducible rfl
                                  rotate_left
                                  · simp only [Act.put, List.setIfInBounds_toArray, List.set_cons_zero, List.set_cons_succ, i64_w, i32_w]
                                    rfl
                                  refine take_ (i := 5) (N := some 65) (v := ?_) (a' := ?_) #[true, true, true, true, true, true, false, false, false] rfl rfl (take_ofW HT_.out HW_.out (by kernel_rfl)) (fun _ _ _ h => h) (Or.inl ⟨by rfl, ?_⟩) hHeld ?_ ?_
                                  rotate_left
                                  · intro w' _
                                    go_simp
                                    with_reducible rfl
                                  rotate_left
                                  · simp only [Act.put, List.setIfInBounds_toArray, List.set_cons_zero, List.set_cons_succ, i64_w, i32_w]
                                    rfl
                                  refine one_ (i := 6) (N := some 66) #[true, true, true, true, true, true, true, false, false] rfl rfl (one_of HT_.out (by kernel_rfl)) (by decide) (fun K hK => ?_)
                                  refine Kd.R_lit_step (Kd.int .u8) _ 5 ?hg (N := 66) ?hd (xs := ([bt (⟨#[48, 49, 50, 51, 52, 53, 54, 55, 56, 57, 97, 98, 99, 100, 101, 102]⟩ : ByteArray) (ji21), bt (⟨#[48, 49, 50, 51, 52, 53, 54, 55, 56, 57, 65, 66, 67, 68, 69, 70]⟩ : ByteArray) (ji25)] : List Int)) (inner := [.int .u8 (bt (⟨#[48, 49, 50, 51, 52, 53, 54, 55, 56, 57, 97, 98, 99, 100, 101, 102]⟩ : ByteArray) (ji21)), .int .u8 (bt (⟨#[48, 49, 50, 51, 52, 53, 54, 55, 56, 57, 65, 66, 67, 68, 69, 70]⟩ : ByteArray) (ji25))]) (ok := fun _ => True) (okp := fun _ => True) ?hr ?hp (fun _ hk => hk) trivial (Below.refl _ _) (Nat.le_refl _) (by simp) ?_; (case hd => rfl); (case hg => rfl); (case hr => first | (go_simp; done) | (go_simp; rfl)); (case hp => exact (Reps.one (show Kd.M (Kd.int .u8) _ _ _ (bt (⟨#[48, 49, 50, 51, 52, 53, 54, 55, 56, 57, 97, 98, 99, 100, 101, 102]⟩ : ByteArray) (ji21)) [.int .u8 (bt (⟨#[48, 49, 50, 51, 52, 53, 54, 55, 56, 57, 97, 98, 99, 100, 101, 102]⟩ : ByteArray) (ji21))] from rfl) (Reps.one (show Kd.M (Kd.int .u8) _ _ _ (bt (⟨#[48, 49, 50, 51, 52, 53, 54, 55, 56, 57, 65, 66, 67, 68, 69, 70]⟩ : ByteArray) (ji25)) [.int .u8 (bt (⟨#[48, 49, 50, 51, 52, 53, 54, 55, 56, 57, 65, 66, 67, 68, 69, 70]⟩ : ByteArray) (ji25))] from rfl) (Reps.none _ _))))
                                  intro v489 w34 ho35 hb hg_ hnew_
                                  clear hg_ hnew_
                                  (first | rw [← Ny488.out] at ho35 | (simp only [Int.reduceToNat] at ho35; rw [← Ny488.out] at ho35))
                                  have n0_ := Aside0.mk (Kd.R_elder' (by (with_reducible repeat (first | apply Kd.R_alloc | apply Kd.R_drewN | apply Kd.R_drew)); exact HO487.out) (Kd.R_base ho35) hb)
                                  have n1_ := Aside0.mk (Kd.R_lower (Kd.R_new' ho35 (Kd.R_lt (by (with_reducible repeat (first | apply Kd.R_alloc | apply Kd.R_drewN | apply Kd.R_drew)); exact HO487.out))) (below_size (by repeat (first | (with_reducible first | exact HB.out | apply below_alloc | apply pw_below_drewN | apply below_drew1) | exact HB.out))))
                                  have n2_ := Aside0.mk (below_step (by repeat (first | (with_reducible first | exact HB.out | apply below_alloc | apply pw_below_drewN | apply below_drew1) | exact HB.out)) hb)
                                  clear HO487
                                  clear HB
                                  have HO487 := n0_
                                  have HO490 := n1_
                                  have HB := n2_
                                  clear n0_ n1_ n2_
                                  clear hb ho35
                                  refine hK.out _ _ trivial (fun hHeld => ?_)
                                  clear hK K
                                  refine norm_ (a' := ?_) ?_ ?_
                                  rotate_left
                                  · show Act.put _ (some 66) _ = _
                                    simp only [Act.put, List.setIfInBounds_toArray, List.set_cons_zero, List.set_cons_succ, i64_w, i32_w]
                                    rfl
                                  refine one_ (i := 7) (N := some 67) #[true, true, true, true, true, true, true, true, false] rfl rfl (one_of HT_.out (by kernel_rfl)) (by decide) (fun K hK => ?_)
                                  have hcv36 := own_string (P := Tryd.prog) Tryd.underlying22 Tryd.underlying5 Tryd.underlying9 (Kd.own_of_R HO490.out)
                                  refine value_ (w1 := ?_) (v := ?_) (by rfl) rfl ?_ ?_
                                  rotate_left 2
                                  · go_simp
                                    constructor
                                    · rfl
                                    · rfl
                                  clear hcv36
                                  refine hK.out _ _ trivial (fun hHeld => ?_)
                                  clear hK K
                                  refine norm_ (a' := ?_) ?_ ?_
                                  rotate_left
                                  · show Act.put _ (some 67) _ = _
                                    simp only [Act.put, List.setIfInBounds_toArray, List.set_cons_zero, List.set_cons_succ, i64_w, i32_w]
                                    rfl
                                  refine pure_ (i := 8) (N := some 13) (v := ?_) (a' := ?_) #[true, true, true, true, true, true, true, true, true] rfl rfl (any_of HT_.out (by kernel_rfl)) (fun _ _ _ h => h) (Or.inl ⟨by rfl, ?_⟩) ?_ ?_
                                  rotate_left
                                  · intro w'
                                    go_simp
                                    with_reducible rfl
                                  rotate_left
                                  · simp only [Act.put, List.setIfInBounds_toArray, List.set_cons_zero, List.set_cons_succ, i64_w, i32_w]
                                    rfl
                                  refine done_ (done_of HT_.out (by kernel_rfl)) ?_
                                  go_upto_region 15 with (fail)
                                  go_cut [14] (fun v14 wc => ∃ (kq : Nat) (x14_28 : Bool), v14 = .bool x14_28 ∧ Aside0 (signetrylaw02_TextSpelt.j3 kq (l0.take ((ji4) : Int).toNat) l1 x7_6 x8_2 x9_2 x10_10 (rd (l0.take ((ji4) : Int).toNat) x9_2) ((⟨#[92]⟩ : ByteArray) ++ (strOfNums y485)) (strOfNums y488) x14_28 = some r) ∧ Aside0 (kq ≤ kj10) ∧ Aside0 (Below w.heap.size w wc))
                                  case first =>
                                    have H := HC29.out
                                    clear HC29
                                    by_cases c37 : (rd (l0.take ((ji4) : Int).toNat) x9_2) ≥ 32
                                    · rw [if_pos c37] at H
                                      have c37b0 : decide (32 ≤ (rd (l0.take ((ji4) : Int).toNat) x9_2)) = true := decide_eq_true c37
                                      clear c37
                                      (first | rw [c37b0] | (simp only [i64_w, i32_w]; rw [c37b0]) | skip)
                                      by_cases c38 : (rd (l0.take ((ji4) : Int).toNat) x9_2) = 92
                                      · rw [if_pos c38] at H
                                        have c38b0 : ((rd (l0.take ((ji4) : Int).toNat) x9_2) == 92) = true := beq_iff_eq.mpr c38
                                        have c38b1 : ((rd (l0.take ((ji4) : Int).toNat) x9_2) != 92) = false := bne_eq_false_iff_eq.mpr c38
                                        clear c38
                                        have H' := Aside0.mk H
                                        clear H
                                        go_wp2
                                        go_meet
                                        case rel => exact ⟨_, (false), (by first | rfl | (simp; done) | (simp [*]; done)), H', ⟨by have := HJ6.out; have := HK2.out; have := HJ10.out; first | omega | exact Nat.le_refl _⟩, ⟨by repeat (first | (with_reducible first | exact HB.out | apply below_alloc | apply pw_below_drewN | apply below_drew1) | exact HB.out)⟩⟩
                                      · rw [if_neg c38] at H
                                        have c38b0 : ((rd (l0.take ((ji4) : Int).toNat) x9_2) == 92) = false := beq_eq_false_iff_ne.mpr c38
                                        have c38b1 : ((rd (l0.take ((ji4) : Int).toNat) x9_2) != 92) = true := bne_iff_ne.mpr c38
                                        by_cases c39 : 0 < (x7_6.size : Int)
                                        · rw [if_pos c39] at H
                                          have c39b0 : decide (0 < (x7_6.size : Int)) = true := decide_eq_true c39
                                          have c39b1 : decide (0 < x7_6.size) = true := decide_eq_true (by omega)
                                          clear c39
                                          have H' := Aside0.mk H
                                          clear H
                                          have p40 : 0 ≤ (0 : Int) := (by omega)
                                          have q40 : 0 < x7_6.size := (by have : (0 : Int) < (x7_6.size : Int) := of_decide_eq_true (by first | (with_reducible assumption) | assumption); omega)
                                          have hx40 : ∀ h : 0 < x7_6.size, ((x7_6[0]'h).toNat : Int) = bt x7_6 0 := bt_at x7_6 0
                                          clear p40
                                          have qi40 : (0 < (x7_6.size : Int)) = True := eq_true (of_decide_eq_true (by first | (with_reducible assumption) | assumption))
                                          replace q40 := eq_true q40
                                          go_wp2
                                          go_meet
                                          case rel => exact ⟨_, (((rd (l0.take ((ji4) : Int).toNat) x9_2) != (bt x7_6 0))), (by first | rfl | (simp; done) | (simp only [← hji4] <;> (first | rfl | simp)) | (simp [*]; done)), H', ⟨by have := HJ6.out; have := HK2.out; have := HJ10.out; first | omega | exact Nat.le_refl _⟩, ⟨by repeat (first | (with_reducible first | exact HB.out | apply below_alloc | apply pw_below_drewN | apply below_drew1) | exact HB.out)⟩⟩
                                        · rw [if_neg c39] at H
                                          exact absurd H (by simp)
                                    · rw [if_neg c37] at H
                                      have c37b0 : decide (32 ≤ (rd (l0.take ((ji4) : Int).toNat) x9_2)) = false := decide_eq_false c37
                                      clear c37
                                      (first | rw [c37b0] | (simp only [i64_w, i32_w]; rw [c37b0]) | skip)
                                      have H' := Aside0.mk H
                                      clear H
                                      go_wp2
                                      go_meet
                                      case rel => exact ⟨_, (false), (by first | rfl | (simp; done) | (simp [*]; done)), H', ⟨by have := HJ6.out; have := HK2.out; have := HJ10.out; first | omega | exact Nat.le_refl _⟩, ⟨by repeat (first | (with_reducible first | exact HB.out | apply below_alloc | apply pw_below_drewN | apply below_drew1) | exact HB.out)⟩⟩
                                  case rest =>
                                    clear HC29
                                    try clear c1
                                    try clear c2
                                    try clear p2
                                    try clear q2
                                    try clear hx2
                                    try clear c3
                                    try clear hcv3
                                    try clear p4
                                    try clear q4
                                    try clear hx4
                                    try clear qi4
                                    try clear c5
                                    try clear c5b0
                                    try clear c5b1
                                    try clear c6
                                    try clear c6b0
                                    try clear c6b1
                                    try clear c9
                                    try clear c10
                                    try clear c10b0
                                    try clear c12
                                    try clear c12b0
                                    try clear c12b1
                                    try clear c13
                                    try clear c13b0
                                    try clear c13b1
                                    try clear c13b2
                                    try clear c15
                                    try clear c15b0
                                    try clear c16
                                    try clear c16b0
                                    try clear c18
                                    try clear c18b0
                                    try clear c19
                                    try clear c19b0
                                    try clear c20
                                    try clear c20b0
                                    try clear c20b1
                                    try clear c20b2
                                    try clear c22
                                    try clear c22b0
                                    try clear c23
                                    try clear c23b0
                                    try clear p24
                                    try clear q24
                                    try clear hx24
                                    try clear c26
                                    try clear c26b0
                                    try clear c27
                                    try clear c27b0
                                    try clear p28
                                    try clear q28
                                    try clear hx28
                                    try clear hcv32
                                    try clear c33
                                    try clear hcv36
                                    try clear c37
                                    try clear c37b0
                                    try clear c38
                                    try clear c38b0
                                    try clear c38b1
                                    try clear c39
                                    try clear c39b0
                                    try clear c39b1
                                    try clear p40
                                    try clear q40
                                    try clear hx40
                                    try clear qi40
                                    try clear hx482_0
                                    try clear hx484_0
                                    try clear p2
                                    try clear p24
                                    try clear p28
                                    try clear p4
                                    try clear p40
                                    try clear p482
                                    try clear p484
                                    try clear q24
                                    try clear q28
                                    try clear q4
                                    try clear q40
                                    try clear q482
                                    try clear q484
                                    obtain ⟨kq, x14_28, rfl, HA, HJ28, HB⟩ := hcut
                                    cases kq with
                                    | zero => exact absurd HA.out (by simp [signetrylaw02_TextSpelt.j3])
                                    | succ kj28 =>
                                      have H := HA.out
                                      clear HA
                                      simp only [signetrylaw02_TextSpelt.j3] at H
                                      by_cases c41 : x10_10 = 1
                                      · rw [if_pos c41] at H
                                        have c41b0 : (x10_10 == 1) = true := beq_iff_eq.mpr c41
                                        have c41b1 : (x10_10 != 1) = false := bne_eq_false_iff_eq.mpr c41
                                        clear c41
                                        by_cases c42 : x8_2.size + 2 ≤ 9223372036854775807
                                        · rw [if_pos c42] at H
                                          have c42b0 := eq_true c42
                                          have c42b1 : decide (x8_2.size + 2 ≤ 9223372036854775807) = true := decide_eq_true c42
                                          try have c42b2 : (9223372036854775807 < x8_2.size + 2) = False := eq_false (Nat.not_lt.2 c42)
                                          by_cases c43 : (x8_2 ++ (⟨#[92, 120]⟩ : ByteArray)).size + (strOfNums y488).size ≤ 9223372036854775807
                                          · rw [if_pos c43] at H
                                            have c43b0 := eq_true c43
                                            have c43b1 : decide ((x8_2 ++ (⟨#[92, 120]⟩ : ByteArray)).size + (strOfNums y488).size ≤ 9223372036854775807) = true := decide_eq_true c43
                                            try have c43b2 : (9223372036854775807 < (x8_2 ++ (⟨#[92, 120]⟩ : ByteArray)).size + (strOfNums y488).size) = False := eq_false (Nat.not_lt.2 c43)
                                            have H' := Aside0.mk H
                                            clear H
                                            go_wp2
                                            go_roundg kj28
                                            case measure => have := HJ6.out; have := HK2.out; have := HJ10.out; have := HJ28.out; omega
                                            case rel => exact ⟨((x8_2 ++ (⟨#[92, 120]⟩ : ByteArray)) ++ (strOfNums y488)), (wrap64 (x9_2 + 1)), (by first | rfl | (simp; done) | (simp [*]; done)), (by first | rfl | (simp; done) | (simp [*]; done)), H', ⟨by have := HJ6.out; have := HK2.out; have := HJ10.out; have := HJ28.out; omega⟩, ⟨by repeat (first | (with_reducible first | exact HB.out | apply below_alloc | apply pw_below_drewN | apply below_drew1) | exact HB.out)⟩⟩
                                          · rw [if_neg c43] at H
                                            exact absurd H (by simp)
                                        · rw [if_neg c42] at H
                                          exact absurd H (by simp)
                                      · rw [if_neg c41] at H
                                        have c41b0 : (x10_10 == 1) = false := beq_eq_false_iff_ne.mpr c41
                                        have c41b1 : (x10_10 != 1) = true := bne_iff_ne.mpr c41
                                        by_cases c44 : x10_10 = 2
                                        · rw [if_pos c44] at H
                                          have c44b0 : (x10_10 == 2) = true := beq_iff_eq.mpr c44
                                          have c44b1 : (x10_10 != 2) = false := bne_eq_false_iff_eq.mpr c44
                                          clear c44
                                          by_cases c45 : x8_2.size + 2 ≤ 9223372036854775807
                                          · rw [if_pos c45] at H
                                            have c45b0 := eq_true c45
                                            have c45b1 : decide (x8_2.size + 2 ≤ 9223372036854775807) = true := decide_eq_true c45
                                            try have c45b2 : (9223372036854775807 < x8_2.size + 2) = False := eq_false (Nat.not_lt.2 c45)
                                            by_cases c46 : (x8_2 ++ (⟨#[92, 88]⟩ : ByteArray)).size + (strOfNums y488).size ≤ 9223372036854775807
                                            · rw [if_pos c46] at H
                                              have c46b0 := eq_true c46
                                              have c46b1 : decide ((x8_2 ++ (⟨#[92, 88]⟩ : ByteArray)).size + (strOfNums y488).size ≤ 9223372036854775807) = true := decide_eq_true c46
                                              try have c46b2 : (9223372036854775807 < (x8_2 ++ (⟨#[92, 88]⟩ : ByteArray)).size + (strOfNums y488).size) = False := eq_false (Nat.not_lt.2 c46)
                                              have H' := Aside0.mk H
                                              clear H
                                              go_wp2
                                              go_roundg kj28
                                              case measure => have := HJ6.out; have := HK2.out; have := HJ10.out; have := HJ28.out; omega
                                              case rel => exact ⟨((x8_2 ++ (⟨#[92, 88]⟩ : ByteArray)) ++ (strOfNums y488)), (wrap64 (x9_2 + 1)), (by first | rfl | (simp; done) | (simp [*]; done)), (by first | rfl | (simp; done) | (simp [*]; done)), H', ⟨by have := HJ6.out; have := HK2.out; have := HJ10.out; have := HJ28.out; omega⟩, ⟨by repeat (first | (with_reducible first | exact HB.out | apply below_alloc | apply pw_below_drewN | apply below_drew1) | exact HB.out)⟩⟩
                                            · rw [if_neg c46] at H
                                              exact absurd H (by simp)
                                          · rw [if_neg c45] at H
                                            exact absurd H (by simp)
                                        · rw [if_neg c44] at H
                                          have c44b0 : (x10_10 == 2) = false := beq_eq_false_iff_ne.mpr c44
                                          have c44b1 : (x10_10 != 2) = true := bne_iff_ne.mpr c44
                                          by_cases c47 : x10_10 = 3
                                          · rw [if_pos c47] at H
                                            have c47b0 : (x10_10 == 3) = true := beq_iff_eq.mpr c47
                                            have c47b1 : (x10_10 != 3) = false := bne_eq_false_iff_eq.mpr c47
                                            clear c47
                                            by_cases c48 : x14_28 = true
                                            · subst c48
                                              have H1 : ((some (([(rd (l0.take ((ji4) : Int).toNat) x9_2)] : List Int) : List Int)).bind fun y491 => (if x8_2.size + (strOfNums y491).size ≤ 9223372036854775807 then (signetrylaw02_TextSpelt.l0 kj28 (l0.take ((ji4) : Int).toNat) l1 x7_6 (x8_2 ++ (strOfNums y491)) (wrap64 (x9_2 + 1))) else (none))) = some r := by rw [if_pos rfl] at H; exact H
                                              clear H
                                              have H := H1
                                              clear H1
                                              obtain ⟨y491, hy491⟩ : ∃ y_ : List Int, y_ = (([(rd (l0.take ((ji4) : Int).toNat) x9_2)] : List Int)) := ⟨_, rfl⟩
                                              replace H : (if x8_2.size + (strOfNums y491).size ≤ 9223372036854775807 then (signetrylaw02_TextSpelt.l0 kj28 (l0.take ((ji4) : Int).toNat) l1 x7_6 (x8_2 ++ (strOfNums y491)) (wrap64 (x9_2 + 1))) else (none)) = some r := by first | (rw [hy491]; with_reducible exact H) | (have H2_ := (Option.bind_some _ _).symm.trans H; rw [hy491]; with_reducible exact H2_) | (have H2_ := (Option.bind_some _ _).symm.trans H; with_reducible exact H2_) | with_reducible exact H | (rw [hy491]; exact H) | exact H
                                              have Ny491 := Aside0.mk hy491
                                              clear hy491
                                              by_cases c49 : x8_2.size + (strOfNums y491).size ≤ 9223372036854775807
                                              · rw [if_pos c49] at H
                                                have c49b0 := eq_true c49
                                                have c49b1 : decide (x8_2.size + (strOfNums y491).size ≤ 9223372036854775807) = true := decide_eq_true c49
                                                try have c49b2 : (9223372036854775807 < x8_2.size + (strOfNums y491).size) = False := eq_false (Nat.not_lt.2 c49)
                                                have H' := Aside0.mk H
                                                clear H
                                                go_wp2_with (first | ((with_reducible refine gate_dst (N := 105) rfl ?_); (try (refine gate_guard (by rfl) ?_; dsimp only)); refine Kd.R_lit (Kd.int .u8) _ 5 ?hg (N := 105) ?hd (xs := ([(rd (l0.take ((ji4) : Int).toNat) x9_2)] : List Int)) (inner := [.int .u8 (rd (l0.take ((ji4) : Int).toNat) x9_2)]) (ok := fun _ => True) (okp := fun _ => True) ?hr ?hp (fun _ hk => hk) trivial (Below.refl _ _) (Nat.le_refl _) (by simp) ?_; (case hd => rfl); (case hg => rfl); (case hr => first | (go_simp; done) | (go_simp; rfl)); (case hp => exact (Reps.one (show Kd.M (Kd.int .u8) _ _ _ (rd (l0.take ((ji4) : Int).toNat) x9_2) [.int .u8 (rd (l0.take ((ji4) : Int).toNat) x9_2)] from rfl) (Reps.none _ _))); intro v492 w50 ho51 hb hg_ hnew_; clear hg_ hnew_; (first | rw [← Ny491.out] at ho51 | (simp only [Int.reduceToNat] at ho51; rw [← Ny491.out] at ho51)); have n0_ := Aside0.mk (Kd.R_lower ho51 (below_size (by repeat (first | (with_reducible first | exact HB.out | apply below_alloc | apply pw_below_drewN | apply below_drew1) | exact HB.out)))); have n1_ := Aside0.mk (below_step (by repeat (first | (with_reducible first | exact HB.out | apply below_alloc | apply pw_below_drewN | apply below_drew1) | exact HB.out)) hb); clear HB; have HO493 := n0_; have HB := n1_; clear n0_ n1_; clear hb ho51; have hcv52 := own_string (P := Tryd.prog) Tryd.underlying22 Tryd.underlying5 Tryd.underlying9 (Kd.own_of_R HO493.out)))
                                                go_roundg kj28
                                                case measure => have := HJ6.out; have := HK2.out; have := HJ10.out; have := HJ28.out; omega
                                                case rel => exact ⟨(x8_2 ++ (strOfNums y491)), (wrap64 (x9_2 + 1)), (by first | rfl | (simp; done) | (simp [*]; done)), (by first | rfl | (simp; done) | (simp [*]; done)), H', ⟨by have := HJ6.out; have := HK2.out; have := HJ10.out; have := HJ28.out; omega⟩, ⟨by repeat (first | (with_reducible first | exact HB.out | apply below_alloc | apply pw_below_drewN | apply below_drew1) | exact HB.out)⟩⟩
                                              · rw [if_neg c49] at H
                                                exact absurd H (by simp)
                                            · replace c48 := Bool.eq_false_iff.mpr c48
                                              subst c48
                                              have H1 : (if x8_2.size + ((⟨#[92]⟩ : ByteArray) ++ (strOfNums y485)).size ≤ 9223372036854775807 then (signetrylaw02_TextSpelt.l0 kj28 (l0.take ((ji4) : Int).toNat) l1 x7_6 (x8_2 ++ ((⟨#[92]⟩ : ByteArray) ++ (strOfNums y485))) (wrap64 (x9_2 + 1))) else (none)) = some r := by rw [if_neg (show ¬ (false = true) by decide)] at H; exact H
                                              clear H
                                              have H := H1
                                              clear H1
                                              by_cases c53 : x8_2.size + ((⟨#[92]⟩ : ByteArray) ++ (strOfNums y485)).size ≤ 9223372036854775807
                                              · rw [if_pos c53] at H
                                                have c53b0 := eq_true c53
                                                have c53b1 : decide (x8_2.size + ((⟨#[92]⟩ : ByteArray) ++ (strOfNums y485)).size ≤ 9223372036854775807) = true := decide_eq_true c53
                                                try have c53b2 : (9223372036854775807 < x8_2.size + ((⟨#[92]⟩ : ByteArray) ++ (strOfNums y485)).size) = False := eq_false (Nat.not_lt.2 c53)
                                                have H' := Aside0.mk H
                                                clear H
                                                go_wp2
                                                go_roundg kj28
                                                case measure => have := HJ6.out; have := HK2.out; have := HJ10.out; have := HJ28.out; omega
                                                case rel => exact ⟨(x8_2 ++ ((⟨#[92]⟩ : ByteArray) ++ (strOfNums y485))), (wrap64 (x9_2 + 1)), (by first | rfl | (simp; done) | (simp [*]; done)), (by first | rfl | (simp; done) | (simp [*]; done)), H', ⟨by have := HJ6.out; have := HK2.out; have := HJ10.out; have := HJ28.out; omega⟩, ⟨by repeat (first | (with_reducible first | exact HB.out | apply below_alloc | apply pw_below_drewN | apply below_drew1) | exact HB.out)⟩⟩
                                              · rw [if_neg c53] at H
                                                exact absurd H (by simp)
                                          · rw [if_neg c47] at H
                                            have c47b0 : (x10_10 == 3) = false := beq_eq_false_iff_ne.mpr c47
                                            have c47b1 : (x10_10 != 3) = true := bne_iff_ne.mpr c47
                                            by_cases c54 : x8_2.size + ((⟨#[92]⟩ : ByteArray) ++ (strOfNums y485)).size ≤ 9223372036854775807
                                            · rw [if_pos c54] at H
                                              have c54b0 := eq_true c54
                                              have c54b1 : decide (x8_2.size + ((⟨#[92]⟩ : ByteArray) ++ (strOfNums y485)).size ≤ 9223372036854775807) = true := decide_eq_true c54
                                              try have c54b2 : (9223372036854775807 < x8_2.size + ((⟨#[92]⟩ : ByteArray) ++ (strOfNums y485)).size) = False := eq_false (Nat.not_lt.2 c54)
                                              have H' := Aside0.mk H
                                              clear H
                                              go_wp2
                                              go_roundg kj28
                                              case measure => have := HJ6.out; have := HK2.out; have := HJ10.out; have := HJ28.out; omega
                                              case rel => exact ⟨(x8_2 ++ ((⟨#[92]⟩ : ByteArray) ++ (strOfNums y485))), (wrap64 (x9_2 + 1)), (by first | rfl | (simp; done) | (simp [*]; done)), (by first | rfl | (simp; done) | (simp [*]; done)), H', ⟨by have := HJ6.out; have := HK2.out; have := HJ10.out; have := HJ28.out; omega⟩, ⟨by repeat (first | (with_reducible first | exact HB.out | apply below_alloc | apply pw_below_drewN | apply below_drew1) | exact HB.out)⟩⟩
                                            · rw [if_neg c54] at H
                                              exact absurd H (by simp)
                                · rw [if_neg c27] at H
                                  exact absurd H (by simp)
                              · rw [if_neg c26] at H
                                exact absurd H (by simp)
                            · rw [if_neg c23] at H
                              exact absurd H (by simp)
                          · rw [if_neg c22] at H
                            exact absurd H (by simp)
                        · rw [if_neg c20] at H
                          exact absurd H (by simp)
                      · rw [if_neg c19] at H
                        exact absurd H (by simp)
                    · rw [if_neg c18] at H
                      exact absurd H (by simp)
              · rw [if_neg c10] at H
                have c10b0 : decide (x9_2 < ((l0.take ((ji4) : Int).toNat).length : Int)) = false := decide_eq_false c10
                clear c10
                by_cases c55 : x8_2.size + x7_6.size ≤ 9223372036854775807
                · rw [if_pos c55] at H
                  have c55b0 := eq_true c55
                  have c55b1 : decide (x8_2.size + x7_6.size ≤ 9223372036854775807) = true := decide_eq_true c55
                  try have c55b2 : (9223372036854775807 < x8_2.size + x7_6.size) = False := eq_false (Nat.not_lt.2 c55)
                  replace H := Option.bind_eq_some_iff.mp H
                  obtain ⟨⟨t494, t495⟩, A560, H⟩ := H
                  replace H : ((text_Unquote.f k2 x8_2).bind fun bt498 => (if t495 = 0 then ((signetryref00_EqBytes.f t494 (l0.take ((ji4) : Int).toNat)).bind fun t502 => (if t502 = true then (if bt498.2 = 21 then ((signetrylaw02_works.f k2).bind fun t503 => (some t503)) else (if (x8_2.size : Int) > 1 then ((signetrylaw02_works.f k2).bind fun t504 => (some t504)) else (none))) else (none))) else (none))) = some r := H
                  have A56 := Aside0.mk A560
                  clear A560
                  replace H := Option.bind_eq_some_iff.mp H
                  obtain ⟨⟨t498, t499⟩, A570, H⟩ := H
                  replace H : (if t495 = 0 then ((signetryref00_EqBytes.f t494 (l0.take ((ji4) : Int).toNat)).bind fun t502 => (if t502 = true then (if t499 = 21 then ((signetrylaw02_works.f k2).bind fun t503 => (some t503)) else (if (x8_2.size : Int) > 1 then ((signetrylaw02_works.f k2).bind fun t504 => (some t504)) else (none))) else (none))) else (none)) = some r := H
                  have A57 := Aside0.mk A570
                  clear A570
                  by_cases c58 : t495 = 0
                  · rw [if_pos c58] at H
                    have c58b0 : (t495 == 0) = true := beq_iff_eq.mpr c58
                    have c58b1 : (t495 != 0) = false := bne_eq_false_iff_eq.mpr c58
                    clear c58
                    replace H := Option.bind_eq_some_iff.mp H
                    obtain ⟨t502, A590, H⟩ := H
                    replace H : (if t502 = true then (if t499 = 21 then ((signetrylaw02_works.f k2).bind fun t503 => (some t503)) else (if (x8_2.size : Int) > 1 then ((signetrylaw02_works.f k2).bind fun t504 => (some t504)) else (none))) else (none)) = some r := H
                    have A59 := Aside0.mk A590
                    clear A590
                    by_cases c60 : t502 = true
                    · subst c60
                      have H1 : (if t499 = 21 then ((signetrylaw02_works.f k2).bind fun t503 => (some t503)) else (if (x8_2.size : Int) > 1 then ((signetrylaw02_works.f k2).bind fun t504 => (some t504)) else (none))) = some r := by rw [if_pos rfl] at H; exact H
                      clear H
                      have H := H1
                      clear H1
                      by_cases c61 : t499 = 21
                      · rw [if_pos c61] at H
                        have c61b0 : (t499 == 21) = true := beq_iff_eq.mpr c61
                        have c61b1 : (t499 != 21) = false := bne_eq_false_iff_eq.mpr c61
                        clear c61
                        replace H := Option.bind_eq_some_iff.mp H
                        obtain ⟨t503, A620, H⟩ := H
                        replace H : (some t503) = some r := H
                        have A62 := Aside0.mk A620
                        clear A620
                        obtain rfl := Option.some.inj H
                        go_wp2_with (first | ((with_reducible refine gate_callee (f := 28) rfl ?_); refine goesL_ (some 112) rfl rfl Tryd.func28 (by kernel_rfl) rfl #[.string (x8_2 ++ x7_6)] rfl (by (try simp only [List.map_toArray, List.map_cons, List.map_nil]); first | done | rfl | (simp only [List.length_drop, List.length_take]; rfl)) ?_; (with_reducible refine (text_Unquote.calls k2 (x8_2 ++ x7_6) t494 t495 _ A56.out (HTB_.below (by repeat (first | (with_reducible first | exact HB.out | apply below_alloc | apply pw_below_drewN | apply below_drew1) | exact HB.out)))).mono ?_); rintro e w63 ⟨v496, rfl, ho0, hb⟩; refine ⟨_, rfl, ?_⟩; have n0_ := Aside0.mk (Kd.R_lower ho0 (below_size (by repeat (first | (with_reducible first | exact HB.out | apply below_alloc | apply pw_below_drewN | apply below_drew1) | exact HB.out)))); have n1_ := Aside0.mk (below_step (by repeat (first | (with_reducible first | exact HB.out | apply below_alloc | apply pw_below_drewN | apply below_drew1) | exact HB.out)) hb); clear HB; have HO497 := n0_; have HB := n1_; clear n0_ n1_; (try clear hb); (try clear hb2); (try clear hk); (try clear hi); (try clear ho0)) | ((with_reducible refine gate_callee (f := 28) rfl ?_); refine goesL_ (some 117) rfl rfl Tryd.func28 (by kernel_rfl) rfl #[.string x8_2] rfl (by (try simp only [List.map_toArray, List.map_cons, List.map_nil]); first | done | rfl | (simp only [List.length_drop, List.length_take]; rfl)) ?_; (with_reducible refine (text_Unquote.calls k2 x8_2 t498 t499 _ A57.out (HTB_.below (by repeat (first | (with_reducible first | exact HB.out | apply below_alloc | apply pw_below_drewN | apply below_drew1) | exact HB.out)))).mono ?_); rintro e w64 ⟨v500, rfl, ho0, hb⟩; refine ⟨_, rfl, ?_⟩; have n0_ := Aside0.mk (Kd.R_elder' (by (with_reducible repeat (first | apply Kd.R_alloc | apply Kd.R_drewN | apply Kd.R_drew)); exact HO497.out) (Kd.R_base ho0) hb); have n1_ := Aside0.mk (Kd.R_lower (Kd.R_new' ho0 (Kd.R_lt (by (with_reducible repeat (first | apply Kd.R_alloc | apply Kd.R_drewN | apply Kd.R_drew)); exact HO497.out))) (below_size (by repeat (first | (with_reducible first | exact HB.out | apply below_alloc | apply pw_below_drewN | apply below_drew1) | exact HB.out)))); have n2_ := Aside0.mk (below_step (by repeat (first | (with_reducible first | exact HB.out | apply below_alloc | apply pw_below_drewN | apply below_drew1) | exact HB.out)) hb); clear HO497; clear HB; have HO497 := n0_; have HO501 := n1_; have HB := n2_; clear n0_ n1_ n2_; (try clear hb); (try clear hb2); (try clear hk); (try clear hi); (try clear ho0); obtain ⟨Ao65, co65, eo65⟩ := Kd.R_slice HO497.out; subst eo65) | (go_at_call 18; refine calls_of_args (args' := #[.slice Ao65 t494.length co65, .slice A0 (l0.take ((ji4) : Int).toNat).length c0]) (by first | (rw [show (l0.take ((ji4) : Int).toNat).length = (ji4).toNat from (by rw [List.length_take]; have h_ : ((ji4) : Int) ≤ (l0.length : Int) := of_decide_eq_true (by first | (with_reducible assumption) | assumption); omega)] <;> rfl) | ((try have hl0_ := (show (l0.take ((ji4) : Int).toNat).length = (ji4).toNat from (by rw [List.length_take]; have h_ : ((ji4) : Int) ≤ (l0.length : Int) := of_decide_eq_true (by first | (with_reducible assumption) | assumption); omega))); (try simp only [wrap64] at hji4); simp only [Array.mk.injEq, List.cons.injEq, Value.int.injEq, Value.slice.injEq, and_true, true_and]; omega) | rfl) ?_; (with_reducible refine (signetryref00_EqBytes.calls _ _ t494 _ _ (l0.take ((ji4) : Int).toNat) true _ ?side1 ?side2 ?side3 ?side4 A59.out).mono ?_); (case side1 => repeat (first | exact (Kd.R_reads' HO497.out).2.2 | (with_reducible refine Kd.C_alloc ?_ _) | (with_reducible refine Kd.C_drewN ?_ _) | (with_reducible refine Kd.C_drew ?_))); (case side2 => exact (Kd.R_reads' HO497.out).2.1); (case side3 => repeat (first | exact (Kd.C_below HR481.out HB.out) | (with_reducible refine Kd.C_alloc ?_ _) | (with_reducible refine Kd.C_drewN ?_ _) | (with_reducible refine Kd.C_drew ?_))); (case side4 => exact HC481.out); rintro e w' ⟨rfl, ⟨nd, rfl⟩⟩) | (go_at_call 21; (with_reducible refine (signetrylaw02_works.calls k2  t503 _ A62.out (HTB_.below (by repeat (first | (with_reducible first | exact HB.out | apply below_alloc | apply pw_below_drewN | apply below_drew1) | exact HB.out)))).mono ?_); rintro e w66 ⟨rfl, hb⟩; have n0_ := Aside0.mk (Kd.R_below (by (with_reducible repeat (first | apply Kd.R_alloc | apply Kd.R_drewN | apply Kd.R_drew)); exact HO497.out) hb); have n1_ := Aside0.mk (Kd.R_below (by (with_reducible repeat (first | apply Kd.R_alloc | apply Kd.R_drewN | apply Kd.R_drew)); exact HO501.out) hb); have n2_ := Aside0.mk (below_step (by repeat (first | (with_reducible first | exact HB.out | apply below_alloc | apply pw_below_drewN | apply below_drew1) | exact HB.out)) hb); clear HO497; clear HO501; clear HB; have HO497 := n0_; have HO501 := n1_; have HB := n2_; clear n0_ n1_ n2_; (try clear hb); (try clear hb2); (try clear hk); (try clear hi)))
                        go_ret
                        exact ⟨by first | rfl | (simp [errW_none, errW_some] <;> rfl) | (simp only [← hji4]; first | rfl | (simp [errW_none, errW_some] <;> rfl)) | (simp [*, errW_none, errW_some] <;> rfl), by repeat (first | (with_reducible first | exact HB.out | apply below_alloc | apply pw_below_drewN | apply below_drew1) | exact HB.out)⟩
                      · rw [if_neg c61] at H
                        have c61b0 : (t499 == 21) = false := beq_eq_false_iff_ne.mpr c61
                        have c61b1 : (t499 != 21) = true := bne_iff_ne.mpr c61
                        by_cases c67 : (x8_2.size : Int) > 1
                        · rw [if_pos c67] at H
                          have c67b0 : decide (1 < (x8_2.size : Int)) = true := decide_eq_true c67
                          have c67b1 : decide (1 < x8_2.size) = true := decide_eq_true (by omega)
                          clear c67
                          replace H := Option.bind_eq_some_iff.mp H
                          obtain ⟨t504, A680, H⟩ := H
                          replace H : (some t504) = some r := H
                          have A68 := Aside0.mk A680
                          clear A680
                          obtain rfl := Option.some.inj H
                          go_wp2_with (first | ((with_reducible refine gate_callee (f := 28) rfl ?_); refine goesL_ (some 112) rfl rfl Tryd.func28 (by kernel_rfl) rfl #[.string (x8_2 ++ x7_6)] rfl (by (try simp only [List.map_toArray, List.map_cons, List.map_nil]); first | done | rfl | (simp only [List.length_drop, List.length_take]; rfl)) ?_; (with_reducible refine (text_Unquote.calls k2 (x8_2 ++ x7_6) t494 t495 _ A56.out (HTB_.below (by repeat (first | (with_reducible first | exact HB.out | apply below_alloc | apply pw_below_drewN | apply below_drew1) | exact HB.out)))).mono ?_); rintro e w69 ⟨v496, rfl, ho0, hb⟩; refine ⟨_, rfl, ?_⟩; have n0_ := Aside0.mk (Kd.R_lower ho0 (below_size (by repeat (first | (with_reducible first | exact HB.out | apply below_alloc | apply pw_below_drewN | apply below_drew1) | exact HB.out)))); have n1_ := Aside0.mk (below_step (by repeat (first | (with_reducible first | exact HB.out | apply below_alloc | apply pw_below_drewN | apply below_drew1) | exact HB.out)) hb); clear HB; have HO497 := n0_; have HB := n1_; clear n0_ n1_; (try clear hb); (try clear hb2); (try clear hk); (try clear hi); (try clear ho0)) | ((with_reducible refine gate_callee (f := 28) rfl ?_); refine goesL_ (some 117) rfl rfl Tryd.func28 (by kernel_rfl) rfl #[.string x8_2] rfl (by (try simp only [List.map_toArray, List.map_cons, List.map_nil]); first | done | rfl | (simp only [List.length_drop, List.length_take]; rfl)) ?_; (with_reducible refine (text_Unquote.calls k2 x8_2 t498 t499 _ A57.out (HTB_.below (by repeat (first | (with_reducible first | exact HB.out | apply below_alloc | apply pw_below_drewN | apply below_drew1) | exact HB.out)))).mono ?_); rintro e w70 ⟨v500, rfl, ho0, hb⟩; refine ⟨_, rfl, ?_⟩; have n0_ := Aside0.mk (Kd.R_elder' (by (with_reducible repeat (first | apply Kd.R_alloc | apply Kd.R_drewN | apply Kd.R_drew)); exact HO497.out) (Kd.R_base ho0) hb); have n1_ := Aside0.mk (Kd.R_lower (Kd.R_new' ho0 (Kd.R_lt (by (with_reducible repeat (first | apply Kd.R_alloc | apply Kd.R_drewN | apply Kd.R_drew)); exact HO497.out))) (below_size (by repeat (first | (with_reducible first | exact HB.out | apply below_alloc | apply pw_below_drewN | apply below_drew1) | exact HB.out)))); have n2_ := Aside0.mk (below_step (by repeat (first | (with_reducible first | exact HB.out | apply below_alloc | apply pw_below_drewN | apply below_drew1) | exact HB.out)) hb); clear HO497; clear HB; have HO497 := n0_; have HO501 := n1_; have HB := n2_; clear n0_ n1_ n2_; (try clear hb); (try clear hb2); (try clear hk); (try clear hi); (try clear ho0); obtain ⟨Ao71, co71, eo71⟩ := Kd.R_slice HO497.out; subst eo71) | (go_at_call 18; refine calls_of_args (args' := #[.slice Ao71 t494.length co71, .slice A0 (l0.take ((ji4) : Int).toNat).length c0]) (by first | (rw [show (l0.take ((ji4) : Int).toNat).length = (ji4).toNat from (by rw [List.length_take]; have h_ : ((ji4) : Int) ≤ (l0.length : Int) := of_decide_eq_true (by first | (with_reducible assumption) | assumption); omega)] <;> rfl) | ((try have hl0_ := (show (l0.take ((ji4) : Int).toNat).length = (ji4).toNat from (by rw [List.length_take]; have h_ : ((ji4) : Int) ≤ (l0.length : Int) := of_decide_eq_true (by first | (with_reducible assumption) | assumption); omega))); (try simp only [wrap64] at hji4); simp only [Array.mk.injEq, List.cons.injEq, Value.int.injEq, Value.slice.injEq, and_true, true_and]; omega) | rfl) ?_; (with_reducible refine (signetryref00_EqBytes.calls _ _ t494 _ _ (l0.take ((ji4) : Int).toNat) true _ ?side1 ?side2 ?side3 ?side4 A59.out).mono ?_); (case side1 => repeat (first | exact (Kd.R_reads' HO497.out).2.2 | (with_reducible refine Kd.C_alloc ?_ _) | (with_reducible refine Kd.C_drewN ?_ _) | (with_reducible refine Kd.C_drew ?_))); (case side2 => exact (Kd.R_reads' HO497.out).2.1); (case side3 => repeat (first | exact (Kd.C_below HR481.out HB.out) | (with_reducible refine Kd.C_alloc ?_ _) | (with_reducible refine Kd.C_drewN ?_ _) | (with_reducible refine Kd.C_drew ?_))); (case side4 => exact HC481.out); rintro e w' ⟨rfl, ⟨nd, rfl⟩⟩) | (go_at_call 21; (with_reducible refine (signetrylaw02_works.calls k2  t504 _ A68.out (HTB_.below (by repeat (first | (with_reducible first | exact HB.out | apply below_alloc | apply pw_below_drewN | apply below_drew1) | exact HB.out)))).mono ?_); rintro e w72 ⟨rfl, hb⟩; have n0_ := Aside0.mk (Kd.R_below (by (with_reducible repeat (first | apply Kd.R_alloc | apply Kd.R_drewN | apply Kd.R_drew)); exact HO497.out) hb); have n1_ := Aside0.mk (Kd.R_below (by (with_reducible repeat (first | apply Kd.R_alloc | apply Kd.R_drewN | apply Kd.R_drew)); exact HO501.out) hb); have n2_ := Aside0.mk (below_step (by repeat (first | (with_reducible first | exact HB.out | apply below_alloc | apply pw_below_drewN | apply below_drew1) | exact HB.out)) hb); clear HO497; clear HO501; clear HB; have HO497 := n0_; have HO501 := n1_; have HB := n2_; clear n0_ n1_ n2_; (try clear hb); (try clear hb2); (try clear hk); (try clear hi)))
                          go_ret
                          exact ⟨by first | rfl | (simp [errW_none, errW_some] <;> rfl) | (simp only [← hji4]; first | rfl | (simp [errW_none, errW_some] <;> rfl)) | (simp [*, errW_none, errW_some] <;> rfl), by repeat (first | (with_reducible first | exact HB.out | apply below_alloc | apply pw_below_drewN | apply below_drew1) | exact HB.out)⟩
                        · rw [if_neg c67] at H
                          exact absurd H (by simp)
                    · replace c60 := Bool.eq_false_iff.mpr c60
                      subst c60
                      have H1 : (none) = some r := by rw [if_neg (show ¬ (false = true) by decide)] at H; exact H
                      clear H
                      have H := H1
                      clear H1
                      exact absurd H (by simp)
                  · rw [if_neg c58] at H
                    exact absurd H (by simp)
                · rw [if_neg c55] at H
                  exact absurd H (by simp)
    · rw [if_neg c6] at H
      exact absurd H (by simp)
  · rw [if_neg c5] at H
    exact absurd H (by simp)

/-- THE ONE PURE STATEMENT of signetrylaw02_TextSpelt: yours. -/
def signetrylaw02_TextSpelt.Pure : Prop := ∀ (l0 : List Int) (l1 : List Int) (a2 : Bool), l0.length ≤ maxLen → l0.length * 1 ≤ 140737488351232 → (∀ x ∈ l0, (Lit.int .u8 x).wf = true) → l1.length ≤ maxLen → l1.length * 8 ≤ 140737488351232 → (∀ x ∈ l1, (Lit.int .i64 x).wf = true) → ∃ k, signetrylaw02_TextSpelt.f k l0 l1 a2 = some true
theorem signetrylaw02_TextSpelt.walk (P : signetrylaw02_TextSpelt.Pure) (a0 : Option Addr) (len0 cap0 : Nat) (z0 : List Int) (a1 : Option Addr) (len1 cap1 : Nat) (z1 : List Int) (a2 : Bool) (w : World) (w0 : (a0 = none ∧ len0 = 0 ∧ cap0 = 0 ∧ z0 = []) ∨ ∃ x, a0 = some x ∧ len0 ≤ cap0 ∧ cap0 ≤ maxLen ∧ z0.length = cap0 ∧ (∀ i, i < z0.length → w.cell? (x.add i) = some (.int .u8 (z0.getD i 0))) ∧ ∀ n ∈ z0, (Lit.int .u8 n).wf = true) (y0 : len0 * 1 ≤ 140737488351232) (w1 : (a1 = none ∧ len1 = 0 ∧ cap1 = 0 ∧ z1 = []) ∨ ∃ x, a1 = some x ∧ len1 ≤ cap1 ∧ cap1 ≤ maxLen ∧ z1.length = cap1 ∧ (∀ i, i < z1.length → w.cell? (x.add i) = some (.int .i64 (z1.getD i 0))) ∧ ∀ n ∈ z1, (Lit.int .i64 n).wf = true) (y1 : len1 * 8 ≤ 140737488351232) (HTB_ : Tabs w) :
    Calls Tryd.prog 9 #[.slice a0 len0 cap0, .slice a1 len1 cap1, .bool a2] w fun e w' => e = .returned (.bool true) ∧ Below w.heap.size w w' := by
  obtain ⟨l0, rfl, hr0, hm0, hw0, hc0⟩ := ReadsInt.ofRowC w0
  obtain ⟨l1, rfl, hr1, hm1, hw1, hc1⟩ := ReadsInt.ofRowC w1
  obtain ⟨k, h⟩ := P l0 l1 a2 hm0 y0 hw0 hm1 y1 hw1
  refine (signetrylaw02_TextSpelt.calls k _ _ l0 _ _ l1 a2 true w (Kd.C_of_reads (d := (0 : Int)) (h1 := fun _ => rfl) hr0) hc0 (Kd.C_of_reads (d := (0 : Int)) (h1 := fun _ => rfl) hr1) hc1 h HTB_).mono ?_
  rintro e w' ⟨rfl, hd⟩
  exact ⟨rfl, hd⟩
end Go.Proofs.YtaklkcnohbbfoaaDoor.PAll
