-- Written by this repo's program wip/tools/pr.py (over the kit's print) out of the translation. Not trusted: Lean checks it.
import Derived.Test.YtbclejgljegfmaaAp
import Derived.Test.YtbclejgljegfmaaPAllx0
import Derived.Test.YtbclejgljegfmaaGA
set_option maxHeartbeats 8000000
set_option maxRecDepth 100000
namespace Go.Proofs.Ytbclejgljegfmaa.PAll
open Go.Proofs.Ytbclejgljegfmaa.Hand
open Go.RowKit Go.Proofs.YtbclejgljegfmaaW.PrintWords Go.Proofs.YtbclejgljegfmaaW.PrintLast Go.Proofs.YtbclejgljegfmaaW.PrintMore
attribute [local go_sem] max2_int min2_int max_two min_two max_three min_three max_four min_four   -- for this text's walks alone
set_option linter.unusedVariables false
set_option linter.unusedSimpArgs false

/-! ### af: function 50 -/
mutual
def af.l0 : Nat → List Int → Int → Int → Int → Option (Int × Int × Int)
  | 0, _, _, _, _ => none
  | k + 1, x0, x1, x7, x8 => if (wrap64 (x1 + x8)) ≥ (x0.length : Int) then (some (0, 0, 3)) else (if 0 ≤ (wrap64 (x1 + x8)) then (if (wrap64 (x1 + x8)) < (x0.length : Int) then (if x8 = 9 then (af.j1 k x0 x1 x7 x8 (rd x0 (wrap64 (x1 + x8))) (decide ((rd x0 (wrap64 (x1 + x8))) > 1))) else (af.j1 k x0 x1 x7 x8 (rd x0 (wrap64 (x1 + x8))) false)) else (none)) else (none))
def af.j1 : Nat → List Int → Int → Int → Int → Int → Bool → Option (Int × Int × Int)
  | 0, _, _, _, _, _, _ => none
  | k + 1, x0, x1, x7, x8, x9, x29 => if x29 = true then (some (0, 0, 4)) else (if 0 ≤ (wrap64 (7 * x8)) then (if x9 < 128 then (some (IntKind.u64.wrap (x7 + (shl .u64 (IntKind.u64.wrap (Int.tmod x9 128)) (wrap64 (7 * x8)))), wrap64 ((wrap64 (x1 + x8)) + 1), 0)) else (af.l0 k x0 x1 (IntKind.u64.wrap (x7 + (shl .u64 (IntKind.u64.wrap (Int.tmod x9 128)) (wrap64 (7 * x8))))) (wrap64 (x8 + 1)))) else (none))
end
def af.f (k : Nat) (l0 : List Int) (a1 : Int) : Option (Int × Int × Int) := af.l0 k l0 a1 0 0
theorem af.calls (k : Nat) (A0 : Option Addr) (c0 : Nat) (l0 : List Int) (a1 : Int) (r1 : Int) (r2 : Int) (r3 : Int) (w : World) (hr0 : Kd.C (Kd.int .u8) w A0 l0.length l0) (hc0 : l0.length ≤ c0) (h : af.f k l0 a1 = some (r1, r2, r3)) :
 Calls Try.prog 50 #[.slice A0 l0.length c0, .int .i64 a1] w fun e w' => e = .returned (.tuple #[.int .u64 r1, .int .i64 r2, .int .i64 r3]) ∧ Drawn0 w w' := by
 have HR0 := Aside0.mk hr0
 have HC0 := Aside0.mk hc0
 clear hr0 hc0
 have H : (af.l0 k l0 a1 0 0) = some (r1, r2, r3) := h
 clear h
 have H' := Aside0.mk H
 clear H
 go_enter Try.func50, Try.ntmps50
 go_wp2
 go_loopg [7, 8] k (fun kq v7 v8 w' => ∃ (iA : Int) (dZ : Int), v7 = .int .u64 iA ∧ v8 = .int .i64 dZ ∧ Aside0 (af.l0 kq l0 a1 iA dZ = some (r1, r2, r3)) ∧ Aside0 (kq ≤ k) ∧ Drawn0 w w')
 case atStart => exact ⟨(0), (0), p21z, p21z, H', ⟨Nat.le_refl _⟩, p87z⟩
 case round =>
  clear H'
  obtain ⟨iA, dZ, rfl, rfl, HA, HK1, ⟨m1, rfl⟩⟩ := hrel
  cases gk with
  | zero => exact absurd HA.out (by simp [af.l0])
  | succ k1 =>
   have H := HA.out
   clear HA
   simp only [af.l0] at H
   by_cases c3 : (wrap64 (a1 + dZ)) ≥ (l0.length : Int)
   case pos =>
    rw [if_pos c3] at H
    have eh : decide ((l0.length : Int) ≤ (wrap64 (a1 + dZ))) = true := decide_eq_true c3
    clear c3
    simp only [Option.some.injEq, Prod.mk.injEq] at H
    obtain ⟨rfl, rfl, rfl⟩ := H
    go_wp2
    go_ret3
    exact ⟨p21z, p87z⟩
   rw [if_neg c3] at H
   have eh : decide ((l0.length : Int) ≤ (wrap64 (a1 + dZ))) = false := decide_eq_false c3
   clear c3
   obtain ⟨ji4, hji4⟩ : ∃ j_ : Int, (wrap64 (a1 + dZ)) = j_ := ⟨_, rfl⟩
   replace H : (if 0 ≤ (ji4) then (if (ji4) < (l0.length : Int) then (if dZ = 9 then (af.j1 k1 l0 a1 iA dZ (rd l0 (ji4)) (decide ((rd l0 (ji4)) > 1))) else (af.j1 k1 l0 a1 iA dZ (rd l0 (ji4)) false)) else (none)) else (none)) = some (r1, r2, r3) := by first | (rw [hji4] at H; exact H) | (simp only [hji4] at H ⊢; exact H)
   (try rw [hji4] at eh)
   have hji4w : (IntKind.i64.wrap (a1 + dZ)) = ji4 := (i64_w _).trans hji4
   by_cases c5 : 0 ≤ (ji4)
   case neg =>
    rw [if_neg c5] at H
    exact absurd H (by simp)

   rw [if_pos c5] at H
   have gI : decide (0 ≤ (ji4)) = true := decide_eq_true c5
   clear c5
   by_cases c6 : (ji4) < (l0.length : Int)
   case neg =>
    rw [if_neg c6] at H
    exact absurd H (by simp)
   rw [if_pos c6] at H
   have js : decide ((ji4) < (l0.length : Int)) = true := decide_eq_true c6
   clear c6
   have HC7 := Aside0.mk H
   clear H
   have p210 : 0 ≤ ((ji4) : Int) := of_decide_eq_true p10z
   have q210 : (ji4) < (l0.length : Int) := of_decide_eq_true p10z
   obtain ⟨ad210, e210, hx210_0⟩ := Kd.at_int HR0.out (ji4) p210 q210
   cases e210
   replace p210 := eq_true p210
   replace q210 := eq_true q210
   go_upto_region 7 with (fail)
   go_cut [29] (fun v29 wc => ∃ (kq : Nat) (l6 : Bool), v29 = .bool l6 ∧ Aside0 (af.j1 kq l0 a1 iA dZ (rd l0 (ji4)) l6 = some (r1, r2, r3)) ∧ Aside0 (kq ≤ k1) ∧ Drawn0 w wc)
   case first =>
    have H := HC7.out
    clear HC7
    by_cases c8 : dZ = 9
    case neg =>
     rw [if_neg c8] at H
     have ij : (dZ == 9) = false := beq_eq_false_iff_ne.mpr c8
     have lz : (dZ != 9) = true := bne_iff_ne.mpr c8
     (first | rw [ij] | (simp only [i64_w, i32_w]; rw [ij]) | skip)
     have H' := Aside0.mk H
     clear H
     go_wp2
     go_meet
     case rel => exact ⟨_, (false), p21z, H', ⟨p241z⟩, p87z⟩
    rw [if_pos c8] at H
    have ij : (dZ == 9) = true := beq_iff_eq.mpr c8
    have lz : (dZ != 9) = false := bne_eq_false_iff_eq.mpr c8
    clear c8
    (first | rw [ij] | (simp only [i64_w, i32_w]; rw [ij]) | skip)
    have H' := Aside0.mk H
    clear H
    go_wp2
    go_meet
    case rel => exact ⟨_, (decide ((rd l0 (ji4)) > 1)), (by first | rfl | (simp; done) | (simp only [← hji4] <;> (first | rfl | simp)) | (simp [*]; done)), H', ⟨p241z⟩, p87z⟩
   case rest =>
    clear HC7
    try clear eh
    try clear gI
    try clear js
    try clear hx210_0
    try clear p210
    try clear q210
    obtain ⟨kq, l6, rfl, HA, HJ6, ⟨mc6, rfl⟩⟩ := hcut
    cases kq with
    | zero => exact absurd HA.out (by simp [af.j1])
    | succ kj6 =>
     have H := HA.out
     clear HA
     simp only [af.j1] at H
     by_cases c9 : l6 = true
     case pos =>
      subst c9
      have H1 : (some (0, 0, 4)) = some (r1, r2, r3) := p99z
      clear H
      have H := H1
      clear H1
      simp only [Option.some.injEq, Prod.mk.injEq] at H
      obtain ⟨rfl, rfl, rfl⟩ := H
      go_wp2
      go_ret3
      exact ⟨by first | rfl | (simp; done) | (simp only [← hji4] <;> (first | rfl | simp)) | (simp [*]; done), p87z⟩
     replace c9 := Bool.eq_false_iff.mpr c9
     subst c9
     have H1 : (if 0 ≤ (wrap64 (7 * dZ)) then (if (rd l0 (ji4)) < 128 then (some (IntKind.u64.wrap (iA + (shl .u64 (IntKind.u64.wrap (Int.tmod (rd l0 (ji4)) 128)) (wrap64 (7 * dZ)))), wrap64 ((wrap64 (a1 + dZ)) + 1), 0)) else (af.l0 kj6 l0 a1 (IntKind.u64.wrap (iA + (shl .u64 (IntKind.u64.wrap (Int.tmod (rd l0 (ji4)) 128)) (wrap64 (7 * dZ))))) (wrap64 (dZ + 1)))) else (none)) = some (r1, r2, r3) := p42z
     clear H
     have H := H1
     clear H1
     obtain ⟨ji10, hji10⟩ : ∃ j_ : Int, (wrap64 (7 * dZ)) = j_ := ⟨_, rfl⟩
     replace H : (if 0 ≤ (ji10) then (if (rd l0 (ji4)) < 128 then (some (IntKind.u64.wrap (iA + (shl .u64 (IntKind.u64.wrap (Int.tmod (rd l0 (ji4)) 128)) (ji10))), wrap64 ((wrap64 (a1 + dZ)) + 1), 0)) else (af.l0 kj6 l0 a1 (IntKind.u64.wrap (iA + (shl .u64 (IntKind.u64.wrap (Int.tmod (rd l0 (ji4)) 128)) (ji10)))) (wrap64 (dZ + 1)))) else (none)) = some (r1, r2, r3) := by first | (rw [hji10] at H; exact H) | (simp only [hji10] at H ⊢; exact H)
     have hji10w : (IntKind.i64.wrap (7 * dZ)) = ji10 := (i64_w _).trans hji10
     by_cases c11 : 0 ≤ (ji10)
     case neg =>
      rw [if_neg c11] at H
      exact absurd H (by simp)
     rw [if_pos c11] at H
     have iJ := eq_true c11
     have je : decide (0 ≤ (ji10)) = true := decide_eq_true c11
     clear c11
     obtain ⟨ji12, hji12⟩ : ∃ j_ : Int, (shl .u64 (IntKind.u64.wrap (Int.tmod (rd l0 (ji4)) 128)) (ji10)) = j_ := ⟨_, rfl⟩
     replace H : (if (rd l0 (ji4)) < 128 then (some (IntKind.u64.wrap (iA + (ji12)), wrap64 ((wrap64 (a1 + dZ)) + 1), 0)) else (af.l0 kj6 l0 a1 (IntKind.u64.wrap (iA + (ji12))) (wrap64 (dZ + 1)))) = some (r1, r2, r3) := by first | (rw [hji12] at H; exact H) | (simp only [hji12] at H ⊢; exact H)
     have hji12_ : (IntKind.u64.wrap ((IntKind.u64.wrap (Int.tmod (rd l0 (ji4)) 128)) * 2 ^ min (ji10).toNat 64)) = ji12 := hji12
     have hji12z : (ji10) ≤ 64 → (IntKind.u64.wrap ((IntKind.u64.wrap (Int.tmod (rd l0 (ji4)) 128)) * 2 ^ (ji10).toNat)) = ji12 := shl_small hji12
     by_cases c13 : (rd l0 (ji4)) < 128
     case pos =>
      rw [if_pos c13] at H
      have jf : decide ((rd l0 (ji4)) < 128) = true := decide_eq_true c13
      clear c13
      simp only [Option.some.injEq, Prod.mk.injEq] at H
      obtain ⟨rfl, rfl, rfl⟩ := H
      go_wp2
      go_ret3
      exact ⟨by first | rfl | (simp; done) | (simp only [← hji4, ← hji10, ← hji12] <;> (first | rfl | simp)) | (simp [*]; done), p87z⟩
     rw [if_neg c13] at H
     have jf : decide ((rd l0 (ji4)) < 128) = false := decide_eq_false c13
     clear c13
     have H' := Aside0.mk H
     clear H
     go_wp2
     go_roundg kj6
     case measure => have := HK1.out; have := HJ6.out; omega
     case rel => exact ⟨(IntKind.u64.wrap (iA + (ji12))), (wrap64 (dZ + 1)), (by first | rfl | (simp; done) | (simp only [← hji12] <;> (first | rfl | simp)) | (simp [*]; done)), p21z, H', ⟨by have := HK1.out; have := HJ6.out; omega⟩, p87z⟩
/-! ### aa: function 25 -/
mutual
def aa.j0 : Nat → List Int → Int → Int → Bool → Option (Int × Int × Int × List Int × List Int × Int × Int)
  | 0, _, _, _, _ => none
  | k + 1, x0, x5, x6, x34 => if x34 = true then (some (0, 0, 0, ([] : List Int), ([] : List Int), 0, 4)) else (if (wrap64 (Int.tmod x5 8)) = 0 then ((af.f k x0 x6).bind fun ik => (if ik.2.2 = 0 then (aa.j1 k x0 ik.2.1 0 (wrap64 (IntKind.u64.wrap (Int.tdiv x5 8))) (wrap64 (Int.tmod x5 8)) ik.1) else (some (0, 0, 0, ([] : List Int), ([] : List Int), 0, ik.2.2)))) else (if (wrap64 (Int.tmod x5 8)) = 1 then (aa.j1 k x0 x6 8 (wrap64 (IntKind.u64.wrap (Int.tdiv x5 8))) (wrap64 (Int.tmod x5 8)) 0) else (if (wrap64 (Int.tmod x5 8)) = 2 then ((af.f k x0 x6).bind fun gR => (if gR.2.2 = 0 then (if gR.1 > 1048576 then (some (0, 0, 0, ([] : List Int), ([] : List Int), 0, 5)) else (aa.j1 k x0 gR.2.1 (wrap64 (gR.1)) (wrap64 (IntKind.u64.wrap (Int.tdiv x5 8))) (wrap64 (Int.tmod x5 8)) 0)) else (some (0, 0, 0, ([] : List Int), ([] : List Int), 0, gR.2.2)))) else (if (wrap64 (Int.tmod x5 8)) = 5 then (aa.j1 k x0 x6 4 (wrap64 (IntKind.u64.wrap (Int.tdiv x5 8))) (wrap64 (Int.tmod x5 8)) 0) else (some (0, 0, 0, ([] : List Int), ([] : List Int), 0, 10))))))
def aa.j1 : Nat → List Int → Int → Int → Int → Int → Int → Option (Int × Int × Int × List Int × List Int × Int × Int)
  | 0, _, _, _, _, _, _ => none
  | k + 1, x0, x6, x9, g1, fh, g2 => if x9 > (wrap64 ((x0.length : Int) - x6)) then (some (0, 0, 0, ([] : List Int), ([] : List Int), 0, 3)) else (if fh = 2 then (if 0 ≤ x6 then (if x6 ≤ (wrap64 (x6 + x9)) then (if (wrap64 (x6 + x9)) ≤ (x0.length : Int) then ((ag.f ((x0.take ((wrap64 (x6 + x9)) : Int).toNat).drop (x6 : Int).toNat)).bind fun kL => (aa.j2 k x0 x6 x9 g1 fh g2 kL)) else (none)) else (none)) else (none)) else (aa.j2 k x0 x6 x9 g1 fh g2 ([] : List Int)))
def aa.j2 : Nat → List Int → Int → Int → Int → Int → Int → List Int → Option (Int × Int × Int × List Int × List Int × Int × Int)
  | 0, _, _, _, _, _, _, _ => none
  | k + 1, x0, x6, x9, g1, fh, g2, il => aa.l0 k x0 x6 x9 (wrap64 (x9 - 1)) g1 fh g2 il
def aa.l0 : Nat → List Int → Int → Int → Int → Int → Int → Int → List Int → Option (Int × Int × Int × List Int × List Int × Int × Int)
  | 0, _, _, _, _, _, _, _, _ => none
  | k + 1, x0, x6, x9, x16, g1, fh, g2, il => if x16 ≥ 0 then (if fh = 2 then (if 0 ≤ (wrap64 (x6 + x9)) then (if (wrap64 (x6 + x9)) ≤ (x0.length : Int) then ((ag.f (x0.take ((wrap64 (x6 + x9)) : Int).toNat)).bind fun ie => (some (g1, fh, g2, il, ie, wrap64 (x6 + x9), 0))) else (none)) else (none)) else (if 0 ≤ (wrap64 (x6 + x16)) then (if (wrap64 (x6 + x16)) < (x0.length : Int) then (aa.l0 k x0 x6 x9 (wrap64 (x16 - 1)) g1 fh (IntKind.u64.wrap ((IntKind.u64.wrap (256 * g2)) + (IntKind.u64.wrap (rd x0 (wrap64 (x6 + x16)))))) il) else (none)) else (none))) else (if 0 ≤ (wrap64 (x6 + x9)) then (if (wrap64 (x6 + x9)) ≤ (x0.length : Int) then ((ag.f (x0.take ((wrap64 (x6 + x9)) : Int).toNat)).bind fun jg => (some (g1, fh, g2, il, jg, wrap64 (x6 + x9), 0))) else (none)) else (none))
end
def aa.f (k : Nat) (l0 : List Int) : Option (Int × Int × Int × List Int × List Int × Int × Int) := (af.f k l0 0).bind fun fj => (if fj.2.2 = 0 then (if (IntKind.u64.wrap (Int.tdiv fj.1 8)) < 1 then (aa.j0 k l0 fj.1 fj.2.1 true) else (aa.j0 k l0 fj.1 fj.2.1 (decide ((IntKind.u64.wrap (Int.tdiv fj.1 8)) > 536870911)))) else (some (0, 0, 0, ([] : List Int), ([] : List Int), 0, fj.2.2)))
def aa.T35 : Bool × List (List Nat × List Nat) := (true, [([], []), ([0], [0]), ([1], [1]), ([], []), ([], []), ([], []), ([4, 5], [4, 5]), ([3, 6], [3, 6]), ([7], [7]), ([8], [8]), ([2, 9], [2, 9]), ([0, 1, 2, 3, 4, 5, 6, 7, 8, 9, 10], []), ([11, 10, 0, 1, 2, 3, 4, 5, 6, 7, 8, 9, 10], [10, 11])])
def aa.B35 : List Nat := [0, 1, 3, 0, 0, 0, 48, 120, 248, 504, 1023, 2047, 4095]
theorem aa.tab35 : rtab .any (opsOf Try.f25 35) = aa.T35 := p16z
theorem aa.bits35 : waitsOk aa.T35.2 aa.B35 = true := p16z
theorem aa.calls (k : Nat) (A0 : Option Addr) (c0 : Nat) (l0 : List Int) (r1 : Int) (r2 : Int) (r3 : Int) (r4 : List Int) (r5 : List Int) (r6 : Int) (r7 : Int) (w : World) (hr0 : Kd.C (Kd.int .u8) w A0 l0.length l0) (hc0 : l0.length ≤ c0) (h : aa.f k l0 = some (r1, r2, r3, r4, r5, r6, r7)) :
 Calls Try.prog 25 #[.slice A0 l0.length c0] w fun e w' => ∃ v3_ v4_ : Value, e = .returned (.tuple #[.agg #[.int .i64 r1, .int .i64 r2, .int .u64 r3, v3_, v4_], .int .i64 r6, .int .i64 r7]) ∧ Kd.R (Kd.int .u8) 5 w' w.heap.size (fun k_ => some k_ ≠ (v4_ : Value).ownBlock) v3_ r4 ∧ Kd.R (Kd.int .u8) 5 w' w.heap.size (fun k_ => some k_ ≠ (v3_ : Value).ownBlock) v4_ r5 ∧ Below w.heap.size w w' := by
 have hu33 := Try.underlying33
 have HR0 := Aside0.mk hr0
 have HC0 := Aside0.mk hc0
 clear hr0 hc0
 have HB := Aside0.mk (Below.refl w.heap.size w)
 have H : ((af.f k l0 0).bind fun fj => (if fj.2.2 = 0 then (if (IntKind.u64.wrap (Int.tdiv fj.1 8)) < 1 then (aa.j0 k l0 fj.1 fj.2.1 true) else (aa.j0 k l0 fj.1 fj.2.1 (decide ((IntKind.u64.wrap (Int.tdiv fj.1 8)) > 536870911)))) else (some (0, 0, 0, ([] : List Int), ([] : List Int), 0, fj.2.2)))) = some (r1, r2, r3, r4, r5, r6, r7) := h
 clear h
 replace H := Option.bind_eq_some_iff.mp H
 obtain ⟨⟨bj, gi, dT⟩, A20, H⟩ := H
 replace H : (if dT = 0 then (if (IntKind.u64.wrap (Int.tdiv bj 8)) < 1 then (aa.j0 k l0 bj gi true) else (aa.j0 k l0 bj gi (decide ((IntKind.u64.wrap (Int.tdiv bj 8)) > 536870911)))) else (some (0, 0, 0, ([] : List Int), ([] : List Int), 0, dT))) = some (r1, r2, r3, r4, r5, r6, r7) := H
 have A2 := Aside0.mk A20
 clear A20
 by_cases c3 : dT = 0
 case neg =>
  rw [if_neg c3] at H
  have eh : (dT == 0) = false := beq_eq_false_iff_ne.mpr c3
  have gh : (dT != 0) = true := bne_iff_ne.mpr c3
  simp only [Option.some.injEq, Prod.mk.injEq] at H
  obtain ⟨rfl, rfl, rfl, rfl, rfl, rfl, rfl⟩ := H
  go_enter Try.func25, Try.ntmps25
  go_wp2_with (first | ((with_reducible refine gate_dst (N := 2) rfl ?_); refine box_event ?hg (N := 2) ?hd (cs := #[.int .i64 0, .int .i64 0, .int .u64 0, .slice none 0 0, .slice none 0 0]) (t := 33) ?hr ?_; (case hd => rfl); (case hg => rfl); (case hr => exact p22z); intro bn hg w80 hbox hb; have z_ := asi4 (below_step p0z hb) (hbox) ((p38z : w.heap.size ≤ bn)) ((p38z : w.heap.size ≤ bn)); clear HB; obtain ⟨HB, aX, GW211, lS⟩ := z_; clear hb hbox hg) | ((with_reducible refine gate_callee (f := 50) rfl ?_); refine goesL_ (some 19) rfl rfl Try.func50 p16z rfl #[.slice A0 l0.length c0, .int .i64 0] rfl p2z ?_; (with_reducible refine (af.calls k _ _ l0 0 bj gi dT _ ?side1 ?side2 A2.out).mono ?_); (case side1 => exact p228z); (case side2 => exact HC0.out); rintro e w' ⟨rfl, ⟨nd, rfl⟩⟩; refine ⟨_, rfl, ?_⟩; (try (rw [drewN_self w80]; generalize hq_ : World.drewN w80 _ = w80; have n0_ : Aside0 (w80.heap[bn]? = some (.cells #[.int .i64 0, .int .i64 0, .int .u64 0, .slice none 0 0, .slice none 0 0] 33 (0, 0))) := ⟨by rw [← hq_]; exact p76z⟩; have n1_ : Aside0 (Below w.heap.size w w80) := ⟨by rw [← hq_]; exact p77z⟩; clear aX HB hq_; have aX := n0_; have HB := n1_; clear n0_ n1_)); have hcz81_0 : w80.cell? ⟨bn, 0, none⟩ = some (.int .i64 0) := (blk_cell aX.out 0).trans rfl; have hcz81_1 : w80.cell? ⟨bn, 1, none⟩ = some (.int .i64 0) := (blk_cell aX.out 1).trans rfl; have hcz81_2 : w80.cell? ⟨bn, 2, none⟩ = some (.int .u64 0) := (blk_cell aX.out 2).trans rfl; have hcz81_3 : w80.cell? ⟨bn, 3, none⟩ = some (.slice none 0 0) := (blk_cell aX.out 3).trans rfl; have hcz81_4 : w80.cell? ⟨bn, 4, none⟩ = some (.slice none 0 0) := (blk_cell aX.out 4).trans rfl; have hfz81_0 := blk_frozen aX.out 0; have hfz81_1 := blk_frozen aX.out 1; have hfz81_2 := blk_frozen aX.out 2; have hfz81_3 := blk_frozen aX.out 3; have hfz81_4 := blk_frozen aX.out 4))
  refine bodyPost_ret (results_ctt rfl _ _ bn 33 #[.int .i64 0, .int .i64 0, .int .u64 0, .slice none 0 0, .slice none 0 0] (0, 0) _ rfl p73z Try.underlying33 rfl p16z) rfl ?_
  exact ⟨_, _, p6z, p9z, p9z, p77z⟩
 rw [if_pos c3] at H
 have eh : (dT == 0) = true := beq_iff_eq.mpr c3
 have gh : (dT != 0) = false := bne_eq_false_iff_eq.mpr c3
 clear c3
 have HC4 := Aside0.mk H
 clear H
 go_enter Try.func25, Try.ntmps25
 go_upto_region 4 with (first | ((with_reducible refine gate_dst (N := 2) rfl ?_); refine box_event ?hg (N := 2) ?hd (cs := #[.int .i64 0, .int .i64 0, .int .u64 0, .slice none 0 0, .slice none 0 0]) (t := 33) ?hr ?_; (case hd => rfl); (case hg => rfl); (case hr => exact p22z); intro bn hg w5 hbox hb; have z_ := asi4 (below_step p0z hb) (hbox) ((p38z : w.heap.size ≤ bn)) ((p38z : w.heap.size ≤ bn)); clear HB; obtain ⟨HB, aX, GW211, lS⟩ := z_; clear hb hbox hg) | ((with_reducible refine gate_callee (f := 50) rfl ?_); refine goesL_ (some 19) rfl rfl Try.func50 p16z rfl #[.slice A0 l0.length c0, .int .i64 0] rfl p2z ?_; (with_reducible refine (af.calls k _ _ l0 0 bj gi dT _ ?side1 ?side2 A2.out).mono ?_); (case side1 => exact p228z); (case side2 => exact HC0.out); rintro e w' ⟨rfl, ⟨nd, rfl⟩⟩; refine ⟨_, rfl, ?_⟩))
 (try simp only [Act.put, List.setIfInBounds_toArray, List.set_cons_zero, List.set_cons_succ])
 go_cut [34] (fun v34 wc => ∃ (kq : Nat) (l7 : Bool), v34 = .bool l7 ∧ Aside0 (aa.j0 kq l0 bj gi l7 = some (r1, r2, r3, r4, r5, r6, r7)) ∧ Aside0 (kq ≤ k) ∧ Aside0 (wc.heap[bn]? = some (.cells #[.int .i64 0, .int .i64 0, .int .u64 0, (.slice none 0 0), (.slice none 0 0)] 33 (0, 0))) ∧ Aside0 (Below w.heap.size w wc))
 case first =>
  have H := HC4.out
  clear HC4
  by_cases c6 : (IntKind.u64.wrap (Int.tdiv bj 8)) < 1
  case pos =>
   rw [if_pos c6] at H
   have js : decide ((IntKind.u64.wrap (Int.tdiv bj 8)) < 1) = true := decide_eq_true c6
   clear c6
   (first | rw [js] | (simp only [i64_w, i32_w]; rw [js]) | skip)
   have H' := Aside0.mk H
   clear H
   go_wp2
   go_meet
   case rel => exact ⟨_, (true), p21z, H', ⟨p160z⟩, ⟨p76z⟩, ⟨p77z⟩⟩
  rw [if_neg c6] at H
  have js : decide ((IntKind.u64.wrap (Int.tdiv bj 8)) < 1) = false := decide_eq_false c6
  clear c6
  (first | rw [js] | (simp only [i64_w, i32_w]; rw [js]) | skip)
  have H' := Aside0.mk H
  clear H
  go_wp2
  go_meet
  case rel => exact ⟨_, (decide ((IntKind.u64.wrap (Int.tdiv bj 8)) > 536870911)), p21z, H', ⟨p160z⟩, ⟨p76z⟩, ⟨p77z⟩⟩
 case rest =>
  clear HC4
  try clear eh
  try clear gh
  obtain ⟨kq, l7, rfl, HA, HJ3, aX, HB⟩ := hcut
  cases kq with
  | zero => exact absurd HA.out (by simp [aa.j0])
  | succ kj3 =>
   have H := HA.out
   clear HA
   simp only [aa.j0] at H
   by_cases c7 : l7 = true
   case pos =>
    subst c7
    have H1 : (some (0, 0, 0, ([] : List Int), ([] : List Int), 0, 4)) = some (r1, r2, r3, r4, r5, r6, r7) := p99z
    clear H
    have H := H1
    clear H1
    simp only [Option.some.injEq, Prod.mk.injEq] at H
    obtain ⟨rfl, rfl, rfl, rfl, rfl, rfl, rfl⟩ := H
    have hcz8_0 : wc.cell? ⟨bn, 0, none⟩ = some (.int .i64 0) := (blk_cell aX.out 0).trans rfl
    have hcz8_1 : wc.cell? ⟨bn, 1, none⟩ = some (.int .i64 0) := (blk_cell aX.out 1).trans rfl
    have hcz8_2 : wc.cell? ⟨bn, 2, none⟩ = some (.int .u64 0) := (blk_cell aX.out 2).trans rfl
    have hcz8_3 : wc.cell? ⟨bn, 3, none⟩ = some (.slice none 0 0) := (blk_cell aX.out 3).trans rfl
    have hcz8_4 : wc.cell? ⟨bn, 4, none⟩ = some (.slice none 0 0) := (blk_cell aX.out 4).trans rfl
    have hfz8_0 := blk_frozen aX.out 0
    have hfz8_1 := blk_frozen aX.out 1
    have hfz8_2 := blk_frozen aX.out 2
    have hfz8_3 := blk_frozen aX.out 3
    have hfz8_4 := blk_frozen aX.out 4
    go_wp2
    refine bodyPost_ret (results_ctt rfl _ _ bn 33 #[.int .i64 0, .int .i64 0, .int .u64 0, .slice none 0 0, .slice none 0 0] (0, 0) _ rfl p73z Try.underlying33 rfl p16z) rfl ?_
    exact ⟨_, _, p6z, p9z, p9z, p77z⟩
   replace c7 := Bool.eq_false_iff.mpr c7
   subst c7
   have H1 : (if (wrap64 (Int.tmod bj 8)) = 0 then ((af.f kj3 l0 gi).bind fun ik => (if ik.2.2 = 0 then (aa.j1 kj3 l0 ik.2.1 0 (wrap64 (IntKind.u64.wrap (Int.tdiv bj 8))) (wrap64 (Int.tmod bj 8)) ik.1) else (some (0, 0, 0, ([] : List Int), ([] : List Int), 0, ik.2.2)))) else (if (wrap64 (Int.tmod bj 8)) = 1 then (aa.j1 kj3 l0 gi 8 (wrap64 (IntKind.u64.wrap (Int.tdiv bj 8))) (wrap64 (Int.tmod bj 8)) 0) else (if (wrap64 (Int.tmod bj 8)) = 2 then ((af.f kj3 l0 gi).bind fun gR => (if gR.2.2 = 0 then (if gR.1 > 1048576 then (some (0, 0, 0, ([] : List Int), ([] : List Int), 0, 5)) else (aa.j1 kj3 l0 gR.2.1 (wrap64 (gR.1)) (wrap64 (IntKind.u64.wrap (Int.tdiv bj 8))) (wrap64 (Int.tmod bj 8)) 0)) else (some (0, 0, 0, ([] : List Int), ([] : List Int), 0, gR.2.2)))) else (if (wrap64 (Int.tmod bj 8)) = 5 then (aa.j1 kj3 l0 gi 4 (wrap64 (IntKind.u64.wrap (Int.tdiv bj 8))) (wrap64 (Int.tmod bj 8)) 0) else (some (0, 0, 0, ([] : List Int), ([] : List Int), 0, 10)))))) = some (r1, r2, r3, r4, r5, r6, r7) := p42z
   clear H
   have H := H1
   clear H1
   have HC9 := Aside0.mk H
   clear H
   go_upto_block 0 with (first | ((with_reducible refine gate_dst (N := 8) rfl ?_); refine box_event ?hg (N := 8) ?hd (cs := #[.int .i64 0, .int .i64 0, .int .u64 0, .slice none 0 0, .slice none 0 0]) (t := 33) ?hr ?_; (case hd => rfl); (case hg => rfl); (case hr => exact p22z); intro bR hg w10 hbox hb; have z_ := asi7 (blk_below (g := bn) (o := .cells #[.int .i64 0, .int .i64 0, .int .u64 0, .slice none 0 0, .slice none 0 0] 33 (0, 0)) p76z hb) (below_step p77z hb) (hbox) ((by rw [hg]; exact (below_size p77z) : w.heap.size ≤ bR)) ((by rw [hg]; exact (below_size p77z) : w.heap.size ≤ bR)) ((by rw [hg]; exact Nat.ne_of_lt (blk_lt (g := bn) (o := .cells #[.int .i64 0, .int .i64 0, .int .u64 0, .slice none 0 0, .slice none 0 0] 33 (0, 0)) p76z) : bn ≠ bR)) ((by rw [hg]; exact Nat.ne_of_gt (blk_lt (g := bn) (o := .cells #[.int .i64 0, .int .i64 0, .int .u64 0, .slice none 0 0, .slice none 0 0] 33 (0, 0)) p76z) : bR ≠ bn)); clear aX HB; obtain ⟨aX, HB, ba, GW215, GE215, NB211_215, NB215_211⟩ := z_; clear hb hbox hg; have hnb11 := NB215_211.out; have hnc11 := NB211_215.out; have hcz12_0 : w10.cell? ⟨bR, 0, none⟩ = some (.int .i64 0) := (blk_cell ba.out 0).trans rfl; have hcz12_1 : w10.cell? ⟨bR, 1, none⟩ = some (.int .i64 0) := (blk_cell ba.out 1).trans rfl; have hcz12_2 : w10.cell? ⟨bR, 2, none⟩ = some (.int .u64 0) := (blk_cell ba.out 2).trans rfl; have hcz12_3 : w10.cell? ⟨bR, 3, none⟩ = some (.slice none 0 0) := (blk_cell ba.out 3).trans rfl; have hcz12_4 : w10.cell? ⟨bR, 4, none⟩ = some (.slice none 0 0) := (blk_cell ba.out 4).trans rfl; have hfz12_0 := blk_frozen ba.out 0; have hfz12_1 := blk_frozen ba.out 1; have hfz12_2 := blk_frozen ba.out 2; have hfz12_3 := blk_frozen ba.out 3; have hfz12_4 := blk_frozen ba.out 4))
   (try simp only [Act.put, List.setIfInBounds_toArray, List.set_cons_zero, List.set_cons_succ])
   go_cut [6, 9] (fun v6 v9 wc => ∃ (kq : Nat) (dG : Int) (eJ : Int) (dH : Int) (d9 : Int) (cN : Int) (dS : Int), v6 = .int .i64 dG ∧ v9 = .int .i64 eJ ∧ Aside0 (aa.j1 kq l0 dG eJ (wrap64 (IntKind.u64.wrap (Int.tdiv bj 8))) (wrap64 (Int.tmod bj 8)) dS = some (r1, r2, r3, r4, r5, r6, r7)) ∧ Aside0 (kq ≤ kj3) ∧ Aside0 (wc.heap[bn]? = some (.cells #[.int .i64 dH, .int .i64 d9, .int .u64 cN, (.slice none 0 0), (.slice none 0 0)] 33 (0, 0))) ∧ Aside0 (wc.heap[bR]? = some (.cells #[.int .i64 (wrap64 (IntKind.u64.wrap (Int.tdiv bj 8))), .int .i64 (wrap64 (Int.tmod bj 8)), .int .u64 dS, (.slice none 0 0), (.slice none 0 0)] 33 (0, 0))) ∧ Aside0 (Below w.heap.size w wc))
   case first =>
    have H := HC9.out
    clear HC9
    by_cases c13 : (wrap64 (Int.tmod bj 8)) = 0
    case pos =>
     rw [if_pos c13] at H
     have jf : ((wrap64 (Int.tmod bj 8)) == 0) = true := beq_iff_eq.mpr c13
     have c13b1 : ((wrap64 (Int.tmod bj 8)) != 0) = false := bne_eq_false_iff_eq.mpr c13
     clear c13
     (first | rw [jf] | (simp only [i64_w, i32_w]; rw [jf]) | skip)
     replace H := Option.bind_eq_some_iff.mp H
     obtain ⟨⟨t216, t217, hS⟩, A140, H⟩ := H
     replace H : (if hS = 0 then (aa.j1 kj3 l0 t217 0 (wrap64 (IntKind.u64.wrap (Int.tdiv bj 8))) (wrap64 (Int.tmod bj 8)) t216) else (some (0, 0, 0, ([] : List Int), ([] : List Int), 0, hS))) = some (r1, r2, r3, r4, r5, r6, r7) := H
     have A14 := Aside0.mk A140
     clear A140
     by_cases c15 : hS = 0
     case neg =>
      rw [if_neg c15] at H
      have c15b0 : (hS == 0) = false := beq_eq_false_iff_ne.mpr c15
      have c15b1 : (hS != 0) = true := bne_iff_ne.mpr c15
      simp only [Option.some.injEq, Prod.mk.injEq] at H
      obtain ⟨rfl, rfl, rfl, rfl, rfl, rfl, rfl⟩ := H
      go_wp2_with (first | ((with_reducible refine gate_callee (f := 50) rfl ?_); refine goesL_ (some 51) rfl rfl Try.func50 p16z rfl #[.slice A0 l0.length c0, .int .i64 gi] rfl p2z ?_; (with_reducible refine (af.calls kj3 _ _ l0 gi t216 t217 hS _ ?side1 ?side2 A14.out).mono ?_); (case side1 => exact Kd.C_below HR0.out p11z); (case side2 => exact HC0.out); rintro e w' ⟨rfl, ⟨nd, rfl⟩⟩; refine ⟨_, rfl, ?_⟩; have hnb18 := NB211_215.out; have hnc18 := NB215_211.out; have hcz19_0 : w10.cell? ⟨bn, 0, none⟩ = some (.int .i64 0) := (blk_cell aX.out 0).trans rfl; have hcz19_1 : w10.cell? ⟨bn, 1, none⟩ = some (.int .i64 0) := (blk_cell aX.out 1).trans rfl; have hcz19_2 : w10.cell? ⟨bn, 2, none⟩ = some (.int .u64 0) := (blk_cell aX.out 2).trans rfl; have hcz19_3 : w10.cell? ⟨bn, 3, none⟩ = some (.slice none 0 0) := (blk_cell aX.out 3).trans rfl; have hcz19_4 : w10.cell? ⟨bn, 4, none⟩ = some (.slice none 0 0) := (blk_cell aX.out 4).trans rfl; have hfz19_0 := blk_frozen aX.out 0; have hfz19_1 := blk_frozen aX.out 1; have hfz19_2 := blk_frozen aX.out 2; have hfz19_3 := blk_frozen aX.out 3; have hfz19_4 := blk_frozen aX.out 4))
      refine bodyPost_ret (results_ctt rfl _ _ bn 33 #[.int .i64 0, .int .i64 0, .int .u64 0, .slice none 0 0, .slice none 0 0] (0, 0) _ rfl p8z Try.underlying33 rfl p16z) rfl ?_
      exact ⟨_, _, p6z, p9z, p9z, p11z⟩
     rw [if_pos c15] at H
     have c15b0 : (hS == 0) = true := beq_iff_eq.mpr c15
     have c15b1 : (hS != 0) = false := bne_eq_false_iff_eq.mpr c15
     clear c15
     have H' := Aside0.mk H
     clear H
     go_wp2_with (first | ((with_reducible refine gate_callee (f := 50) rfl ?_); refine goesL_ (some 51) rfl rfl Try.func50 p16z rfl #[.slice A0 l0.length c0, .int .i64 gi] rfl p2z ?_; (with_reducible refine (af.calls kj3 _ _ l0 gi t216 t217 hS _ ?side1 ?side2 A14.out).mono ?_); (case side1 => exact Kd.C_below HR0.out p11z); (case side2 => exact HC0.out); rintro e w' ⟨rfl, ⟨nd, rfl⟩⟩; refine ⟨_, rfl, ?_⟩; have hnb16 := NB215_211.out; have hnc16 := NB211_215.out; have hcz17_0 : w10.cell? ⟨bR, 0, none⟩ = some (.int .i64 0) := (blk_cell ba.out 0).trans rfl; have hcz17_1 : w10.cell? ⟨bR, 1, none⟩ = some (.int .i64 0) := (blk_cell ba.out 1).trans rfl; have hcz17_2 : w10.cell? ⟨bR, 2, none⟩ = some (.int .u64 0) := (blk_cell ba.out 2).trans rfl; have hcz17_3 : w10.cell? ⟨bR, 3, none⟩ = some (.slice none 0 0) := (blk_cell ba.out 3).trans rfl; have hcz17_4 : w10.cell? ⟨bR, 4, none⟩ = some (.slice none 0 0) := (blk_cell ba.out 4).trans rfl; have hfz17_0 := blk_frozen ba.out 0; have hfz17_1 := blk_frozen ba.out 1; have hfz17_2 := blk_frozen ba.out 2; have hfz17_3 := blk_frozen ba.out 3; have hfz17_4 := blk_frozen ba.out 4))
     go_meet
     case rel => exact ⟨_, (t217), (0), (0), (0), (0), (t216), p21z, p21z, H', ⟨p200z⟩, ⟨by (with_reducible repeat (first | refine blk_drewN ?_ _ | refine blk_drew ?_ | refine blk_alloc ?_ _)); refine blk_far ?_ NB211_215.out _; (with_reducible repeat (first | refine blk_drewN ?_ _ | refine blk_drew ?_ | refine blk_alloc ?_ _)); refine blk_far ?_ NB211_215.out _; (with_reducible repeat (first | refine blk_drewN ?_ _ | refine blk_drew ?_ | refine blk_alloc ?_ _)); refine blk_far ?_ NB211_215.out _; (with_reducible repeat (first | refine blk_drewN ?_ _ | refine blk_drew ?_ | refine blk_alloc ?_ _)); refine blk_far ?_ NB211_215.out _; (with_reducible repeat (first | refine blk_drewN ?_ _ | refine blk_drew ?_ | refine blk_alloc ?_ _)); refine blk_far ?_ NB211_215.out _; (with_reducible repeat (first | refine blk_drewN ?_ _ | refine blk_drew ?_ | refine blk_alloc ?_ _)); refine blk_far ?_ NB211_215.out _; (with_reducible repeat (first | refine blk_drewN ?_ _ | refine blk_drew ?_ | refine blk_alloc ?_ _)); exact aX.out⟩, ⟨by (with_reducible repeat (first | refine blk_drewN ?_ _ | refine blk_drew ?_ | refine blk_alloc ?_ _)); refine blk_put (cs := #[.int .i64 (wrap64 (IntKind.u64.wrap (Int.tdiv bj 8))), .int .i64 (wrap64 (Int.tmod bj 8)), .int .u64 0, .slice none 0 0, .slice none 0 0]) ?_ 2 _ rfl; (with_reducible repeat (first | refine blk_drewN ?_ _ | refine blk_drew ?_ | refine blk_alloc ?_ _)); refine blk_put (cs := #[.int .i64 (wrap64 (IntKind.u64.wrap (Int.tdiv bj 8))), .int .i64 (wrap64 (Int.tmod bj 8)), .int .u64 0, .slice none 0 0, .slice none 0 0]) ?_ 4 _ rfl; (with_reducible repeat (first | refine blk_drewN ?_ _ | refine blk_drew ?_ | refine blk_alloc ?_ _)); refine blk_put (cs := #[.int .i64 (wrap64 (IntKind.u64.wrap (Int.tdiv bj 8))), .int .i64 (wrap64 (Int.tmod bj 8)), .int .u64 0, .slice none 0 0, .slice none 0 0]) ?_ 3 _ rfl; (with_reducible repeat (first | refine blk_drewN ?_ _ | refine blk_drew ?_ | refine blk_alloc ?_ _)); refine blk_put (cs := #[.int .i64 (wrap64 (IntKind.u64.wrap (Int.tdiv bj 8))), .int .i64 (wrap64 (Int.tmod bj 8)), .int .u64 0, .slice none 0 0, .slice none 0 0]) ?_ 2 _ rfl; (with_reducible repeat (first | refine blk_drewN ?_ _ | refine blk_drew ?_ | refine blk_alloc ?_ _)); refine blk_put (cs := #[.int .i64 (wrap64 (IntKind.u64.wrap (Int.tdiv bj 8))), .int .i64 0, .int .u64 0, .slice none 0 0, .slice none 0 0]) ?_ 1 _ rfl; (with_reducible repeat (first | refine blk_drewN ?_ _ | refine blk_drew ?_ | refine blk_alloc ?_ _)); refine blk_put (cs := #[.int .i64 0, .int .i64 0, .int .u64 0, .slice none 0 0, .slice none 0 0]) ?_ 0 _ rfl; (with_reducible repeat (first | refine blk_drewN ?_ _ | refine blk_drew ?_ | refine blk_alloc ?_ _)); exact ba.out⟩, ⟨p11z⟩⟩
    rw [if_neg c13] at H
    have jf : ((wrap64 (Int.tmod bj 8)) == 0) = false := beq_eq_false_iff_ne.mpr c13
    have c13b1 : ((wrap64 (Int.tmod bj 8)) != 0) = true := bne_iff_ne.mpr c13
    (first | rw [jf] | (simp only [i64_w, i32_w]; rw [jf]) | skip)
    by_cases c20 : (wrap64 (Int.tmod bj 8)) = 1
    case pos =>
     rw [if_pos c20] at H
     have c20b0 : ((wrap64 (Int.tmod bj 8)) == 1) = true := beq_iff_eq.mpr c20
     have c20b1 : ((wrap64 (Int.tmod bj 8)) != 1) = false := bne_eq_false_iff_eq.mpr c20
     clear c20
     have H' := Aside0.mk H
     clear H
     go_wp2
     go_meet
     case rel => exact ⟨_, (gi), (8), (0), (0), (0), (0), p21z, p21z, H', ⟨p200z⟩, ⟨p59z⟩, ⟨p28z⟩, ⟨p11z⟩⟩
    rw [if_neg c20] at H
    have c20b0 : ((wrap64 (Int.tmod bj 8)) == 1) = false := beq_eq_false_iff_ne.mpr c20
    have c20b1 : ((wrap64 (Int.tmod bj 8)) != 1) = true := bne_iff_ne.mpr c20
    by_cases c21 : (wrap64 (Int.tmod bj 8)) = 2
    case neg =>
     rw [if_neg c21] at H
     have c21b0 : ((wrap64 (Int.tmod bj 8)) == 2) = false := beq_eq_false_iff_ne.mpr c21
     have c21b1 : ((wrap64 (Int.tmod bj 8)) != 2) = true := bne_iff_ne.mpr c21
     by_cases c29 : (wrap64 (Int.tmod bj 8)) = 5
     case pos =>
      rw [if_pos c29] at H
      have gS : ((wrap64 (Int.tmod bj 8)) == 5) = true := beq_iff_eq.mpr c29
      have l9 : ((wrap64 (Int.tmod bj 8)) != 5) = false := bne_eq_false_iff_eq.mpr c29
      clear c29
      have H' := Aside0.mk H
      clear H
      go_wp2
      go_meet
      case rel => exact ⟨_, (gi), (4), (0), (0), (0), (0), p21z, p21z, H', ⟨p200z⟩, ⟨p59z⟩, ⟨p28z⟩, ⟨p11z⟩⟩
     rw [if_neg c29] at H
     have gS : ((wrap64 (Int.tmod bj 8)) == 5) = false := beq_eq_false_iff_ne.mpr c29
     have l9 : ((wrap64 (Int.tmod bj 8)) != 5) = true := bne_iff_ne.mpr c29
     simp only [Option.some.injEq, Prod.mk.injEq] at H
     obtain ⟨rfl, rfl, rfl, rfl, rfl, rfl, rfl⟩ := H
     have hnb30 := NB211_215.out
     have hnc30 := NB215_211.out
     have hcz31_0 : w10.cell? ⟨bn, 0, none⟩ = some (.int .i64 0) := (blk_cell aX.out 0).trans rfl
     have hcz31_1 : w10.cell? ⟨bn, 1, none⟩ = some (.int .i64 0) := (blk_cell aX.out 1).trans rfl
     have hcz31_2 : w10.cell? ⟨bn, 2, none⟩ = some (.int .u64 0) := (blk_cell aX.out 2).trans rfl
     have hcz31_3 : w10.cell? ⟨bn, 3, none⟩ = some (.slice none 0 0) := (blk_cell aX.out 3).trans rfl
     have hcz31_4 : w10.cell? ⟨bn, 4, none⟩ = some (.slice none 0 0) := (blk_cell aX.out 4).trans rfl
     have hfz31_0 := blk_frozen aX.out 0
     have hfz31_1 := blk_frozen aX.out 1
     have hfz31_2 := blk_frozen aX.out 2
     have hfz31_3 := blk_frozen aX.out 3
     have hfz31_4 := blk_frozen aX.out 4
     go_wp2
     refine bodyPost_ret (results_ctt rfl _ _ bn 33 #[.int .i64 0, .int .i64 0, .int .u64 0, .slice none 0 0, .slice none 0 0] (0, 0) _ rfl p8z Try.underlying33 rfl p16z) rfl ?_
     exact ⟨_, _, p6z, p9z, p9z, p11z⟩
    rw [if_pos c21] at H
    have c21b0 : ((wrap64 (Int.tmod bj 8)) == 2) = true := beq_iff_eq.mpr c21
    have c21b1 : ((wrap64 (Int.tmod bj 8)) != 2) = false := bne_eq_false_iff_eq.mpr c21
    clear c21
    replace H := Option.bind_eq_some_iff.mp H
    obtain ⟨⟨jT, lT, jw⟩, A220, H⟩ := H
    replace H : (if jw = 0 then (if jT > 1048576 then (some (0, 0, 0, ([] : List Int), ([] : List Int), 0, 5)) else (aa.j1 kj3 l0 lT (wrap64 (jT)) (wrap64 (IntKind.u64.wrap (Int.tdiv bj 8))) (wrap64 (Int.tmod bj 8)) 0)) else (some (0, 0, 0, ([] : List Int), ([] : List Int), 0, jw))) = some (r1, r2, r3, r4, r5, r6, r7) := H
    have A22 := Aside0.mk A220
    clear A220
    by_cases c23 : jw = 0
    case neg =>
     rw [if_neg c23] at H
     have l8 : (jw == 0) = false := beq_eq_false_iff_ne.mpr c23
     have lU : (jw != 0) = true := bne_iff_ne.mpr c23
     simp only [Option.some.injEq, Prod.mk.injEq] at H
     obtain ⟨rfl, rfl, rfl, rfl, rfl, rfl, rfl⟩ := H
     go_wp2_with (first | ((with_reducible refine gate_callee (f := 50) rfl ?_); refine goesL_ (some 69) rfl rfl Try.func50 p16z rfl #[.slice A0 l0.length c0, .int .i64 gi] rfl p2z ?_; (with_reducible refine (af.calls kj3 _ _ l0 gi jT lT jw _ ?side1 ?side2 A22.out).mono ?_); (case side1 => exact Kd.C_below HR0.out p11z); (case side2 => exact HC0.out); rintro e w' ⟨rfl, ⟨nd, rfl⟩⟩; refine ⟨_, rfl, ?_⟩; have hnb27 := NB211_215.out; have hnc27 := NB215_211.out; have hcz28_0 : w10.cell? ⟨bn, 0, none⟩ = some (.int .i64 0) := (blk_cell aX.out 0).trans rfl; have hcz28_1 : w10.cell? ⟨bn, 1, none⟩ = some (.int .i64 0) := (blk_cell aX.out 1).trans rfl; have hcz28_2 : w10.cell? ⟨bn, 2, none⟩ = some (.int .u64 0) := (blk_cell aX.out 2).trans rfl; have hcz28_3 : w10.cell? ⟨bn, 3, none⟩ = some (.slice none 0 0) := (blk_cell aX.out 3).trans rfl; have hcz28_4 : w10.cell? ⟨bn, 4, none⟩ = some (.slice none 0 0) := (blk_cell aX.out 4).trans rfl; have hfz28_0 := blk_frozen aX.out 0; have hfz28_1 := blk_frozen aX.out 1; have hfz28_2 := blk_frozen aX.out 2; have hfz28_3 := blk_frozen aX.out 3; have hfz28_4 := blk_frozen aX.out 4))
     refine bodyPost_ret (results_ctt rfl _ _ bn 33 #[.int .i64 0, .int .i64 0, .int .u64 0, .slice none 0 0, .slice none 0 0] (0, 0) _ rfl p8z Try.underlying33 rfl p16z) rfl ?_
     exact ⟨_, _, p6z, p9z, p9z, p11z⟩
    rw [if_pos c23] at H
    have l8 : (jw == 0) = true := beq_iff_eq.mpr c23
    have lU : (jw != 0) = false := bne_eq_false_iff_eq.mpr c23
    clear c23
    by_cases c24 : jT > 1048576
    case neg =>
     rw [if_neg c24] at H
     have c24b0 : decide (1048576 < jT) = false := decide_eq_false c24
     clear c24
     have H' := Aside0.mk H
     clear H
     go_wp2_with (first | ((with_reducible refine gate_callee (f := 50) rfl ?_); refine goesL_ (some 69) rfl rfl Try.func50 p16z rfl #[.slice A0 l0.length c0, .int .i64 gi] rfl p2z ?_; (with_reducible refine (af.calls kj3 _ _ l0 gi jT lT jw _ ?side1 ?side2 A22.out).mono ?_); (case side1 => exact Kd.C_below HR0.out p11z); (case side2 => exact HC0.out); rintro e w' ⟨rfl, ⟨nd, rfl⟩⟩; refine ⟨_, rfl, ?_⟩))
     go_meet
     case rel => exact ⟨_, (lT), (wrap64 (jT)), (0), (0), (0), (0), p21z, p21z, H', ⟨p200z⟩, ⟨p59z⟩, ⟨p28z⟩, ⟨p11z⟩⟩
    rw [if_pos c24] at H
    have c24b0 : decide (1048576 < jT) = true := decide_eq_true c24
    clear c24
    simp only [Option.some.injEq, Prod.mk.injEq] at H
    obtain ⟨rfl, rfl, rfl, rfl, rfl, rfl, rfl⟩ := H
    go_wp2_with (first | ((with_reducible refine gate_callee (f := 50) rfl ?_); refine goesL_ (some 69) rfl rfl Try.func50 p16z rfl #[.slice A0 l0.length c0, .int .i64 gi] rfl p2z ?_; (with_reducible refine (af.calls kj3 _ _ l0 gi jT lT jw _ ?side1 ?side2 A22.out).mono ?_); (case side1 => exact Kd.C_below HR0.out p11z); (case side2 => exact HC0.out); rintro e w' ⟨rfl, ⟨nd, rfl⟩⟩; refine ⟨_, rfl, ?_⟩; have hnb25 := NB211_215.out; have hnc25 := NB215_211.out; have hcz26_0 : w10.cell? ⟨bn, 0, none⟩ = some (.int .i64 0) := (blk_cell aX.out 0).trans rfl; have hcz26_1 : w10.cell? ⟨bn, 1, none⟩ = some (.int .i64 0) := (blk_cell aX.out 1).trans rfl; have hcz26_2 : w10.cell? ⟨bn, 2, none⟩ = some (.int .u64 0) := (blk_cell aX.out 2).trans rfl; have hcz26_3 : w10.cell? ⟨bn, 3, none⟩ = some (.slice none 0 0) := (blk_cell aX.out 3).trans rfl; have hcz26_4 : w10.cell? ⟨bn, 4, none⟩ = some (.slice none 0 0) := (blk_cell aX.out 4).trans rfl; have hfz26_0 := blk_frozen aX.out 0; have hfz26_1 := blk_frozen aX.out 1; have hfz26_2 := blk_frozen aX.out 2; have hfz26_3 := blk_frozen aX.out 3; have hfz26_4 := blk_frozen aX.out 4))
    refine bodyPost_ret (results_ctt rfl _ _ bn 33 #[.int .i64 0, .int .i64 0, .int .u64 0, .slice none 0 0, .slice none 0 0] (0, 0) _ rfl p8z Try.underlying33 rfl p16z) rfl ?_
    exact ⟨_, _, p6z, p9z, p9z, p11z⟩
   case rest =>
    clear HC9
    try clear c7
    try clear hcz12_0
    try clear hcz12_1
    try clear hcz12_2
    try clear hcz12_3
    try clear hcz12_4
    try clear hfz12_0
    try clear hfz12_1
    try clear hfz12_2
    try clear hfz12_3
    try clear hfz12_4
    obtain ⟨kq, dG, eJ, dH, d9, cN, dS, rfl, rfl, HA, HJ8, aX, ba, HB⟩ := hcut
    cases kq with
    | zero => exact absurd HA.out (by simp [aa.j1])
    | succ kj8 =>
     have H := HA.out
     clear HA
     simp only [aa.j1] at H
     by_cases c32 : eJ > (wrap64 ((l0.length : Int) - dG))
     case pos =>
      rw [if_pos c32] at H
      have la : decide ((wrap64 ((l0.length : Int) - dG)) < eJ) = true := decide_eq_true c32
      clear c32
      simp only [Option.some.injEq, Prod.mk.injEq] at H
      obtain ⟨rfl, rfl, rfl, rfl, rfl, rfl, rfl⟩ := H
      have hnb33 := NB211_215.out
      have hnc33 := NB215_211.out
      have hcz34_0 : wc.cell? ⟨bn, 0, none⟩ = some (.int .i64 dH) := (blk_cell aX.out 0).trans rfl
      have hcz34_1 : wc.cell? ⟨bn, 1, none⟩ = some (.int .i64 d9) := (blk_cell aX.out 1).trans rfl
      have hcz34_2 : wc.cell? ⟨bn, 2, none⟩ = some (.int .u64 cN) := (blk_cell aX.out 2).trans rfl
      have hcz34_3 : wc.cell? ⟨bn, 3, none⟩ = some (.slice none 0 0) := (blk_cell aX.out 3).trans rfl
      have hcz34_4 : wc.cell? ⟨bn, 4, none⟩ = some (.slice none 0 0) := (blk_cell aX.out 4).trans rfl
      have hfz34_0 := blk_frozen aX.out 0
      have hfz34_1 := blk_frozen aX.out 1
      have hfz34_2 := blk_frozen aX.out 2
      have hfz34_3 := blk_frozen aX.out 3
      have hfz34_4 := blk_frozen aX.out 4
      go_wp2
      refine bodyPost_ret (results_ctt rfl _ _ bn 33 #[.int .i64 0, .int .i64 0, .int .u64 0, .slice none 0 0, .slice none 0 0] (0, 0) _ rfl (by (with_reducible repeat (first | refine blk_drewN ?_ _ | refine blk_drew ?_ | refine blk_alloc ?_ _)); refine blk_put (cs := #[.int .i64 0, .int .i64 0, .int .u64 0, .slice none 0 0, .slice none 0 0]) ?_ 4 _ rfl; (with_reducible repeat (first | refine blk_drewN ?_ _ | refine blk_drew ?_ | refine blk_alloc ?_ _)); refine blk_put (cs := #[.int .i64 0, .int .i64 0, .int .u64 0, .slice none 0 0, .slice none 0 0]) ?_ 3 _ rfl; (with_reducible repeat (first | refine blk_drewN ?_ _ | refine blk_drew ?_ | refine blk_alloc ?_ _)); refine blk_put (cs := #[.int .i64 0, .int .i64 0, .int .u64 cN, .slice none 0 0, .slice none 0 0]) ?_ 2 _ rfl; (with_reducible repeat (first | refine blk_drewN ?_ _ | refine blk_drew ?_ | refine blk_alloc ?_ _)); refine blk_put (cs := #[.int .i64 0, .int .i64 d9, .int .u64 cN, .slice none 0 0, .slice none 0 0]) ?_ 1 _ rfl; (with_reducible repeat (first | refine blk_drewN ?_ _ | refine blk_drew ?_ | refine blk_alloc ?_ _)); refine blk_put (cs := #[.int .i64 dH, .int .i64 d9, .int .u64 cN, .slice none 0 0, .slice none 0 0]) ?_ 0 _ rfl; (with_reducible repeat (first | refine blk_drewN ?_ _ | refine blk_drew ?_ | refine blk_alloc ?_ _)); exact aX.out) Try.underlying33 rfl p16z) rfl ?_
      exact ⟨_, _, p6z, p9z, p9z, p11z⟩
     rw [if_neg c32] at H
     have la : decide ((wrap64 ((l0.length : Int) - dG)) < eJ) = false := decide_eq_false c32
     clear c32
     have HC35 := Aside0.mk H
     clear H
     have hnb36 := NB215_211.out
     have hnc36 := NB211_215.out
     have hcz37_0 : wc.cell? ⟨bR, 0, none⟩ = some (.int .i64 (wrap64 (IntKind.u64.wrap (Int.tdiv bj 8)))) := (blk_cell ba.out 0).trans rfl
     have hcz37_1 : wc.cell? ⟨bR, 1, none⟩ = some (.int .i64 (wrap64 (Int.tmod bj 8))) := (blk_cell ba.out 1).trans rfl
     have hcz37_2 : wc.cell? ⟨bR, 2, none⟩ = some (.int .u64 dS) := (blk_cell ba.out 2).trans rfl
     have hcz37_3 : wc.cell? ⟨bR, 3, none⟩ = some (.slice none 0 0) := (blk_cell ba.out 3).trans rfl
     have hcz37_4 : wc.cell? ⟨bR, 4, none⟩ = some (.slice none 0 0) := (blk_cell ba.out 4).trans rfl
     have hfz37_0 := blk_frozen ba.out 0
     have hfz37_1 := blk_frozen ba.out 1
     have hfz37_2 := blk_frozen ba.out 2
     have hfz37_3 := blk_frozen ba.out 3
     have hfz37_4 := blk_frozen ba.out 4
     go_upto_if 94 with (fail)
     go_cut [] (fun wc => ∃ (kq : Nat) (cC : List Int) (em : Value), Aside0 (aa.j2 kq l0 dG eJ (wrap64 (IntKind.u64.wrap (Int.tdiv bj 8))) (wrap64 (Int.tmod bj 8)) dS cC = some (r1, r2, r3, r4, r5, r6, r7)) ∧ Aside0 (kq ≤ kj8) ∧ Aside0 (Kd.R (Kd.int .u8) 5 wc w.heap.size (fun _ => True) em cC) ∧ Aside0 (wc.heap[bn]? = some (.cells #[.int .i64 dH, .int .i64 d9, .int .u64 cN, (.slice none 0 0), (.slice none 0 0)] 33 (0, 0))) ∧ Aside0 (wc.heap[bR]? = some (.cells #[.int .i64 (wrap64 (IntKind.u64.wrap (Int.tdiv bj 8))), .int .i64 (wrap64 (Int.tmod bj 8)), .int .u64 dS, em, (.slice none 0 0)] 33 (0, 0))) ∧ Aside0 (Below w.heap.size w wc))
     case first =>
      have H := HC35.out
      clear HC35
      by_cases c38 : (wrap64 (Int.tmod bj 8)) = 2
      case neg =>
       rw [if_neg c38] at H
       have iK : ((wrap64 (Int.tmod bj 8)) == 2) = false := beq_eq_false_iff_ne.mpr c38
       have lc : ((wrap64 (Int.tmod bj 8)) != 2) = true := bne_iff_ne.mpr c38
       (first | rw [iK] | (simp only [i64_w, i32_w]; rw [iK]) | skip)
       have H' := Aside0.mk H
       clear H
       go_wp2
       go_meet
       case rel => exact ⟨_, (([] : List Int)), (.slice none 0 0), H', ⟨by have := HJ3.out; have := HJ8.out; first | omega | exact Nat.le_refl _⟩, ⟨p9z⟩, ⟨p76z⟩, ⟨p157z⟩, ⟨p11z⟩⟩
      rw [if_pos c38] at H
      have iK : ((wrap64 (Int.tmod bj 8)) == 2) = true := beq_iff_eq.mpr c38
      have lc : ((wrap64 (Int.tmod bj 8)) != 2) = false := bne_eq_false_iff_eq.mpr c38
      clear c38
      (first | rw [iK] | (simp only [i64_w, i32_w]; rw [iK]) | skip)
      by_cases c39 : 0 ≤ dG
      case neg =>
       rw [if_neg c39] at H
       exact absurd H (by simp)
      rw [if_pos c39] at H
      have c39b0 := eq_true c39
      have c39b1 : decide (0 ≤ dG) = true := decide_eq_true c39
      clear c39
      by_cases c40 : dG ≤ (wrap64 (dG + eJ))
      case neg =>
       rw [if_neg c40] at H
       exact absurd H (by simp)
      rw [if_pos c40] at H
      have c40b0 := eq_true c40
      have c40b1 : decide (dG ≤ (wrap64 (dG + eJ))) = true := decide_eq_true c40
      by_cases c41 : (wrap64 (dG + eJ)) ≤ (l0.length : Int)
      case neg =>
       rw [if_neg c41] at H
       exact absurd H (by simp)
      rw [if_pos c41] at H
      have c41b0 := eq_true c41
      have c41b1 : decide ((wrap64 (dG + eJ)) ≤ (l0.length : Int)) = true := decide_eq_true c41
      replace H := Option.bind_eq_some_iff.mp H
      obtain ⟨kL, A420, H⟩ := H
      replace H : (aa.j2 kj8 l0 dG eJ (wrap64 (IntKind.u64.wrap (Int.tdiv bj 8))) (wrap64 (Int.tmod bj 8)) dS kL) = some (r1, r2, r3, r4, r5, r6, r7) := H
      have A42 := Aside0.mk A420
      clear A420
      have H' := Aside0.mk H
      clear H
      obtain ⟨i043, hi043, _, hsz43, _⟩ := info_parts info5
      obtain ⟨A43, hcut43, hA43, hC43⟩ := print_mid_of (P := Try.prog) (Value.int .u8) 0 22 5 .i64 .i64 Try.underlying22 hi043 hsz43 A0 c0 l0 dG (wrap64 (dG + eJ)) (of_decide_eq_true p10z) (by first | omega | exact of_decide_eq_true p10z) (of_decide_eq_true p10z) HC0.out
      have HR222 := Aside0.mk (Kd.C_of_reads (h1 := fun _ => rfl) (hA43 _ (Kd.reads_of_C HR0.out)))
      have HC222 := Aside0.mk hC43
      clear hA43 hC43 hi043 hsz43
      go_wp2_with (first | ((with_reducible refine gate_callee (f := 12) rfl ?_); refine goesL_ (some 101) rfl rfl Try.func12 p16z rfl #[.slice A43 ((l0.take ((wrap64 (dG + eJ)) : Int).toNat).drop (dG : Int).toNat).length (c0 - dG.toNat)] rfl (by (try simp only [List.map_toArray, List.map_cons, List.map_nil]); first | done | (rw [show ((l0.take ((wrap64 (dG + eJ)) : Int).toNat).drop (dG : Int).toNat).length = ((wrap64 (dG + eJ)).toNat - dG.toNat) from p173z] <;> rfl) | ((try have hl0_ := (show ((l0.take ((wrap64 (dG + eJ)) : Int).toNat).drop (dG : Int).toNat).length = ((wrap64 (dG + eJ)).toNat - dG.toNat) from p173z)); simp only [Array.mk.injEq, List.cons.injEq, Value.int.injEq, Value.slice.injEq, and_true, true_and]; omega) | rfl | (simp only [List.length_drop, List.length_take]; rfl)) ?_; (with_reducible refine (ag.calls _ _ ((l0.take ((wrap64 (dG + eJ)) : Int).toNat).drop (dG : Int).toNat) kL _ ?side1 ?side2 A42.out).mono ?_); (case side1 => repeat (first | exact (Kd.C_below HR222.out HB.out) | (with_reducible refine Kd.C_alloc ?_ _) | (with_reducible refine Kd.C_drewN ?_ _) | (with_reducible refine Kd.C_drew ?_))); (case side2 => exact HC222.out); rintro e w44 ⟨v224, rfl, ho0, hb⟩; refine ⟨_, rfl, ?_⟩; have z_ := asi4 (Kd.R_lower ho0 (below_size p11z)) (blk_below (g := bn) (o := .cells #[.int .i64 dH, .int .i64 d9, .int .u64 cN, .slice none 0 0, .slice none 0 0] 33 (0, 0)) p76z hb) (blk_below (g := bR) (o := .cells #[.int .i64 (wrap64 (IntKind.u64.wrap (Int.tdiv bj 8))), .int .i64 (wrap64 (Int.tmod bj 8)), .int .u64 dS, .slice none 0 0, .slice none 0 0] 33 (0, 0)) p157z hb) (below_step p11z hb); clear aX ba HB; obtain ⟨HO225, aX, ba, HB⟩ := z_; (try clear hb ho0); obtain ⟨lV, co45, eo45⟩ := Kd.R_slice HO225.out; subst eo45; have hnb46 := NB215_211.out; have hnc46 := NB211_215.out; have hcz47_0 : w44.cell? ⟨bR, 0, none⟩ = some (.int .i64 (wrap64 (IntKind.u64.wrap (Int.tdiv bj 8)))) := (blk_cell ba.out 0).trans rfl; have hcz47_1 : w44.cell? ⟨bR, 1, none⟩ = some (.int .i64 (wrap64 (Int.tmod bj 8))) := (blk_cell ba.out 1).trans rfl; have hcz47_2 : w44.cell? ⟨bR, 2, none⟩ = some (.int .u64 dS) := (blk_cell ba.out 2).trans rfl; have hcz47_3 : w44.cell? ⟨bR, 3, none⟩ = some (.slice none 0 0) := (blk_cell ba.out 3).trans rfl; have hcz47_4 : w44.cell? ⟨bR, 4, none⟩ = some (.slice none 0 0) := (blk_cell ba.out 4).trans rfl; have hfz47_0 := blk_frozen ba.out 0; have hfz47_1 := blk_frozen ba.out 1; have hfz47_2 := blk_frozen ba.out 2; have hfz47_3 := blk_frozen ba.out 3; have hfz47_4 := blk_frozen ba.out 4))
      go_meet
      case rel => exact ⟨_, (kL), (.slice lV kL.length co45), H', ⟨by have := HJ3.out; have := HJ8.out; first | omega | exact Nat.le_refl _⟩, ⟨by (with_reducible repeat (first | apply Kd.R_alloc | apply Kd.R_drewN | apply Kd.R_drew)); exact Kd.R_mono (Kd.R_far (p := ⟨bR, 3, none⟩) (Kd.R_types HO225.out ba.out (by decide)) (fun _ hk => hk.2) (.slice lV kL.length co45)) (fun _ hk => trivial)⟩, ⟨p202z⟩, ⟨by (with_reducible repeat (first | refine blk_drewN ?_ _ | refine blk_drew ?_ | refine blk_alloc ?_ _)); refine blk_put (cs := #[.int .i64 (wrap64 (IntKind.u64.wrap (Int.tdiv bj 8))), .int .i64 (wrap64 (Int.tmod bj 8)), .int .u64 dS, .slice none 0 0, .slice none 0 0]) ?_ 3 _ rfl; (with_reducible repeat (first | refine blk_drewN ?_ _ | refine blk_drew ?_ | refine blk_alloc ?_ _)); exact ba.out⟩, ⟨p11z⟩⟩
     case rest =>
      clear HC35
      try clear la
      try clear hcz37_0
      try clear hcz37_1
      try clear hcz37_2
      try clear hcz37_3
      try clear hcz37_4
      try clear hfz37_0
      try clear hfz37_1
      try clear hfz37_2
      try clear hfz37_3
      try clear hfz37_4
      obtain ⟨kq, cC, em, HA, HJ34, de, aX, ba, HB⟩ := hcut
      cases kq with
      | zero => exact absurd HA.out (by simp [aa.j2])
      | succ kj34 =>
       have H := HA.out
       clear HA
       simp only [aa.j2] at H
       have H' := Aside0.mk H
       clear H
       go_wp2
       go_loopg [16] kj34 (fun kq v16 w' => ∃ (i6 : Int) (bB : Int), v16 = .int .i64 i6 ∧ Aside0 (aa.l0 kq l0 dG eJ i6 (wrap64 (IntKind.u64.wrap (Int.tdiv bj 8))) (wrap64 (Int.tmod bj 8)) bB cC = some (r1, r2, r3, r4, r5, r6, r7)) ∧ Aside0 (kq ≤ kj34) ∧ Aside0 (Kd.R (Kd.int .u8) 5 w' w.heap.size (fun _ => True) em cC) ∧ Aside0 (w'.heap[bn]? = some (.cells #[.int .i64 dH, .int .i64 d9, .int .u64 cN, (.slice none 0 0), (.slice none 0 0)] 33 (0, 0))) ∧ Aside0 (w'.heap[bR]? = some (.cells #[.int .i64 (wrap64 (IntKind.u64.wrap (Int.tdiv bj 8))), .int .i64 (wrap64 (Int.tmod bj 8)), .int .u64 bB, em, (.slice none 0 0)] 33 (0, 0))) ∧ Aside0 (Below w.heap.size w w'))
       case atStart => exact ⟨(wrap64 (eJ - 1)), (dS), p21z, H', ⟨Nat.le_refl _⟩, ⟨p161z⟩, ⟨p76z⟩, ⟨p157z⟩, ⟨p11z⟩⟩
       case round =>
        clear H'
        obtain ⟨i6, bB, rfl, HA, HK4, de, aX, ba, HB⟩ := hrel
        cases gk with
        | zero => exact absurd HA.out (by simp [aa.l0])
        | succ k4 =>
         have H := HA.out
         clear HA
         simp only [aa.l0] at H
         by_cases c48 : i6 ≥ 0
         case neg =>
          rw [if_neg c48] at H
          have lW : decide (0 ≤ i6) = false := decide_eq_false c48
          clear c48
          obtain ⟨ji69, hji69⟩ : ∃ j_ : Int, (wrap64 (dG + eJ)) = j_ := ⟨_, rfl⟩
          replace H : (if 0 ≤ (ji69) then (if (ji69) ≤ (l0.length : Int) then ((ag.f (l0.take ((ji69) : Int).toNat)).bind fun jg => (some ((wrap64 (IntKind.u64.wrap (Int.tdiv bj 8))), (wrap64 (Int.tmod bj 8)), bB, cC, jg, ji69, 0))) else (none)) else (none)) = some (r1, r2, r3, r4, r5, r6, r7) := by first | (rw [hji69] at H; exact H) | (simp only [hji69] at H ⊢; exact H)
          have hji69w : (IntKind.i64.wrap (dG + eJ)) = ji69 := (i64_w _).trans hji69
          by_cases c70 : 0 ≤ (ji69)
          case neg =>
           rw [if_neg c70] at H
           exact absurd H (by simp)
          rw [if_pos c70] at H
          have c70b0 := eq_true c70
          have c70b1 : decide (0 ≤ (ji69)) = true := decide_eq_true c70
          clear c70
          by_cases c71 : (ji69) ≤ (l0.length : Int)
          case neg =>
           rw [if_neg c71] at H
           exact absurd H (by simp)
          rw [if_pos c71] at H
          have c71b0 := eq_true c71
          have c71b1 : decide ((ji69) ≤ (l0.length : Int)) = true := decide_eq_true c71
          clear c71
          replace H := Option.bind_eq_some_iff.mp H
          obtain ⟨jg, A720, H⟩ := H
          replace H : (some ((wrap64 (IntKind.u64.wrap (Int.tdiv bj 8))), (wrap64 (Int.tmod bj 8)), bB, cC, jg, ji69, 0)) = some (r1, r2, r3, r4, r5, r6, r7) := H
          have A72 := Aside0.mk A720
          clear A720
          simp only [Option.some.injEq, Prod.mk.injEq] at H
          obtain ⟨rfl, rfl, rfl, rfl, rfl, rfl, rfl⟩ := H
          obtain ⟨i073, hi073, _, hsz73, _⟩ := info_parts info5
          obtain ⟨hcut73, hA73, hC73⟩ := print_take_of (P := Try.prog) (Value.int .u8) 0 22 5 .i64 Try.underlying22 hi073 hsz73 A0 c0 l0 (ji69) (of_decide_eq_true p10z) (of_decide_eq_true p10z) HC0.out
          have HR231 := Aside0.mk (Kd.C_of_reads (h1 := fun _ => rfl) (hA73 _ (Kd.reads_of_C HR0.out)))
          have HC231 := Aside0.mk hC73
          clear hA73 hC73 hi073 hsz73
          go_wp2_with (first | ((with_reducible refine gate_callee (f := 12) rfl ?_); refine goesL_ (some 131) rfl rfl Try.func12 p16z rfl #[.slice A0 (l0.take ((ji69) : Int).toNat).length c0] rfl (by (try simp only [List.map_toArray, List.map_cons, List.map_nil]); first | done | (rw [show (l0.take ((ji69) : Int).toNat).length = (ji69).toNat from (by rw [List.length_take]; have h_ : ((ji69) : Int) ≤ (l0.length : Int) := of_decide_eq_true p10z; omega)] <;> rfl) | (simp only [hji69]; rfl) | ((try have hl0_ := (show ((l0.take ((wrap64 (dG + eJ)) : Int).toNat).drop (dG : Int).toNat).length = ((wrap64 (dG + eJ)).toNat - dG.toNat) from p173z)); (try have hl1_ := (show (l0.take ((ji50) : Int).toNat).length = (ji50).toNat from p216z)); (try have hl2_ := (show (l0.take ((ji69) : Int).toNat).length = (ji69).toNat from (by rw [List.length_take]; have h_ : ((ji69) : Int) ≤ (l0.length : Int) := of_decide_eq_true p10z; omega))); (try simp only [wrap64] at hji50 hji69); simp only [Array.mk.injEq, List.cons.injEq, Value.int.injEq, Value.slice.injEq, and_true, true_and]; omega) | rfl | (simp only [List.length_drop, List.length_take]; rfl)) ?_; (with_reducible refine (ag.calls _ _ (l0.take ((ji69) : Int).toNat) jg _ ?side1 ?side2 A72.out).mono ?_); (case side1 => repeat (first | exact (Kd.C_below HR231.out HB.out) | (with_reducible refine Kd.C_alloc ?_ _) | (with_reducible refine Kd.C_drewN ?_ _) | (with_reducible refine Kd.C_drew ?_))); (case side2 => exact HC231.out); rintro e w74 ⟨v233, rfl, ho0, hb⟩; refine ⟨_, rfl, ?_⟩; have z_ := asi5 (Kd.R_elder' p161z (Kd.R_base ho0) hb) (Kd.R_lower (Kd.R_new' ho0 (Kd.R_lt p161z)) (below_size p11z)) (blk_below (g := bn) (o := .cells #[.int .i64 dH, .int .i64 d9, .int .u64 cN, .slice none 0 0, .slice none 0 0] 33 (0, 0)) p76z hb) (blk_below (g := bR) (o := .cells #[.int .i64 (wrap64 (IntKind.u64.wrap (Int.tdiv bj 8))), .int .i64 (wrap64 (Int.tmod bj 8)), .int .u64 bB, em, .slice none 0 0] 33 (0, 0)) p157z hb) (below_step p11z hb); clear de aX ba HB; obtain ⟨de, HO234, aX, ba, HB⟩ := z_; (try clear hb ho0); obtain ⟨lC, co75, eo75⟩ := Kd.R_slice HO234.out; subst eo75; have hnb76 := NB215_211.out; have hnc76 := NB211_215.out; have hcz77_0 : w74.cell? ⟨bR, 0, none⟩ = some (.int .i64 (wrap64 (IntKind.u64.wrap (Int.tdiv bj 8)))) := (blk_cell ba.out 0).trans rfl; have hcz77_1 : w74.cell? ⟨bR, 1, none⟩ = some (.int .i64 (wrap64 (Int.tmod bj 8))) := (blk_cell ba.out 1).trans rfl; have hcz77_2 : w74.cell? ⟨bR, 2, none⟩ = some (.int .u64 bB) := (blk_cell ba.out 2).trans rfl; have hcz77_3 : w74.cell? ⟨bR, 3, none⟩ = some (em) := (blk_cell ba.out 3).trans rfl; have hcz77_4 : w74.cell? ⟨bR, 4, none⟩ = some (.slice none 0 0) := (blk_cell ba.out 4).trans rfl; have hfz77_0 := blk_frozen ba.out 0; have hfz77_1 := blk_frozen ba.out 1; have hfz77_2 := blk_frozen ba.out 2; have hfz77_3 := blk_frozen ba.out 3; have hfz77_4 := blk_frozen ba.out 4; have hcz78_0 : w74.cell? ⟨bn, 0, none⟩ = some (.int .i64 dH) := (blk_cell aX.out 0).trans rfl; have hcz78_1 : w74.cell? ⟨bn, 1, none⟩ = some (.int .i64 d9) := (blk_cell aX.out 1).trans rfl; have hcz78_2 : w74.cell? ⟨bn, 2, none⟩ = some (.int .u64 cN) := (blk_cell aX.out 2).trans rfl; have hcz78_3 : w74.cell? ⟨bn, 3, none⟩ = some (.slice none 0 0) := (blk_cell aX.out 3).trans rfl; have hcz78_4 : w74.cell? ⟨bn, 4, none⟩ = some (.slice none 0 0) := (blk_cell aX.out 4).trans rfl; have hfz78_0 := blk_frozen aX.out 0; have hfz78_1 := blk_frozen aX.out 1; have hfz78_2 := blk_frozen aX.out 2; have hfz78_3 := blk_frozen aX.out 3; have hfz78_4 := blk_frozen aX.out 4; obtain ⟨Ao79, co79, eo79⟩ := Kd.R_slice de.out; subst eo79))
          refine bodyPost_ret (results_ctt rfl _ _ bn 33 #[.int .i64 (wrap64 (IntKind.u64.wrap (Int.tdiv bj 8))), .int .i64 (wrap64 (Int.tmod bj 8)), .int .u64 bB, .slice Ao79 cC.length co79, .slice lC jg.length co75] (0, 0) _ rfl (by (with_reducible repeat (first | refine blk_drewN ?_ _ | refine blk_drew ?_ | refine blk_alloc ?_ _)); refine blk_put (cs := #[.int .i64 (wrap64 (IntKind.u64.wrap (Int.tdiv bj 8))), .int .i64 (wrap64 (Int.tmod bj 8)), .int .u64 bB, .slice Ao79 cC.length co79, .slice none 0 0]) ?_ 4 _ rfl; (with_reducible repeat (first | refine blk_drewN ?_ _ | refine blk_drew ?_ | refine blk_alloc ?_ _)); refine blk_put (cs := #[.int .i64 (wrap64 (IntKind.u64.wrap (Int.tdiv bj 8))), .int .i64 (wrap64 (Int.tmod bj 8)), .int .u64 bB, .slice none 0 0, .slice none 0 0]) ?_ 3 _ rfl; (with_reducible repeat (first | refine blk_drewN ?_ _ | refine blk_drew ?_ | refine blk_alloc ?_ _)); refine blk_put (cs := #[.int .i64 (wrap64 (IntKind.u64.wrap (Int.tdiv bj 8))), .int .i64 (wrap64 (Int.tmod bj 8)), .int .u64 cN, .slice none 0 0, .slice none 0 0]) ?_ 2 _ rfl; (with_reducible repeat (first | refine blk_drewN ?_ _ | refine blk_drew ?_ | refine blk_alloc ?_ _)); refine blk_put (cs := #[.int .i64 (wrap64 (IntKind.u64.wrap (Int.tdiv bj 8))), .int .i64 d9, .int .u64 cN, .slice none 0 0, .slice none 0 0]) ?_ 1 _ rfl; (with_reducible repeat (first | refine blk_drewN ?_ _ | refine blk_drew ?_ | refine blk_alloc ?_ _)); refine blk_put (cs := #[.int .i64 dH, .int .i64 d9, .int .u64 cN, .slice none 0 0, .slice none 0 0]) ?_ 0 _ rfl; (with_reducible repeat (first | refine blk_drewN ?_ _ | refine blk_drew ?_ | refine blk_alloc ?_ _)); refine blk_far ?_ NB211_215.out _; (with_reducible repeat (first | refine blk_drewN ?_ _ | refine blk_drew ?_ | refine blk_alloc ?_ _)); exact aX.out) Try.underlying33 rfl p16z) rfl ?_
          exact ⟨_, _, by first | rfl | (simp [errW_none, errW_some] <;> rfl) | (simp only [← hji69]; first | rfl | (simp [errW_none, errW_some] <;> rfl)) | (simp [*, errW_none, errW_some] <;> rfl), by (with_reducible repeat (first | apply Kd.R_alloc | apply Kd.R_drewN | apply Kd.R_drew)); exact Kd.R_mono (Kd.R_far (p := ⟨bn, 4, none⟩) (Kd.R_far (p := ⟨bn, 3, none⟩) (Kd.R_far (p := ⟨bn, 2, none⟩) (Kd.R_far (p := ⟨bn, 1, none⟩) (Kd.R_far (p := ⟨bn, 0, none⟩) (Kd.R_far (p := ⟨bR, 4, none⟩) (Kd.R_types (Kd.R_types de.out ba.out (by decide)) aX.out (by decide)) (fun _ hk => hk.1.2) (.slice lC jg.length co75)) (fun _ hk => hk.2) (.int .i64 (wrap64 (IntKind.u64.wrap (Int.tdiv bj 8))))) (fun _ hk => hk.2) (.int .i64 (wrap64 (Int.tmod bj 8)))) (fun _ hk => hk.2) (.int .u64 bB)) (fun _ hk => hk.2) (.slice Ao79 cC.length co79)) (fun _ hk => hk.2) (.slice lC jg.length co75)) (fun _ hk => hk.1.1.2), by (with_reducible repeat (first | apply Kd.R_alloc | apply Kd.R_drewN | apply Kd.R_drew)); exact Kd.R_mono (Kd.R_far (p := ⟨bn, 4, none⟩) (Kd.R_far (p := ⟨bn, 3, none⟩) (Kd.R_far (p := ⟨bn, 2, none⟩) (Kd.R_far (p := ⟨bn, 1, none⟩) (Kd.R_far (p := ⟨bn, 0, none⟩) (Kd.R_far (p := ⟨bR, 4, none⟩) (Kd.R_types (Kd.R_types HO234.out ba.out (by decide)) aX.out (by decide)) (fun _ hk => hk.1.2) (.slice lC jg.length co75)) (fun _ hk => hk.2) (.int .i64 (wrap64 (IntKind.u64.wrap (Int.tdiv bj 8))))) (fun _ hk => hk.2) (.int .i64 (wrap64 (Int.tmod bj 8)))) (fun _ hk => hk.2) (.int .u64 bB)) (fun _ hk => hk.2) (.slice Ao79 cC.length co79)) (fun _ hk => hk.2) (.slice lC jg.length co75)) (fun _ hk => hk.1.1.2), p11z⟩
         rw [if_pos c48] at H
         have lW : decide (0 ≤ i6) = true := decide_eq_true c48
         clear c48
         by_cases c49 : (wrap64 (Int.tmod bj 8)) = 2
         case pos =>
          rw [if_pos c49] at H
          have c49b0 : ((wrap64 (Int.tmod bj 8)) == 2) = true := beq_iff_eq.mpr c49
          have c49b1 : ((wrap64 (Int.tmod bj 8)) != 2) = false := bne_eq_false_iff_eq.mpr c49
          clear c49
          obtain ⟨ji50, hji50⟩ : ∃ j_ : Int, (wrap64 (dG + eJ)) = j_ := ⟨_, rfl⟩
          replace H : (if 0 ≤ (ji50) then (if (ji50) ≤ (l0.length : Int) then ((ag.f (l0.take ((ji50) : Int).toNat)).bind fun ie => (some ((wrap64 (IntKind.u64.wrap (Int.tdiv bj 8))), (wrap64 (Int.tmod bj 8)), bB, cC, ie, ji50, 0))) else (none)) else (none)) = some (r1, r2, r3, r4, r5, r6, r7) := by first | (rw [hji50] at H; exact H) | (simp only [hji50] at H ⊢; exact H)
          have hji50w : (IntKind.i64.wrap (dG + eJ)) = ji50 := (i64_w _).trans hji50
          by_cases c51 : 0 ≤ (ji50)
          case neg =>
           rw [if_neg c51] at H
           exact absurd H (by simp)
          rw [if_pos c51] at H
          have c51b0 := eq_true c51
          have c51b1 : decide (0 ≤ (ji50)) = true := decide_eq_true c51
          clear c51
          by_cases c52 : (ji50) ≤ (l0.length : Int)
          case neg =>
           rw [if_neg c52] at H
           exact absurd H (by simp)
          rw [if_pos c52] at H
          have c52b0 := eq_true c52
          have c52b1 : decide ((ji50) ≤ (l0.length : Int)) = true := decide_eq_true c52
          clear c52
          replace H := Option.bind_eq_some_iff.mp H
          obtain ⟨ie, A530, H⟩ := H
          replace H : (some ((wrap64 (IntKind.u64.wrap (Int.tdiv bj 8))), (wrap64 (Int.tmod bj 8)), bB, cC, ie, ji50, 0)) = some (r1, r2, r3, r4, r5, r6, r7) := H
          have A53 := Aside0.mk A530
          clear A530
          simp only [Option.some.injEq, Prod.mk.injEq] at H
          obtain ⟨rfl, rfl, rfl, rfl, rfl, rfl, rfl⟩ := H
          have hnb54 := NB215_211.out
          have hnc54 := NB211_215.out
          have hcz55_0 : wr.cell? ⟨bR, 0, none⟩ = some (.int .i64 (wrap64 (IntKind.u64.wrap (Int.tdiv bj 8)))) := (blk_cell ba.out 0).trans rfl
          have hcz55_1 : wr.cell? ⟨bR, 1, none⟩ = some (.int .i64 (wrap64 (Int.tmod bj 8))) := (blk_cell ba.out 1).trans rfl
          have hcz55_2 : wr.cell? ⟨bR, 2, none⟩ = some (.int .u64 bB) := (blk_cell ba.out 2).trans rfl
          have hcz55_3 : wr.cell? ⟨bR, 3, none⟩ = some (em) := (blk_cell ba.out 3).trans rfl
          have hcz55_4 : wr.cell? ⟨bR, 4, none⟩ = some (.slice none 0 0) := (blk_cell ba.out 4).trans rfl
          have hfz55_0 := blk_frozen ba.out 0
          have hfz55_1 := blk_frozen ba.out 1
          have hfz55_2 := blk_frozen ba.out 2
          have hfz55_3 := blk_frozen ba.out 3
          have hfz55_4 := blk_frozen ba.out 4
          obtain ⟨i056, hi056, _, hsz56, _⟩ := info_parts info5
          obtain ⟨hcut56, hA56, hC56⟩ := print_take_of (P := Try.prog) (Value.int .u8) 0 22 5 .i64 Try.underlying22 hi056 hsz56 A0 c0 l0 (ji50) (of_decide_eq_true p10z) (of_decide_eq_true p10z) HC0.out
          have HR226 := Aside0.mk (Kd.C_of_reads (h1 := fun _ => rfl) (hA56 _ (Kd.reads_of_C HR0.out)))
          have HC226 := Aside0.mk hC56
          clear hA56 hC56 hi056 hsz56
          go_wp2_with (first | ((with_reducible refine gate_callee (f := 12) rfl ?_); refine goesL_ (some 131) rfl rfl Try.func12 p16z rfl #[.slice A0 (l0.take ((ji50) : Int).toNat).length c0] rfl (by (try simp only [List.map_toArray, List.map_cons, List.map_nil]); first | done | (rw [show (l0.take ((ji50) : Int).toNat).length = (ji50).toNat from p216z] <;> rfl) | (simp only [hji50]; rfl) | ((try have hl0_ := (show ((l0.take ((wrap64 (dG + eJ)) : Int).toNat).drop (dG : Int).toNat).length = ((wrap64 (dG + eJ)).toNat - dG.toNat) from p173z)); (try have hl1_ := (show (l0.take ((ji50) : Int).toNat).length = (ji50).toNat from p216z)); (try simp only [wrap64] at hji50); simp only [Array.mk.injEq, List.cons.injEq, Value.int.injEq, Value.slice.injEq, and_true, true_and]; omega) | rfl | (simp only [List.length_drop, List.length_take]; rfl)) ?_; (with_reducible refine (ag.calls _ _ (l0.take ((ji50) : Int).toNat) ie _ ?side1 ?side2 A53.out).mono ?_); (case side1 => repeat (first | exact (Kd.C_below HR226.out HB.out) | (with_reducible refine Kd.C_alloc ?_ _) | (with_reducible refine Kd.C_drewN ?_ _) | (with_reducible refine Kd.C_drew ?_))); (case side2 => exact HC226.out); rintro e w57 ⟨v228, rfl, ho0, hb⟩; refine ⟨_, rfl, ?_⟩; have z_ := asi5 (Kd.R_elder' p161z (Kd.R_base ho0) hb) (Kd.R_lower (Kd.R_new' ho0 (Kd.R_lt p161z)) (below_size p11z)) (blk_below (g := bn) (o := .cells #[.int .i64 dH, .int .i64 d9, .int .u64 cN, .slice none 0 0, .slice none 0 0] 33 (0, 0)) p76z hb) (blk_below (g := bR) (o := .cells #[.int .i64 (wrap64 (IntKind.u64.wrap (Int.tdiv bj 8))), .int .i64 (wrap64 (Int.tmod bj 8)), .int .u64 bB, em, .slice none 0 0] 33 (0, 0)) p157z hb) (below_step p11z hb); clear de aX ba HB; obtain ⟨de, HO229, aX, ba, HB⟩ := z_; (try clear hb ho0); obtain ⟨lX, co58, eo58⟩ := Kd.R_slice HO229.out; subst eo58; have hcz59_0 : w57.cell? ⟨bR, 0, none⟩ = some (.int .i64 (wrap64 (IntKind.u64.wrap (Int.tdiv bj 8)))) := (blk_cell ba.out 0).trans rfl; have hcz59_1 : w57.cell? ⟨bR, 1, none⟩ = some (.int .i64 (wrap64 (Int.tmod bj 8))) := (blk_cell ba.out 1).trans rfl; have hcz59_2 : w57.cell? ⟨bR, 2, none⟩ = some (.int .u64 bB) := (blk_cell ba.out 2).trans rfl; have hcz59_3 : w57.cell? ⟨bR, 3, none⟩ = some (em) := (blk_cell ba.out 3).trans rfl; have hcz59_4 : w57.cell? ⟨bR, 4, none⟩ = some (.slice none 0 0) := (blk_cell ba.out 4).trans rfl; have hfz59_0 := blk_frozen ba.out 0; have hfz59_1 := blk_frozen ba.out 1; have hfz59_2 := blk_frozen ba.out 2; have hfz59_3 := blk_frozen ba.out 3; have hfz59_4 := blk_frozen ba.out 4; have hcz60_0 : w57.cell? ⟨bn, 0, none⟩ = some (.int .i64 dH) := (blk_cell aX.out 0).trans rfl; have hcz60_1 : w57.cell? ⟨bn, 1, none⟩ = some (.int .i64 d9) := (blk_cell aX.out 1).trans rfl; have hcz60_2 : w57.cell? ⟨bn, 2, none⟩ = some (.int .u64 cN) := (blk_cell aX.out 2).trans rfl; have hcz60_3 : w57.cell? ⟨bn, 3, none⟩ = some (.slice none 0 0) := (blk_cell aX.out 3).trans rfl; have hcz60_4 : w57.cell? ⟨bn, 4, none⟩ = some (.slice none 0 0) := (blk_cell aX.out 4).trans rfl; have hfz60_0 := blk_frozen aX.out 0; have hfz60_1 := blk_frozen aX.out 1; have hfz60_2 := blk_frozen aX.out 2; have hfz60_3 := blk_frozen aX.out 3; have hfz60_4 := blk_frozen aX.out 4; obtain ⟨lB, co61, eo61⟩ := Kd.R_slice de.out; subst eo61))
          refine bodyPost_ret (results_ctt rfl _ _ bn 33 #[.int .i64 (wrap64 (IntKind.u64.wrap (Int.tdiv bj 8))), .int .i64 (wrap64 (Int.tmod bj 8)), .int .u64 bB, .slice lB cC.length co61, .slice lX ie.length co58] (0, 0) _ rfl (by (with_reducible repeat (first | refine blk_drewN ?_ _ | refine blk_drew ?_ | refine blk_alloc ?_ _)); refine blk_put (cs := #[.int .i64 (wrap64 (IntKind.u64.wrap (Int.tdiv bj 8))), .int .i64 (wrap64 (Int.tmod bj 8)), .int .u64 bB, .slice lB cC.length co61, .slice none 0 0]) ?_ 4 _ rfl; (with_reducible repeat (first | refine blk_drewN ?_ _ | refine blk_drew ?_ | refine blk_alloc ?_ _)); refine blk_put (cs := #[.int .i64 (wrap64 (IntKind.u64.wrap (Int.tdiv bj 8))), .int .i64 (wrap64 (Int.tmod bj 8)), .int .u64 bB, .slice none 0 0, .slice none 0 0]) ?_ 3 _ rfl; (with_reducible repeat (first | refine blk_drewN ?_ _ | refine blk_drew ?_ | refine blk_alloc ?_ _)); refine blk_put (cs := #[.int .i64 (wrap64 (IntKind.u64.wrap (Int.tdiv bj 8))), .int .i64 (wrap64 (Int.tmod bj 8)), .int .u64 cN, .slice none 0 0, .slice none 0 0]) ?_ 2 _ rfl; (with_reducible repeat (first | refine blk_drewN ?_ _ | refine blk_drew ?_ | refine blk_alloc ?_ _)); refine blk_put (cs := #[.int .i64 (wrap64 (IntKind.u64.wrap (Int.tdiv bj 8))), .int .i64 d9, .int .u64 cN, .slice none 0 0, .slice none 0 0]) ?_ 1 _ rfl; (with_reducible repeat (first | refine blk_drewN ?_ _ | refine blk_drew ?_ | refine blk_alloc ?_ _)); refine blk_put (cs := #[.int .i64 dH, .int .i64 d9, .int .u64 cN, .slice none 0 0, .slice none 0 0]) ?_ 0 _ rfl; (with_reducible repeat (first | refine blk_drewN ?_ _ | refine blk_drew ?_ | refine blk_alloc ?_ _)); refine blk_far ?_ NB211_215.out _; (with_reducible repeat (first | refine blk_drewN ?_ _ | refine blk_drew ?_ | refine blk_alloc ?_ _)); exact aX.out) Try.underlying33 rfl p16z) rfl ?_
          exact ⟨_, _, by first | rfl | (simp [errW_none, errW_some] <;> rfl) | (simp only [← hji50]; first | rfl | (simp [errW_none, errW_some] <;> rfl)) | (simp [*, errW_none, errW_some] <;> rfl), by (with_reducible repeat (first | apply Kd.R_alloc | apply Kd.R_drewN | apply Kd.R_drew)); exact Kd.R_mono (Kd.R_far (p := ⟨bn, 4, none⟩) (Kd.R_far (p := ⟨bn, 3, none⟩) (Kd.R_far (p := ⟨bn, 2, none⟩) (Kd.R_far (p := ⟨bn, 1, none⟩) (Kd.R_far (p := ⟨bn, 0, none⟩) (Kd.R_far (p := ⟨bR, 4, none⟩) (Kd.R_types (Kd.R_types de.out ba.out (by decide)) aX.out (by decide)) (fun _ hk => hk.1.2) (.slice lX ie.length co58)) (fun _ hk => hk.2) (.int .i64 (wrap64 (IntKind.u64.wrap (Int.tdiv bj 8))))) (fun _ hk => hk.2) (.int .i64 (wrap64 (Int.tmod bj 8)))) (fun _ hk => hk.2) (.int .u64 bB)) (fun _ hk => hk.2) (.slice lB cC.length co61)) (fun _ hk => hk.2) (.slice lX ie.length co58)) (fun _ hk => hk.1.1.2), by (with_reducible repeat (first | apply Kd.R_alloc | apply Kd.R_drewN | apply Kd.R_drew)); exact Kd.R_mono (Kd.R_far (p := ⟨bn, 4, none⟩) (Kd.R_far (p := ⟨bn, 3, none⟩) (Kd.R_far (p := ⟨bn, 2, none⟩) (Kd.R_far (p := ⟨bn, 1, none⟩) (Kd.R_far (p := ⟨bn, 0, none⟩) (Kd.R_far (p := ⟨bR, 4, none⟩) (Kd.R_types (Kd.R_types HO229.out ba.out (by decide)) aX.out (by decide)) (fun _ hk => hk.1.2) (.slice lX ie.length co58)) (fun _ hk => hk.2) (.int .i64 (wrap64 (IntKind.u64.wrap (Int.tdiv bj 8))))) (fun _ hk => hk.2) (.int .i64 (wrap64 (Int.tmod bj 8)))) (fun _ hk => hk.2) (.int .u64 bB)) (fun _ hk => hk.2) (.slice lB cC.length co61)) (fun _ hk => hk.2) (.slice lX ie.length co58)) (fun _ hk => hk.1.1.2), p11z⟩
         rw [if_neg c49] at H
         have c49b0 : ((wrap64 (Int.tmod bj 8)) == 2) = false := beq_eq_false_iff_ne.mpr c49
         have c49b1 : ((wrap64 (Int.tmod bj 8)) != 2) = true := bne_iff_ne.mpr c49
         obtain ⟨ji62, hji62⟩ : ∃ j_ : Int, (wrap64 (dG + i6)) = j_ := ⟨_, rfl⟩
         replace H : (if 0 ≤ (ji62) then (if (ji62) < (l0.length : Int) then (aa.l0 k4 l0 dG eJ (wrap64 (i6 - 1)) (wrap64 (IntKind.u64.wrap (Int.tdiv bj 8))) (wrap64 (Int.tmod bj 8)) (IntKind.u64.wrap ((IntKind.u64.wrap (256 * bB)) + (IntKind.u64.wrap (rd l0 (ji62))))) cC) else (none)) else (none)) = some (r1, r2, r3, r4, r5, r6, r7) := by first | (rw [hji62] at H; exact H) | (simp only [hji62] at H ⊢; exact H)
         have hji62w : (IntKind.i64.wrap (dG + i6)) = ji62 := (i64_w _).trans hji62
         by_cases c63 : 0 ≤ (ji62)
         case neg =>
          rw [if_neg c63] at H
          exact absurd H (by simp)
         rw [if_pos c63] at H
         have lY : decide (0 ≤ (ji62)) = true := decide_eq_true c63
         clear c63
         by_cases c64 : (ji62) < (l0.length : Int)
         case neg =>
          rw [if_neg c64] at H
          exact absurd H (by simp)
         rw [if_pos c64] at H
         have c64b0 : decide ((ji62) < (l0.length : Int)) = true := decide_eq_true c64
         clear c64
         have H' := Aside0.mk H
         clear H
         have hnb65 := NB215_211.out
         have hnc65 := NB211_215.out
         have hcz66_0 : wr.cell? ⟨bR, 0, none⟩ = some (.int .i64 (wrap64 (IntKind.u64.wrap (Int.tdiv bj 8)))) := (blk_cell ba.out 0).trans rfl
         have hcz66_1 : wr.cell? ⟨bR, 1, none⟩ = some (.int .i64 (wrap64 (Int.tmod bj 8))) := (blk_cell ba.out 1).trans rfl
         have hcz66_2 : wr.cell? ⟨bR, 2, none⟩ = some (.int .u64 bB) := (blk_cell ba.out 2).trans rfl
         have hcz66_3 : wr.cell? ⟨bR, 3, none⟩ = some (em) := (blk_cell ba.out 3).trans rfl
         have hcz66_4 : wr.cell? ⟨bR, 4, none⟩ = some (.slice none 0 0) := (blk_cell ba.out 4).trans rfl
         have hfz66_0 := blk_frozen ba.out 0
         have hfz66_1 := blk_frozen ba.out 1
         have hfz66_2 := blk_frozen ba.out 2
         have hfz66_3 := blk_frozen ba.out 3
         have hfz66_4 := blk_frozen ba.out 4
         try go_wp2
         have n0_ := Aside0.mk (Kd.R_drew de.out)
         have n1_ := Aside0.mk (blk_drew aX.out)
         have n2_ := Aside0.mk (blk_drew ba.out)
         have n3_ := Aside0.mk (below_drew1 HB.out)
         clear de
         clear aX
         clear ba
         clear HB
         have de := n0_
         have aX := n1_
         have ba := n2_
         have HB := n3_
         clear n0_ n1_ n2_ n3_
         have p230 : 0 ≤ ((ji62) : Int) := of_decide_eq_true p10z
         have q230 : (ji62) < (l0.length : Int) := of_decide_eq_true p10z
         obtain ⟨ad230, e230, hx230_0⟩ := Kd.at_int HR0.out (ji62) p230 q230
         have hw230_0 := hx230_0
         cases e230
         replace hx230_0 := (HB.out.cell (World.block_lt_of_cell? w _ hx230_0)).trans hx230_0
         replace p230 := eq_true p230
         replace q230 := eq_true q230
         refine start_ (n := 13) (S := fun w' => w'.cell? ⟨bR, 0, none⟩ = some (.int .i64 (wrap64 (IntKind.u64.wrap (Int.tdiv bj 8)))) ∧ w'.cell? ⟨bR, 1, none⟩ = some (.int .i64 (wrap64 (Int.tmod bj 8))) ∧ w'.cell? ⟨bR, 2, none⟩ = some (.int .u64 bB) ∧ w'.cell? ⟨bR, 3, none⟩ = some (em) ∧ w'.cell? ⟨bR, 4, none⟩ = some (.slice none 0 0) ∧ w'.cell? (ad230.add ((ji62)).toNat) = some (.int .u8 (rd l0 (ji62)))) (ds := [12]) (tf 0 13) p16z rfl rfl ⟨(blk_cell ba.out 0).trans rfl, (blk_cell ba.out 1).trans rfl, (blk_cell ba.out 2).trans rfl, (blk_cell ba.out 3).trans rfl, (blk_cell ba.out 4).trans rfl, ((HB.out.cell (World.block_lt_of_cell? w _ hw230_0)).trans hw230_0)⟩ (fun hHeld => ?_); refine with_tabW aa.tab35 aa.bits35 (fun HT_ HW_ => ?_)
         generalize wr.drew = w67 at de aX ba HB hx230_0 hHeld ⊢
         refine pure_ (i := 0) (N := some 114) (v := ?_) (a' := ?_) (tf 1 12) rfl rfl (any_of HT_.out p16z) (fun _ _ _ h => h) (Or.inl ⟨by rfl, ?_⟩) ?_ ?_
         rotate_left
         ·intro w'
          go_simp
          with_reducible rfl
         rotate_left
         ·exact p1z
         refine pure_ (i := 3) (N := some 117) (v := ?_) (a' := ?_) (tfs true [1, 2, 1, 9]) rfl rfl (any_of HT_.out p16z) (fun _ _ _ h => h) (Or.inl ⟨by rfl, ?_⟩) ?_ ?_
         rotate_left
         ·intro w'
          go_simp
          with_reducible rfl
         rotate_left
         ·exact p1z
         refine pure_ (i := 4) (N := some 118) (v := ?_) (a' := ?_) (tfs true [1, 2, 2, 8]) rfl rfl (any_of HT_.out p16z) (fun _ _ _ h => h) (Or.inl ⟨by rfl, ?_⟩) ?_ ?_
         rotate_left
         ·intro w'
          go_simp
          with_reducible rfl
         rotate_left
         ·exact p1z
         refine pure_ (i := 5) (N := some 119) (v := ?_) (a' := ?_) (tfs true [1, 2, 3, 7]) rfl rfl (any_of HT_.out p16z) (fun _ _ _ h => h) (Or.inl ⟨by rfl, ?_⟩) ?_ ?_
         rotate_left
         ·intro w'
          go_simp
          with_reducible rfl
         rotate_left
         ·exact p1z
         refine pure_ (i := 6) (N := some 120) (v := ?_) (a' := ?_) (tfs true [1, 2, 4, 6]) rfl rfl (any_of HT_.out p16z) (fun _ _ _ h => h) (Or.inl ⟨by rfl, ?_⟩) ?_ ?_
         rotate_left
         ·intro w'
          go_simp
          with_reducible rfl
         rotate_left
         ·exact p1z
         refine pure_ (i := 7) (N := some 121) (v := ?_) (a' := ?_) (tfs true [1, 2, 5, 5]) rfl rfl (any_of HT_.out p16z) (fun _ _ _ h => h) (Or.inl ⟨by rfl, ?_⟩) ?_ ?_
         rotate_left
         ·intro w'
          go_simp
          with_reducible rfl
         rotate_left
         ·exact p1z
         refine take_ (i := 1) (N := some 115) (v := ?_) (a' := ?_) (tfs true [2, 1, 5, 5]) rfl rfl (take_ofW HT_.out HW_.out p16z) (fun _ _ _ h => h) (Or.inl ⟨by rfl, ?_⟩) hHeld ?_ ?_
         rotate_left
         ·rintro w' ⟨s0, s1, s2, s3, s4, s5⟩
          go_simp
          with_reducible rfl
         rotate_left
         ·exact p1z
         refine pure_ (i := 2) (N := some 116) (v := ?_) (a' := ?_) (tf 8 5) rfl rfl (any_of HT_.out p16z) (fun _ _ _ h => h) (Or.inl ⟨by rfl, ?_⟩) ?_ ?_
         rotate_left
         ·intro w'
          go_simp
          with_reducible rfl
         rotate_left
         ·exact p1z
         refine take_ (i := 8) (N := some 122) (v := ?_) (a' := ?_) (tf 9 4) rfl rfl (take_ofW HT_.out HW_.out p16z) (fun _ _ _ h => h) (Or.inl ⟨by rfl, ?_⟩) hHeld ?_ ?_
         rotate_left
         ·rintro w' ⟨s0, s1, s2, s3, s4, s5⟩
          go_simp
          with_reducible rfl
         rotate_left
         ·exact p1z
         refine pure_ (i := 9) (N := some 123) (v := ?_) (a' := ?_) (tf 10 3) rfl rfl (any_of HT_.out p16z) (fun _ _ _ h => h) (Or.inl ⟨by rfl, ?_⟩) ?_ ?_
         rotate_left
         ·intro w'
          go_simp
          with_reducible rfl
         rotate_left
         ·exact p1z
         refine pure_ (i := 10) (N := some 124) (v := ?_) (a' := ?_) (tf 11 2) rfl rfl (any_of HT_.out p16z) (fun _ _ _ h => h) (Or.inl ⟨by rfl, ?_⟩) ?_ ?_
         rotate_left
         ·intro w'
          go_simp
          with_reducible rfl
         rotate_left
         ·exact p1z
         refine pure_ (i := 11) (N := some 125) (v := ?_) (a' := ?_) (tf 12 1) rfl rfl (any_of HT_.out p16z) (fun _ _ _ h => h) (Or.inl ⟨by rfl, ?_⟩) ?_ ?_
         rotate_left
         ·intro w'
          go_simp
          with_reducible rfl
         rotate_left
         ·exact p1z
         refine last_ (i := 12) (N := none) (tf 13 0) rfl rfl (one_of HT_.out p16z) (by decide) (fun K hK => ?_)
         have hs68 : w67.cell? ⟨bR, 2, none⟩ = some (.int .u64 bB) := (blk_cell ba.out 2).trans rfl
         have hfs68 := blk_frozen ba.out 2
         have hns68_0 := NB211_215.out
         have hms68_0 := NB215_211.out
         refine skip_ (w1 := ?_) (by rfl) rfl ?_ ?_
         rotate_left
         ·go_simp
          rfl
         refine hK.out _ _ ?_
         clear hK K
         refine done_ (done_of HT_.out p16z) ?_
         try go_wp2
         go_roundg k4
         case measure => have := HJ3.out; have := HJ8.out; have := HJ34.out; have := HK4.out; omega
         case rel => exact ⟨(wrap64 (i6 - 1)), (IntKind.u64.wrap ((IntKind.u64.wrap (256 * bB)) + (IntKind.u64.wrap (rd l0 (ji62))))), p21z, H', ⟨by have := HJ3.out; have := HJ8.out; have := HJ34.out; have := HK4.out; omega⟩, ⟨by (with_reducible repeat (first | apply Kd.R_alloc | apply Kd.R_drewN | apply Kd.R_drew)); exact Kd.R_mono (Kd.R_far (p := ⟨bR, 2, none⟩) (Kd.R_types de.out ba.out (by decide)) (fun _ hk => hk.2) (.int .u64 (IntKind.u64.wrap ((IntKind.u64.wrap (256 * bB)) + (IntKind.u64.wrap (rd l0 (ji62))))))) (fun _ hk => trivial)⟩, ⟨p202z⟩, ⟨by (with_reducible repeat (first | refine blk_drewN ?_ _ | refine blk_drew ?_ | refine blk_alloc ?_ _)); refine blk_put (cs := #[.int .i64 (wrap64 (IntKind.u64.wrap (Int.tdiv bj 8))), .int .i64 (wrap64 (Int.tmod bj 8)), .int .u64 bB, em, .slice none 0 0]) ?_ 2 _ rfl; (with_reducible repeat (first | refine blk_drewN ?_ _ | refine blk_drew ?_ | refine blk_alloc ?_ _)); exact ba.out⟩, ⟨p11z⟩⟩
end Go.Proofs.Ytbclejgljegfmaa.PAll
