-- Written by this repo's program wip/tools/pr.py (over the kit's print) out of the translation. Not trusted: Lean checks it.
import Derived.Test.YtbclejgljegfmaaAp
import Derived.Test.YtbclejgljegfmaaPAllx0
set_option maxHeartbeats 8000000
set_option maxRecDepth 100000
namespace Go.Proofs.Ytbclejgljegfmaa.PAll
open Go.Proofs.Ytbclejgljegfmaa.Hand
open Go.RowKit Go.Proofs.YtbclejgljegfmaaW.PrintWords Go.Proofs.YtbclejgljegfmaaW.PrintLast Go.Proofs.YtbclejgljegfmaaW.PrintMore
attribute [local go_sem] max2_int min2_int max_two min_two max_three min_three max_four min_four   -- for this text's walks alone
set_option linter.unusedVariables false
set_option linter.unusedSimpArgs false

/-! ### ab: function 14 -/
def ab.f (l0 : List Int) (l1 : List Int) : Option (Bool) := some ((strOfNums l0).toList == (strOfNums l1).toList)
theorem ab.calls (A0 : Option Addr) (c0 : Nat) (l0 : List Int) (A1 : Option Addr) (c1 : Nat) (l1 : List Int) (r : Bool) (w : World) (hr0 : Kd.C (Kd.int .u8) w A0 l0.length l0) (hc0 : l0.length ≤ c0) (hr1 : Kd.C (Kd.int .u8) w A1 l1.length l1) (hc1 : l1.length ≤ c1) (h : ab.f l0 l1 = some r) :
    Calls Try.prog 14 #[.slice A0 l0.length c0, .slice A1 l1.length c1] w fun e w' => e = .returned (.bool r) ∧ Drawn0 w w' := by
  have HR0 := Aside0.mk hr0
  have HC0 := Aside0.mk hc0
  clear hr0 hc0
  have HR1 := Aside0.mk hr1
  have HC1 := Aside0.mk hc1
  clear hr1 hc1
  have H : (some ((strOfNums l0).toList == (strOfNums l1).toList)) = some r := h
  clear h
  obtain rfl := Option.some.inj H
  have hcv3 := Kd.C_string (P := Try.prog) (A := A0) (c := c0) Try.underlying22 Try.underlying5 Try.underlying9 HR0.out
  have hcv4 := Kd.C_string (P := Try.prog) (A := A1) (c := c1) Try.underlying22 Try.underlying5 Try.underlying9 HR1.out
  go_enter Try.func14, Try.ntmps14
  go_wp2
  go_ret
  exact ⟨p21z, p87z⟩

/-! ### an: function 54 -/
def an.l0 : Nat → List Int → List Int → Int → Int → Option (Bool)
  | 0, _, _, _, _ => none
  | k + 1, x0, x1, x12, x13 => if x13 < x12 then (if 0 ≤ x13 then (if x13 < (x0.length : Int) then (if x13 < (x1.length : Int) then (if (rd x0 x13) = (rd x1 x13) then (an.l0 k x0 x1 x12 (wrap64 (x13 + 1))) else (some false)) else (none)) else (none)) else (none)) else (some true)
def an.f (k : Nat) (l0 : List Int) (l1 : List Int) : Option (Bool) := if (l0.length : Int) = (l1.length : Int) then (an.l0 k l0 l1 (l0.length : Int) 0) else (some false)
theorem an.calls (k : Nat) (A0 : Option Addr) (c0 : Nat) (l0 : List Int) (A1 : Option Addr) (c1 : Nat) (l1 : List Int) (r : Bool) (w : World) (hr0 : Kd.C (Kd.int .u8) w A0 l0.length l0) (hc0 : l0.length ≤ c0) (hr1 : Kd.C (Kd.int .u8) w A1 l1.length l1) (hc1 : l1.length ≤ c1) (h : an.f k l0 l1 = some r) :
 Calls Try.prog 54 #[.slice A0 l0.length c0, .slice A1 l1.length c1] w fun e w' => e = .returned (.bool r) ∧ Drawn0 w w' := by
 have HR0 := Aside0.mk hr0
 have HC0 := Aside0.mk hc0
 clear hr0 hc0
 have HR1 := Aside0.mk hr1
 have HC1 := Aside0.mk hc1
 clear hr1 hc1
 have H : (if (l0.length : Int) = (l1.length : Int) then (an.l0 k l0 l1 (l0.length : Int) 0) else (some false)) = some r := h
 clear h
 by_cases c3 : (l0.length : Int) = (l1.length : Int)
 case neg =>
  rw [if_neg c3] at H
  have eh : ((l0.length : Int) == (l1.length : Int)) = false := beq_eq_false_iff_ne.mpr c3
  have gh : ((l0.length : Int) != (l1.length : Int)) = true := bne_iff_ne.mpr c3
  have lP : (l0.length == l1.length) = false := p247z
  obtain rfl := Option.some.inj H
  go_enter Try.func54, Try.ntmps54
  go_wp2
  repeat (go_quiet (fail); try go_wp2)
  go_ret
  exact ⟨p21z, p87z⟩

 rw [if_pos c3] at H
 have eh : ((l0.length : Int) == (l1.length : Int)) = true := beq_iff_eq.mpr c3
 have gh : ((l0.length : Int) != (l1.length : Int)) = false := bne_eq_false_iff_eq.mpr c3
 have lP : (l0.length == l1.length) = true := p247z
 clear c3
 have H' := Aside0.mk H
 clear H
 go_enter Try.func54, Try.ntmps54
 go_wp2
 repeat (go_quiet (fail); try go_wp2)
 go_loopg [13] k (fun kq v13 w' => ∃ (dt : Int), v13 = .int .i64 dt ∧ Aside0 (an.l0 kq l0 l1 (l0.length : Int) dt = some r) ∧ Aside0 (kq ≤ k) ∧ Drawn0 w w')
 case atStart => exact ⟨(0), p21z, H', ⟨Nat.le_refl _⟩, p87z⟩
 case round =>
  clear H'
  try clear c1
  try clear eh
  try clear gh
  try clear lP
  obtain ⟨dt, rfl, HA, HK1, ⟨m1, rfl⟩⟩ := hrel
  cases gk with
  | zero => exact absurd HA.out (by simp [an.l0])
  | succ k1 =>
   have H := HA.out
   clear HA
   simp only [an.l0] at H
   by_cases c4 : dt < (l0.length : Int)
   case neg =>
    rw [if_neg c4] at H
    have gx : decide (dt < (l0.length : Int)) = false := decide_eq_false c4
    clear c4
    obtain rfl := Option.some.inj H
    go_wp2
    repeat (go_quiet (fail); try go_wp2)
    go_ret
    exact ⟨p21z, p87z⟩
   rw [if_pos c4] at H
   have gx : decide (dt < (l0.length : Int)) = true := decide_eq_true c4
   clear c4
   by_cases c5 : 0 ≤ dt
   case neg =>
    rw [if_neg c5] at H
    exact absurd H (by simp)
   rw [if_pos c5] at H
   have gI : decide (0 ≤ dt) = true := decide_eq_true c5
   clear c5
   by_cases c6 : dt < (l0.length : Int)
   case neg =>
    rw [if_neg c6] at H
    exact absurd H (by simp)
   rw [if_pos c6] at H
   have js : decide (dt < (l0.length : Int)) = true := decide_eq_true c6
   clear c6
   by_cases c7 : dt < (l1.length : Int)
   case neg =>
    rw [if_neg c7] at H
    exact absurd H (by simp)
   rw [if_pos c7] at H
   have fs : decide (dt < (l1.length : Int)) = true := decide_eq_true c7
   clear c7
   by_cases c8 : (rd l0 dt) = (rd l1 dt)
   case neg =>
    rw [if_neg c8] at H
    have ij : ((rd l0 dt) == (rd l1 dt)) = false := beq_eq_false_iff_ne.mpr c8
    have lz : ((rd l0 dt) != (rd l1 dt)) = true := bne_iff_ne.mpr c8
    obtain rfl := Option.some.inj H
    have p101 : 0 ≤ (dt : Int) := of_decide_eq_true p10z
    have q101 : dt < (l0.length : Int) := of_decide_eq_true p10z
    obtain ⟨ad101, e101, hx101_0⟩ := Kd.at_int HR0.out dt p101 q101
    cases e101
    replace p101 := eq_true p101
    replace q101 := eq_true q101
    have p102 : 0 ≤ (dt : Int) := of_decide_eq_true p10z
    have q102 : dt < (l1.length : Int) := of_decide_eq_true p10z
    obtain ⟨ad102, e102, hx102_0⟩ := Kd.at_int HR1.out dt p102 q102
    cases e102
    replace p102 := eq_true p102
    replace q102 := eq_true q102
    go_wp2
    repeat (go_quiet (fail); try go_wp2)
    go_ret
    exact ⟨p21z, p87z⟩
   rw [if_pos c8] at H
   have ij : ((rd l0 dt) == (rd l1 dt)) = true := beq_iff_eq.mpr c8
   have lz : ((rd l0 dt) != (rd l1 dt)) = false := bne_eq_false_iff_eq.mpr c8
   clear c8
   have H' := Aside0.mk H
   clear H
   have p101 : 0 ≤ (dt : Int) := of_decide_eq_true p10z
   have q101 : dt < (l0.length : Int) := of_decide_eq_true p10z
   obtain ⟨ad101, e101, hx101_0⟩ := Kd.at_int HR0.out dt p101 q101
   cases e101
   replace p101 := eq_true p101
   replace q101 := eq_true q101
   have p102 : 0 ≤ (dt : Int) := of_decide_eq_true p10z
   have q102 : dt < (l1.length : Int) := of_decide_eq_true p10z
   obtain ⟨ad102, e102, hx102_0⟩ := Kd.at_int HR1.out dt p102 q102
   cases e102
   replace p102 := eq_true p102
   replace q102 := eq_true q102
   go_wp2
   repeat (go_quiet (fail); try go_wp2)
   go_roundg k1
   case measure => have := HK1.out; omega
   case rel => exact ⟨(wrap64 (dt + 1)), p21z, H', ⟨p217z⟩, p87z⟩
/-! ### wire_Same: function 35 -/
def wire_Same.f (k : Nat) (a0_0 : Int) (a0_1 : Int) (a0_2 : Int) (aY : List Int) (ay : List Int) (a1_0 : Int) (a1_1 : Int) (a1_2 : Int) (dR : List Int) (dQ : List Int) : Option (Bool) := if a0_0 = a1_0 then (if a0_1 = a1_1 then (if a0_2 = a1_2 then ((an.f k aY dR).bind fun lA => (if lA = true then ((an.f k ay dQ).bind fun jt => (some jt)) else (some false))) else (some false)) else (some false)) else (some false)
theorem wire_Same.calls (k : Nat) (a0_0 : Int) (a0_1 : Int) (a0_2 : Int) (A0_3 : Option Addr) (c0_3 : Nat) (aY : List Int) (A0_4 : Option Addr) (c0_4 : Nat) (ay : List Int) (a1_0 : Int) (a1_1 : Int) (a1_2 : Int) (A1_3 : Option Addr) (c1_3 : Nat) (dR : List Int) (A1_4 : Option Addr) (c1_4 : Nat) (dQ : List Int) (r : Bool) (w : World) (hr0_3 : Kd.C (Kd.int .u8) w A0_3 aY.length aY) (hc0_3 : aY.length ≤ c0_3) (hr0_4 : Kd.C (Kd.int .u8) w A0_4 ay.length ay) (hc0_4 : ay.length ≤ c0_4) (hr1_3 : Kd.C (Kd.int .u8) w A1_3 dR.length dR) (hc1_3 : dR.length ≤ c1_3) (hr1_4 : Kd.C (Kd.int .u8) w A1_4 dQ.length dQ) (hc1_4 : dQ.length ≤ c1_4) (h : wire_Same.f k a0_0 a0_1 a0_2 aY ay a1_0 a1_1 a1_2 dR dQ = some r) :
 Calls Try.prog 35 #[.agg #[.int .i64 a0_0, .int .i64 a0_1, .int .u64 a0_2, .slice A0_3 aY.length c0_3, .slice A0_4 ay.length c0_4], .agg #[.int .i64 a1_0, .int .i64 a1_1, .int .u64 a1_2, .slice A1_3 dR.length c1_3, .slice A1_4 dQ.length c1_4]] w fun e w' => e = .returned (.bool r) ∧ Below w.heap.size w w' := by
 have hu33 := Try.underlying33
 have gE := Aside0.mk hr0_3
 have fi := Aside0.mk hc0_3
 clear hr0_3 hc0_3
 have fJ := Aside0.mk hr0_4
 have dY := Aside0.mk hc0_4
 clear hr0_4 hc0_4
 have HR1_3 := Aside0.mk hr1_3
 have kd := Aside0.mk hc1_3
 clear hr1_3 hc1_3
 have lQ := Aside0.mk hr1_4
 have lR := Aside0.mk hc1_4
 clear hr1_4 hc1_4
 have HB := Aside0.mk (Below.refl w.heap.size w)
 have H : (if a0_0 = a1_0 then (if a0_1 = a1_1 then (if a0_2 = a1_2 then ((an.f k aY dR).bind fun lA => (if lA = true then ((an.f k ay dQ).bind fun jt => (some jt)) else (some false))) else (some false)) else (some false)) else (some false)) = some r := h
 clear h
 by_cases c3 : a0_0 = a1_0
 case neg =>
  rw [if_neg c3] at H
  have eh : (a0_0 == a1_0) = false := beq_eq_false_iff_ne.mpr c3
  have gh : (a0_0 != a1_0) = true := bne_iff_ne.mpr c3
  obtain rfl := Option.some.inj H
  go_enter Try.func35, Try.ntmps35
  go_wp2_with (first | ((with_reducible refine gate_dst (N := 2) rfl ?_); refine box_event ?hg (N := 2) ?hd (cs := #[.int .i64 a0_0, .int .i64 a0_1, .int .u64 a0_2, .slice A0_3 aY.length c0_3, .slice A0_4 ay.length c0_4]) (t := 33) ?hr ?_; (case hd => rfl); (case hg => rfl); (case hr => exact p22z); intro bZ hg w29 hbox hb; have z_ := asi4 (below_step p0z hb) (hbox) ((p38z : w.heap.size ≤ bZ)) ((p38z : w.heap.size ≤ bZ)); clear HB; obtain ⟨HB, bJ, GW103, jG⟩ := z_; clear hb hbox hg) | ((with_reducible refine gate_dst (N := 3) rfl ?_); refine box_event ?hg (N := 3) ?hd (cs := #[.int .i64 a1_0, .int .i64 a1_1, .int .u64 a1_2, .slice A1_3 dR.length c1_3, .slice A1_4 dQ.length c1_4]) (t := 33) ?hr ?_; (case hd => rfl); (case hg => rfl); (case hr => exact p22z); intro cD hg w30 hbox hb; have z_ := asi7 (blk_below (g := bZ) (o := .cells #[.int .i64 a0_0, .int .i64 a0_1, .int .u64 a0_2, .slice A0_3 aY.length c0_3, .slice A0_4 ay.length c0_4] 33 (0, 0)) p57z hb) (below_step p35z hb) (hbox) ((p198z : w.heap.size ≤ cD)) ((p198z : w.heap.size ≤ cD)) ((p113z : bZ ≠ cD)) ((p114z : cD ≠ bZ)); clear bJ HB; obtain ⟨bJ, HB, cq, GW104, ke, NB103_104, NB104_103⟩ := z_; clear hb hbox hg; have hnb31 := NB103_104.out; have hnc31 := NB104_103.out; have hcz32_0 : w30.cell? ⟨bZ, 0, none⟩ = some (.int .i64 a0_0) := (blk_cell bJ.out 0).trans rfl; have hcz32_1 : w30.cell? ⟨bZ, 1, none⟩ = some (.int .i64 a0_1) := (blk_cell bJ.out 1).trans rfl; have hcz32_2 : w30.cell? ⟨bZ, 2, none⟩ = some (.int .u64 a0_2) := (blk_cell bJ.out 2).trans rfl; have hcz32_3 : w30.cell? ⟨bZ, 3, none⟩ = some (.slice A0_3 aY.length c0_3) := (blk_cell bJ.out 3).trans rfl; have hcz32_4 : w30.cell? ⟨bZ, 4, none⟩ = some (.slice A0_4 ay.length c0_4) := (blk_cell bJ.out 4).trans rfl; have hfz32_0 := blk_frozen bJ.out 0; have hfz32_1 := blk_frozen bJ.out 1; have hfz32_2 := blk_frozen bJ.out 2; have hfz32_3 := blk_frozen bJ.out 3; have hfz32_4 := blk_frozen bJ.out 4; have hcz33_0 : w30.cell? ⟨cD, 0, none⟩ = some (.int .i64 a1_0) := (blk_cell cq.out 0).trans rfl; have hcz33_1 : w30.cell? ⟨cD, 1, none⟩ = some (.int .i64 a1_1) := (blk_cell cq.out 1).trans rfl; have hcz33_2 : w30.cell? ⟨cD, 2, none⟩ = some (.int .u64 a1_2) := (blk_cell cq.out 2).trans rfl; have hcz33_3 : w30.cell? ⟨cD, 3, none⟩ = some (.slice A1_3 dR.length c1_3) := (blk_cell cq.out 3).trans rfl; have hcz33_4 : w30.cell? ⟨cD, 4, none⟩ = some (.slice A1_4 dQ.length c1_4) := (blk_cell cq.out 4).trans rfl; have hfz33_0 := blk_frozen cq.out 0; have hfz33_1 := blk_frozen cq.out 1; have hfz33_2 := blk_frozen cq.out 2; have hfz33_3 := blk_frozen cq.out 3; have hfz33_4 := blk_frozen cq.out 4))
  go_ret
  exact ⟨p6z, p74z⟩

 rw [if_pos c3] at H
 have eh : (a0_0 == a1_0) = true := beq_iff_eq.mpr c3
 have gh : (a0_0 != a1_0) = false := bne_eq_false_iff_eq.mpr c3
 clear c3
 by_cases c4 : a0_1 = a1_1
 case neg =>
  rw [if_neg c4] at H
  have gx : (a0_1 == a1_1) = false := beq_eq_false_iff_ne.mpr c4
  have ju : (a0_1 != a1_1) = true := bne_iff_ne.mpr c4
  obtain rfl := Option.some.inj H
  go_enter Try.func35, Try.ntmps35
  go_wp2_with (first | ((with_reducible refine gate_dst (N := 2) rfl ?_); refine box_event ?hg (N := 2) ?hd (cs := #[.int .i64 a0_0, .int .i64 a0_1, .int .u64 a0_2, .slice A0_3 aY.length c0_3, .slice A0_4 ay.length c0_4]) (t := 33) ?hr ?_; (case hd => rfl); (case hg => rfl); (case hr => exact p22z); intro bZ hg w24 hbox hb; have z_ := asi4 (below_step p0z hb) (hbox) ((p38z : w.heap.size ≤ bZ)) ((p38z : w.heap.size ≤ bZ)); clear HB; obtain ⟨HB, bJ, GW103, jG⟩ := z_; clear hb hbox hg) | ((with_reducible refine gate_dst (N := 3) rfl ?_); refine box_event ?hg (N := 3) ?hd (cs := #[.int .i64 a1_0, .int .i64 a1_1, .int .u64 a1_2, .slice A1_3 dR.length c1_3, .slice A1_4 dQ.length c1_4]) (t := 33) ?hr ?_; (case hd => rfl); (case hg => rfl); (case hr => exact p22z); intro cD hg w25 hbox hb; have z_ := asi7 (blk_below (g := bZ) (o := .cells #[.int .i64 a0_0, .int .i64 a0_1, .int .u64 a0_2, .slice A0_3 aY.length c0_3, .slice A0_4 ay.length c0_4] 33 (0, 0)) p57z hb) (below_step p35z hb) (hbox) ((p198z : w.heap.size ≤ cD)) ((p198z : w.heap.size ≤ cD)) ((p113z : bZ ≠ cD)) ((p114z : cD ≠ bZ)); clear bJ HB; obtain ⟨bJ, HB, cq, GW104, ke, NB103_104, NB104_103⟩ := z_; clear hb hbox hg; have hnb26 := NB103_104.out; have hnc26 := NB104_103.out; have hcz27_0 : w25.cell? ⟨bZ, 0, none⟩ = some (.int .i64 a0_0) := (blk_cell bJ.out 0).trans rfl; have hcz27_1 : w25.cell? ⟨bZ, 1, none⟩ = some (.int .i64 a0_1) := (blk_cell bJ.out 1).trans rfl; have hcz27_2 : w25.cell? ⟨bZ, 2, none⟩ = some (.int .u64 a0_2) := (blk_cell bJ.out 2).trans rfl; have hcz27_3 : w25.cell? ⟨bZ, 3, none⟩ = some (.slice A0_3 aY.length c0_3) := (blk_cell bJ.out 3).trans rfl; have hcz27_4 : w25.cell? ⟨bZ, 4, none⟩ = some (.slice A0_4 ay.length c0_4) := (blk_cell bJ.out 4).trans rfl; have hfz27_0 := blk_frozen bJ.out 0; have hfz27_1 := blk_frozen bJ.out 1; have hfz27_2 := blk_frozen bJ.out 2; have hfz27_3 := blk_frozen bJ.out 3; have hfz27_4 := blk_frozen bJ.out 4; have hcz28_0 : w25.cell? ⟨cD, 0, none⟩ = some (.int .i64 a1_0) := (blk_cell cq.out 0).trans rfl; have hcz28_1 : w25.cell? ⟨cD, 1, none⟩ = some (.int .i64 a1_1) := (blk_cell cq.out 1).trans rfl; have hcz28_2 : w25.cell? ⟨cD, 2, none⟩ = some (.int .u64 a1_2) := (blk_cell cq.out 2).trans rfl; have hcz28_3 : w25.cell? ⟨cD, 3, none⟩ = some (.slice A1_3 dR.length c1_3) := (blk_cell cq.out 3).trans rfl; have hcz28_4 : w25.cell? ⟨cD, 4, none⟩ = some (.slice A1_4 dQ.length c1_4) := (blk_cell cq.out 4).trans rfl; have hfz28_0 := blk_frozen cq.out 0; have hfz28_1 := blk_frozen cq.out 1; have hfz28_2 := blk_frozen cq.out 2; have hfz28_3 := blk_frozen cq.out 3; have hfz28_4 := blk_frozen cq.out 4))
  go_ret
  exact ⟨p6z, p74z⟩
 rw [if_pos c4] at H
 have gx : (a0_1 == a1_1) = true := beq_iff_eq.mpr c4
 have ju : (a0_1 != a1_1) = false := bne_eq_false_iff_eq.mpr c4
 clear c4
 by_cases c5 : a0_2 = a1_2
 case neg =>
  rw [if_neg c5] at H
  have gI : (a0_2 == a1_2) = false := beq_eq_false_iff_ne.mpr c5
  have jv : (a0_2 != a1_2) = true := bne_iff_ne.mpr c5
  obtain rfl := Option.some.inj H
  go_enter Try.func35, Try.ntmps35
  go_wp2_with (first | ((with_reducible refine gate_dst (N := 2) rfl ?_); refine box_event ?hg (N := 2) ?hd (cs := #[.int .i64 a0_0, .int .i64 a0_1, .int .u64 a0_2, .slice A0_3 aY.length c0_3, .slice A0_4 ay.length c0_4]) (t := 33) ?hr ?_; (case hd => rfl); (case hg => rfl); (case hr => exact p22z); intro bZ hg w19 hbox hb; have z_ := asi4 (below_step p0z hb) (hbox) ((p38z : w.heap.size ≤ bZ)) ((p38z : w.heap.size ≤ bZ)); clear HB; obtain ⟨HB, bJ, GW103, jG⟩ := z_; clear hb hbox hg) | ((with_reducible refine gate_dst (N := 3) rfl ?_); refine box_event ?hg (N := 3) ?hd (cs := #[.int .i64 a1_0, .int .i64 a1_1, .int .u64 a1_2, .slice A1_3 dR.length c1_3, .slice A1_4 dQ.length c1_4]) (t := 33) ?hr ?_; (case hd => rfl); (case hg => rfl); (case hr => exact p22z); intro cD hg w20 hbox hb; have z_ := asi7 (blk_below (g := bZ) (o := .cells #[.int .i64 a0_0, .int .i64 a0_1, .int .u64 a0_2, .slice A0_3 aY.length c0_3, .slice A0_4 ay.length c0_4] 33 (0, 0)) p57z hb) (below_step p35z hb) (hbox) ((p198z : w.heap.size ≤ cD)) ((p198z : w.heap.size ≤ cD)) ((p113z : bZ ≠ cD)) ((p114z : cD ≠ bZ)); clear bJ HB; obtain ⟨bJ, HB, cq, GW104, ke, NB103_104, NB104_103⟩ := z_; clear hb hbox hg; have hnb21 := NB103_104.out; have hnc21 := NB104_103.out; have hcz22_0 : w20.cell? ⟨bZ, 0, none⟩ = some (.int .i64 a0_0) := (blk_cell bJ.out 0).trans rfl; have hcz22_1 : w20.cell? ⟨bZ, 1, none⟩ = some (.int .i64 a0_1) := (blk_cell bJ.out 1).trans rfl; have hcz22_2 : w20.cell? ⟨bZ, 2, none⟩ = some (.int .u64 a0_2) := (blk_cell bJ.out 2).trans rfl; have hcz22_3 : w20.cell? ⟨bZ, 3, none⟩ = some (.slice A0_3 aY.length c0_3) := (blk_cell bJ.out 3).trans rfl; have hcz22_4 : w20.cell? ⟨bZ, 4, none⟩ = some (.slice A0_4 ay.length c0_4) := (blk_cell bJ.out 4).trans rfl; have hfz22_0 := blk_frozen bJ.out 0; have hfz22_1 := blk_frozen bJ.out 1; have hfz22_2 := blk_frozen bJ.out 2; have hfz22_3 := blk_frozen bJ.out 3; have hfz22_4 := blk_frozen bJ.out 4; have hcz23_0 : w20.cell? ⟨cD, 0, none⟩ = some (.int .i64 a1_0) := (blk_cell cq.out 0).trans rfl; have hcz23_1 : w20.cell? ⟨cD, 1, none⟩ = some (.int .i64 a1_1) := (blk_cell cq.out 1).trans rfl; have hcz23_2 : w20.cell? ⟨cD, 2, none⟩ = some (.int .u64 a1_2) := (blk_cell cq.out 2).trans rfl; have hcz23_3 : w20.cell? ⟨cD, 3, none⟩ = some (.slice A1_3 dR.length c1_3) := (blk_cell cq.out 3).trans rfl; have hcz23_4 : w20.cell? ⟨cD, 4, none⟩ = some (.slice A1_4 dQ.length c1_4) := (blk_cell cq.out 4).trans rfl; have hfz23_0 := blk_frozen cq.out 0; have hfz23_1 := blk_frozen cq.out 1; have hfz23_2 := blk_frozen cq.out 2; have hfz23_3 := blk_frozen cq.out 3; have hfz23_4 := blk_frozen cq.out 4))
  go_ret
  exact ⟨p6z, p74z⟩
 rw [if_pos c5] at H
 have gI : (a0_2 == a1_2) = true := beq_iff_eq.mpr c5
 have jv : (a0_2 != a1_2) = false := bne_eq_false_iff_eq.mpr c5
 clear c5
 replace H := Option.bind_eq_some_iff.mp H
 obtain ⟨lA, A60, H⟩ := H
 replace H : (if lA = true then ((an.f k ay dQ).bind fun jt => (some jt)) else (some false)) = some r := H
 have A6 := Aside0.mk A60
 clear A60
 by_cases c7 : lA = true
 case neg =>
  replace c7 := Bool.eq_false_iff.mpr c7
  subst c7
  have H1 : (some false) = some r := p42z
  clear H
  have H := H1
  clear H1
  obtain rfl := Option.some.inj H
  go_enter Try.func35, Try.ntmps35
  go_wp2_with (first | ((with_reducible refine gate_dst (N := 2) rfl ?_); refine box_event ?hg (N := 2) ?hd (cs := #[.int .i64 a0_0, .int .i64 a0_1, .int .u64 a0_2, .slice A0_3 aY.length c0_3, .slice A0_4 ay.length c0_4]) (t := 33) ?hr ?_; (case hd => rfl); (case hg => rfl); (case hr => exact p22z); intro bZ hg w14 hbox hb; have z_ := asi4 (below_step p0z hb) (hbox) ((p38z : w.heap.size ≤ bZ)) ((p38z : w.heap.size ≤ bZ)); clear HB; obtain ⟨HB, bJ, GW103, jG⟩ := z_; clear hb hbox hg) | ((with_reducible refine gate_dst (N := 3) rfl ?_); refine box_event ?hg (N := 3) ?hd (cs := #[.int .i64 a1_0, .int .i64 a1_1, .int .u64 a1_2, .slice A1_3 dR.length c1_3, .slice A1_4 dQ.length c1_4]) (t := 33) ?hr ?_; (case hd => rfl); (case hg => rfl); (case hr => exact p22z); intro cD hg w15 hbox hb; have z_ := asi7 (blk_below (g := bZ) (o := .cells #[.int .i64 a0_0, .int .i64 a0_1, .int .u64 a0_2, .slice A0_3 aY.length c0_3, .slice A0_4 ay.length c0_4] 33 (0, 0)) p57z hb) (below_step p35z hb) (hbox) ((p198z : w.heap.size ≤ cD)) ((p198z : w.heap.size ≤ cD)) ((p113z : bZ ≠ cD)) ((p114z : cD ≠ bZ)); clear bJ HB; obtain ⟨bJ, HB, cq, GW104, ke, NB103_104, NB104_103⟩ := z_; clear hb hbox hg; have hnb16 := NB103_104.out; have hnc16 := NB104_103.out; have hcz17_0 : w15.cell? ⟨bZ, 0, none⟩ = some (.int .i64 a0_0) := (blk_cell bJ.out 0).trans rfl; have hcz17_1 : w15.cell? ⟨bZ, 1, none⟩ = some (.int .i64 a0_1) := (blk_cell bJ.out 1).trans rfl; have hcz17_2 : w15.cell? ⟨bZ, 2, none⟩ = some (.int .u64 a0_2) := (blk_cell bJ.out 2).trans rfl; have hcz17_3 : w15.cell? ⟨bZ, 3, none⟩ = some (.slice A0_3 aY.length c0_3) := (blk_cell bJ.out 3).trans rfl; have hcz17_4 : w15.cell? ⟨bZ, 4, none⟩ = some (.slice A0_4 ay.length c0_4) := (blk_cell bJ.out 4).trans rfl; have hfz17_0 := blk_frozen bJ.out 0; have hfz17_1 := blk_frozen bJ.out 1; have hfz17_2 := blk_frozen bJ.out 2; have hfz17_3 := blk_frozen bJ.out 3; have hfz17_4 := blk_frozen bJ.out 4; have hcz18_0 : w15.cell? ⟨cD, 0, none⟩ = some (.int .i64 a1_0) := (blk_cell cq.out 0).trans rfl; have hcz18_1 : w15.cell? ⟨cD, 1, none⟩ = some (.int .i64 a1_1) := (blk_cell cq.out 1).trans rfl; have hcz18_2 : w15.cell? ⟨cD, 2, none⟩ = some (.int .u64 a1_2) := (blk_cell cq.out 2).trans rfl; have hcz18_3 : w15.cell? ⟨cD, 3, none⟩ = some (.slice A1_3 dR.length c1_3) := (blk_cell cq.out 3).trans rfl; have hcz18_4 : w15.cell? ⟨cD, 4, none⟩ = some (.slice A1_4 dQ.length c1_4) := (blk_cell cq.out 4).trans rfl; have hfz18_0 := blk_frozen cq.out 0; have hfz18_1 := blk_frozen cq.out 1; have hfz18_2 := blk_frozen cq.out 2; have hfz18_3 := blk_frozen cq.out 3; have hfz18_4 := blk_frozen cq.out 4) | (go_at_call 54; (with_reducible refine (an.calls k _ _ aY _ _ dR false _ ?side1 ?side2 ?side3 ?side4 A6.out).mono ?_); (case side1 => exact p100z); (case side2 => exact fi.out); (case side3 => exact p150z); (case side4 => exact kd.out); rintro e w' ⟨rfl, ⟨nd, rfl⟩⟩))
  go_ret
  exact ⟨p6z, p74z⟩
 subst c7
 have H1 : ((an.f k ay dQ).bind fun jt => (some jt)) = some r := p99z
 clear H
 have H := H1
 clear H1
 replace H := Option.bind_eq_some_iff.mp H
 obtain ⟨jt, A80, H⟩ := H
 replace H : (some jt) = some r := H
 have A8 := Aside0.mk A80
 clear A80
 obtain rfl := Option.some.inj H
 go_enter Try.func35, Try.ntmps35
 go_wp2_with (first | ((with_reducible refine gate_dst (N := 2) rfl ?_); refine box_event ?hg (N := 2) ?hd (cs := #[.int .i64 a0_0, .int .i64 a0_1, .int .u64 a0_2, .slice A0_3 aY.length c0_3, .slice A0_4 ay.length c0_4]) (t := 33) ?hr ?_; (case hd => rfl); (case hg => rfl); (case hr => exact p22z); intro bZ hg w9 hbox hb; have z_ := asi4 (below_step p0z hb) (hbox) ((p38z : w.heap.size ≤ bZ)) ((p38z : w.heap.size ≤ bZ)); clear HB; obtain ⟨HB, bJ, GW103, jG⟩ := z_; clear hb hbox hg) | ((with_reducible refine gate_dst (N := 3) rfl ?_); refine box_event ?hg (N := 3) ?hd (cs := #[.int .i64 a1_0, .int .i64 a1_1, .int .u64 a1_2, .slice A1_3 dR.length c1_3, .slice A1_4 dQ.length c1_4]) (t := 33) ?hr ?_; (case hd => rfl); (case hg => rfl); (case hr => exact p22z); intro cD hg w10 hbox hb; have z_ := asi7 (blk_below (g := bZ) (o := .cells #[.int .i64 a0_0, .int .i64 a0_1, .int .u64 a0_2, .slice A0_3 aY.length c0_3, .slice A0_4 ay.length c0_4] 33 (0, 0)) p57z hb) (below_step p35z hb) (hbox) ((p198z : w.heap.size ≤ cD)) ((p198z : w.heap.size ≤ cD)) ((p113z : bZ ≠ cD)) ((p114z : cD ≠ bZ)); clear bJ HB; obtain ⟨bJ, HB, cq, GW104, ke, NB103_104, NB104_103⟩ := z_; clear hb hbox hg; have hnb11 := NB103_104.out; have hnc11 := NB104_103.out; have hcz12_0 : w10.cell? ⟨bZ, 0, none⟩ = some (.int .i64 a0_0) := (blk_cell bJ.out 0).trans rfl; have hcz12_1 : w10.cell? ⟨bZ, 1, none⟩ = some (.int .i64 a0_1) := (blk_cell bJ.out 1).trans rfl; have hcz12_2 : w10.cell? ⟨bZ, 2, none⟩ = some (.int .u64 a0_2) := (blk_cell bJ.out 2).trans rfl; have hcz12_3 : w10.cell? ⟨bZ, 3, none⟩ = some (.slice A0_3 aY.length c0_3) := (blk_cell bJ.out 3).trans rfl; have hcz12_4 : w10.cell? ⟨bZ, 4, none⟩ = some (.slice A0_4 ay.length c0_4) := (blk_cell bJ.out 4).trans rfl; have hfz12_0 := blk_frozen bJ.out 0; have hfz12_1 := blk_frozen bJ.out 1; have hfz12_2 := blk_frozen bJ.out 2; have hfz12_3 := blk_frozen bJ.out 3; have hfz12_4 := blk_frozen bJ.out 4; have hcz13_0 : w10.cell? ⟨cD, 0, none⟩ = some (.int .i64 a1_0) := (blk_cell cq.out 0).trans rfl; have hcz13_1 : w10.cell? ⟨cD, 1, none⟩ = some (.int .i64 a1_1) := (blk_cell cq.out 1).trans rfl; have hcz13_2 : w10.cell? ⟨cD, 2, none⟩ = some (.int .u64 a1_2) := (blk_cell cq.out 2).trans rfl; have hcz13_3 : w10.cell? ⟨cD, 3, none⟩ = some (.slice A1_3 dR.length c1_3) := (blk_cell cq.out 3).trans rfl; have hcz13_4 : w10.cell? ⟨cD, 4, none⟩ = some (.slice A1_4 dQ.length c1_4) := (blk_cell cq.out 4).trans rfl; have hfz13_0 := blk_frozen cq.out 0; have hfz13_1 := blk_frozen cq.out 1; have hfz13_2 := blk_frozen cq.out 2; have hfz13_3 := blk_frozen cq.out 3; have hfz13_4 := blk_frozen cq.out 4) | (go_at_call 54; (with_reducible refine (an.calls k _ _ aY _ _ dR true _ ?side1 ?side2 ?side3 ?side4 A6.out).mono ?_); (case side1 => exact p100z); (case side2 => exact fi.out); (case side3 => exact p150z); (case side4 => exact kd.out); rintro e w' ⟨rfl, ⟨nd, rfl⟩⟩) | (go_at_call 54; (with_reducible refine (an.calls k _ _ ay _ _ dQ jt _ ?side1 ?side2 ?side3 ?side4 A8.out).mono ?_); (case side1 => repeat (first | exact (Kd.C_below fJ.out p74z) | (with_reducible refine Kd.C_alloc ?_ _) | (with_reducible refine Kd.C_drewN ?_ _) | (with_reducible refine Kd.C_drew ?_))); (case side2 => exact dY.out); (case side3 => repeat (first | exact (Kd.C_below lQ.out p74z) | (with_reducible refine Kd.C_alloc ?_ _) | (with_reducible refine Kd.C_drewN ?_ _) | (with_reducible refine Kd.C_drew ?_))); (case side4 => exact lR.out); rintro e w' ⟨rfl, ⟨nd, rfl⟩⟩))
 go_ret
 exact ⟨p6z, p74z⟩
/-! ### ag: function 12 -/
def ag.f (l0 : List Int) : Option (List Int) := if ([] : List Int).length + l0.length < 140737488355328 then (some (([] : List Int) ++ l0)) else (none)
theorem ag.calls (A0 : Option Addr) (c0 : Nat) (l0 : List Int) (r : List Int) (w : World) (hr0 : Kd.C (Kd.int .u8) w A0 l0.length l0) (hc0 : l0.length ≤ c0) (h : ag.f l0 = some r) :
 Calls Try.prog 12 #[.slice A0 l0.length c0] w fun e w' => ∃ v0_ : Value, e = .returned (v0_) ∧ Kd.R (Kd.int .u8) 5 w' w.heap.size (fun _ => True) v0_ r ∧ Below w.heap.size w w' := by
 have HR0 := Aside0.mk hr0
 have HC0 := Aside0.mk hc0
 clear hr0 hc0
 have HB := Aside0.mk (Below.refl w.heap.size w)
 have H : (if ([] : List Int).length + l0.length < 140737488355328 then (some (([] : List Int) ++ l0)) else (none)) = some r := h
 clear h
 by_cases c2 : ([] : List Int).length + l0.length < 140737488355328
 case neg =>
  rw [if_neg c2] at H
  exact absurd H (by simp)

 rw [if_pos c2] at H
 have LMc2 := Aside0.mk c2
 clear c2
 obtain ⟨y202, hy202⟩ : ∃ y_ : List Int, y_ = (([] : List Int) ++ l0) := ⟨_, rfl⟩
 replace H : (some y202) = some r := by first | (rw [hy202]; with_reducible exact H) | (have H2_ := (Option.bind_some _ _).symm.trans H; rw [hy202]; with_reducible exact H2_) | (have H2_ := (Option.bind_some _ _).symm.trans H; with_reducible exact H2_) | with_reducible exact H | (rw [hy202]; exact H) | exact H
 have Ny202 := Aside0.mk hy202
 clear hy202
 obtain rfl := Option.some.inj H
 go_enter Try.func12, Try.ntmps12
 go_wp2_with (first | ((with_reducible refine gate_builtin (b := .append) (xs := #[.tmp 4, .tmp 5]) rfl ?_); at_builtin; refine Kd.R_append_rows (Kd.int .u8) (w0 := w) w.heap.size rfl (.tmp 4) (.tmp 5) 22 5 (.int .u8 0) 1 rfl Try.underlying22 info5 rfl (by decide) (by omega) (.slice none 0 0) ([] : List Int) l0 _ _ _ (fun _ => True) (fun _ => False) rfl rfl ?aO ?aR (fun _ _ h => h) (fun _ h => h.elim) ?aF ?aB ?aS ?aL ?_; (case aR => exact p242z); (case aB => exact p0z); (case aF => exact (fun _ _ => trivial)); (case aO => exact ((Kd.R_nil _ _ _ _ (fun _ => True)))); (case aS => exact (below_size p0z)); (case aL => have := LMc2.out; omega); intro v203 w3 ho hb hg hat; rw [← Ny202.out] at ho; have z_ := asi2 (hb) (ho); clear HB; obtain ⟨HB, HO204⟩ := z_; clear ho hb hg hat))
 go_ret
 exact ⟨_, p6z, q0z HO204.out, p0z⟩
/-! ### bA: function 23 -/
def bA.f (l0 : List Int) : Option (List Int) := if 0 ≤ (mn (l0.length : Int) 400) then (if (mn (l0.length : Int) 400) ≤ (l0.length : Int) then (some (l0.take ((mn (l0.length : Int) 400) : Int).toNat)) else (none)) else (none)
theorem bA.calls (P0_ : Nat → Prop) (A0 : Option Addr) (c0 : Nat) (l0 : List Int) (r : List Int) (w : World) (hs0 : Kd.V (Kd.int .u8) 5 w w.heap.size (fun k_ => P0_ k_) (.slice A0 l0.length c0) l0) (h : bA.f l0 = some r) :
 Calls Try.prog 23 #[.slice A0 l0.length c0] w fun e w' => ∃ v0_ : Value, e = .returned (v0_) ∧ Kd.V (Kd.int .u8) 5 w' w.heap.size (fun k_ => (P0_ k_ ∨ w.heap.size ≤ k_)) v0_ r ∧ Below w.heap.size w w' := by
 have HO0 := Aside0.mk (show Kd.V (Kd.int .u8) 5 w w.heap.size (fun k_ => (P0_ k_ ∨ w.heap.size ≤ k_)) (.slice A0 l0.length c0) l0 from Kd.V_mono hs0 (fun k_ hk => .inl hk))
 have HB := Aside0.mk (Below.refl w.heap.size w)
 have H : (if 0 ≤ (mn (l0.length : Int) 400) then (if (mn (l0.length : Int) 400) ≤ (l0.length : Int) then (some (l0.take ((mn (l0.length : Int) 400) : Int).toNat)) else (none)) else (none)) = some r := h
 clear h
 obtain ⟨ji2, hji2⟩ : ∃ j_ : Int, (mn (l0.length : Int) 400) = j_ := ⟨_, rfl⟩
 replace H : (if 0 ≤ (ji2) then (if (ji2) ≤ (l0.length : Int) then (some (l0.take ((ji2) : Int).toNat)) else (none)) else (none)) = some r := by first | (rw [hji2] at H; exact H) | (simp only [hji2] at H ⊢; exact H)
 (try (have hji2h : ji2 ≤ 400 := by (rw [← hji2]; unfold mn; (repeat' split) <;> omega)))
 (try (have hji2g : ji2 ≤ 64 := by omega))
 (try (have hji2l : 0 ≤ ji2 := by (rw [← hji2]; unfold mn; (repeat' split) <;> omega)))
 (try (have hji2m : 0 ≤ ji2 := by omega))
 have hji2_ : (if 400 < (l0.length : Int) then 400 else (l0.length : Int)) = ji2 := hji2
 by_cases c3 : 0 ≤ (ji2)
 case neg =>
  rw [if_neg c3] at H
  exact absurd H (by simp)
 rw [if_pos c3] at H
 have eh := eq_true c3
 have gh : decide (0 ≤ (ji2)) = true := decide_eq_true c3
 clear c3
 by_cases c4 : (ji2) ≤ (l0.length : Int)
 case neg =>
  rw [if_neg c4] at H
  exact absurd H (by simp)
 rw [if_pos c4] at H
 have gx := eq_true c4
 have ju : decide ((ji2) ≤ (l0.length : Int)) = true := decide_eq_true c4
 clear c4
 obtain ⟨y205, hy205⟩ : ∃ y_ : List Int, y_ = (l0.take ((ji2) : Int).toNat) := ⟨_, rfl⟩
 replace H : (some y205) = some r := by first | (rw [hy205]; with_reducible exact H) | (have H2_ := (Option.bind_some _ _).symm.trans H; rw [hy205]; with_reducible exact H2_) | (have H2_ := (Option.bind_some _ _).symm.trans H; with_reducible exact H2_) | with_reducible exact H | (rw [hy205]; exact H) | exact H
 have Ny205 := Aside0.mk hy205
 clear hy205
 obtain rfl := Option.some.inj H
 have q5 : ((ji2) : Int) ≤ ((l0.length : Int) : Int) := of_decide_eq_true p10z
 obtain ⟨i05, hi05, _, hsz5, _⟩ := info_parts info5
 have hroom5 : l0.length ≤ c0 := (Kd.V_reads' HO0.out).2.1
 have hC5 : Kd.F (Kd.int .u8) _ _ A0 l0.length l0 := (Kd.V_at (base := w.heap.size) HO0.out).2.2
 have hcut5 := cut_to (P := Try.prog) 22 5 .i64 Try.underlying22 hi05 A0 l0.length c0 (ji2) (of_decide_eq_true p10z) q5 hroom5
 have hr5 := Kd.F_take (m := ((ji2) : Int).toNat) hC5 (by omega)
 have hy5 : y205.length = ((ji2) : Int).toNat := (by rw [Ny205.out, List.length_take]; omega)
 rw [← Ny205.out] at hr5
 rw [← hy5] at hcut5
 have gF := Aside0.mk (show Kd.V (Kd.int .u8) 5 _ w.heap.size _ (.slice A0 y205.length c0) y205 from Kd.V_mk (by omega) hr5)
 have HC209 := Aside0.mk (show y205.length ≤ c0 from by omega)
 clear hr5 hC5 hroom5 hi05 hsz5
 have KY5 := Aside0.mk hy5
 clear hy5
 replace q5 := eq_true q5
 go_enter Try.func23, Try.ntmps23
 go_wp2
 go_ret
 exact ⟨_, by first | rfl | (simp [errW_none, errW_some] <;> rfl) | (simp only [← hji2]; first | rfl | (simp [errW_none, errW_some] <;> rfl)) | (simp [*, errW_none, errW_some] <;> rfl), by (with_reducible repeat (first | apply Kd.V_alloc | apply Kd.V_drewN | apply Kd.V_drew)); exact gF.out, p0z⟩
end Go.Proofs.Ytbclejgljegfmaa.PAll
