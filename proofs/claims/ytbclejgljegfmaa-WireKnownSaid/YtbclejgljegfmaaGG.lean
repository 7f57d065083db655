-- Written by this repo's program wip/tools/pr.py (over the kit's print) out of the translation. Not trusted: Lean checks it.
import Derived.Test.YtbclejgljegfmaaAp
import Derived.Test.YtbclejgljegfmaaPAllx0
import Derived.Test.YtbclejgljegfmaaGA
set_option maxHeartbeats 8000000
set_option maxRecDepth 100000
namespace Go.Proofs.Ytbclejgljegfmaa.PAll
open Go.Proofs.Ytbclejgljegfmaa.Hand
open Go.RowKit Go.Proofs.YtbclejgljegfmaaW.PrintWords Go.Proofs.YtbclejgljegfmaaW.PrintLast Go.Proofs.YtbclejgljegfmaaW.PrintMore
attribute [local go_sem] max2_int min2_int max_two min_two max_three min_three max_four min_four   -- for this text's walks alone
set_option linter.unusedVariables false
set_option linter.unusedSimpArgs false

/-! ### ai: function 28 -/
def ai.f (a0_0 : Int) (a0_1 : Int) (a0_2 : Int) (aY : List Int) (ay : List Int) (a1_0 : Int) (a1_1 : Int) (a1_2 : Int) (dR : List Int) (dQ : List Int) : Option (Bool) := if a0_0 = a1_0 then (if a0_1 = a1_1 then (if a0_2 = a1_2 then ((ab.f aY dR).bind fun lE => (if lE = true then ((ab.f ay dQ).bind fun jx => (some jx)) else (some false))) else (some false)) else (some false)) else (some false)
theorem ai.calls (a0_0 : Int) (a0_1 : Int) (a0_2 : Int) (A0_3 : Option Addr) (c0_3 : Nat) (aY : List Int) (A0_4 : Option Addr) (c0_4 : Nat) (ay : List Int) (a1_0 : Int) (a1_1 : Int) (a1_2 : Int) (A1_3 : Option Addr) (c1_3 : Nat) (dR : List Int) (A1_4 : Option Addr) (c1_4 : Nat) (dQ : List Int) (r : Bool) (w : World) (hr0_3 : Kd.C (Kd.int .u8) w A0_3 aY.length aY) (hc0_3 : aY.length ≤ c0_3) (hr0_4 : Kd.C (Kd.int .u8) w A0_4 ay.length ay) (hc0_4 : ay.length ≤ c0_4) (hr1_3 : Kd.C (Kd.int .u8) w A1_3 dR.length dR) (hc1_3 : dR.length ≤ c1_3) (hr1_4 : Kd.C (Kd.int .u8) w A1_4 dQ.length dQ) (hc1_4 : dQ.length ≤ c1_4) (h : ai.f a0_0 a0_1 a0_2 aY ay a1_0 a1_1 a1_2 dR dQ = some r) :
 Calls Try.prog 28 #[.agg #[.int .i64 a0_0, .int .i64 a0_1, .int .u64 a0_2, .slice A0_3 aY.length c0_3, .slice A0_4 ay.length c0_4], .agg #[.int .i64 a1_0, .int .i64 a1_1, .int .u64 a1_2, .slice A1_3 dR.length c1_3, .slice A1_4 dQ.length c1_4]] w fun e w' => e = .returned (.bool r) ∧ Below w.heap.size w w' := by
 have hu33 := Try.underlying33
 have gE := Aside0.mk hr0_3
 have fi := Aside0.mk hc0_3
 clear hr0_3 hc0_3
 have fJ := Aside0.mk hr0_4
 have dY := Aside0.mk hc0_4
 clear hr0_4 hc0_4
 have HR1_3 := Aside0.mk hr1_3
 have kd := Aside0.mk hc1_3
 clear hr1_3 hc1_3
 have lQ := Aside0.mk hr1_4
 have lR := Aside0.mk hc1_4
 clear hr1_4 hc1_4
 have HB := Aside0.mk (Below.refl w.heap.size w)
 have H : (if a0_0 = a1_0 then (if a0_1 = a1_1 then (if a0_2 = a1_2 then ((ab.f aY dR).bind fun lE => (if lE = true then ((ab.f ay dQ).bind fun jx => (some jx)) else (some false))) else (some false)) else (some false)) else (some false)) = some r := h
 clear h
 by_cases c3 : a0_0 = a1_0
 case neg =>
  rw [if_neg c3] at H
  have eh : (a0_0 == a1_0) = false := beq_eq_false_iff_ne.mpr c3
  have gh : (a0_0 != a1_0) = true := bne_iff_ne.mpr c3
  obtain rfl := Option.some.inj H
  go_enter Try.func28, Try.ntmps28
  go_wp2_with (first | ((with_reducible refine gate_dst (N := 2) rfl ?_); refine box_event ?hg (N := 2) ?hd (cs := #[.int .i64 a0_0, .int .i64 a0_1, .int .u64 a0_2, .slice A0_3 aY.length c0_3, .slice A0_4 ay.length c0_4]) (t := 33) ?hr ?_; (case hd => rfl); (case hg => rfl); (case hr => exact p22z); intro cc hg w29 hbox hb; have z_ := asi4 (below_step p0z hb) (hbox) ((p38z : w.heap.size ≤ cc)) ((p38z : w.heap.size ≤ cc)); clear HB; obtain ⟨HB, bL, GW275, jI⟩ := z_; clear hb hbox hg) | ((with_reducible refine gate_dst (N := 3) rfl ?_); refine box_event ?hg (N := 3) ?hd (cs := #[.int .i64 a1_0, .int .i64 a1_1, .int .u64 a1_2, .slice A1_3 dR.length c1_3, .slice A1_4 dQ.length c1_4]) (t := 33) ?hr ?_; (case hd => rfl); (case hg => rfl); (case hr => exact p22z); intro cE hg w30 hbox hb; have z_ := asi7 (blk_below (g := cc) (o := .cells #[.int .i64 a0_0, .int .i64 a0_1, .int .u64 a0_2, .slice A0_3 aY.length c0_3, .slice A0_4 ay.length c0_4] 33 (0, 0)) p58z hb) (below_step p36z hb) (hbox) ((p199z : w.heap.size ≤ cE)) ((p199z : w.heap.size ≤ cE)) ((p115z : cc ≠ cE)) ((p116z : cE ≠ cc)); clear bL HB; obtain ⟨bL, HB, cr, GW276, kg, NB275_276, NB276_275⟩ := z_; clear hb hbox hg; have hnb31 := NB275_276.out; have hnc31 := NB276_275.out; have hcz32_0 : w30.cell? ⟨cc, 0, none⟩ = some (.int .i64 a0_0) := (blk_cell bL.out 0).trans rfl; have hcz32_1 : w30.cell? ⟨cc, 1, none⟩ = some (.int .i64 a0_1) := (blk_cell bL.out 1).trans rfl; have hcz32_2 : w30.cell? ⟨cc, 2, none⟩ = some (.int .u64 a0_2) := (blk_cell bL.out 2).trans rfl; have hcz32_3 : w30.cell? ⟨cc, 3, none⟩ = some (.slice A0_3 aY.length c0_3) := (blk_cell bL.out 3).trans rfl; have hcz32_4 : w30.cell? ⟨cc, 4, none⟩ = some (.slice A0_4 ay.length c0_4) := (blk_cell bL.out 4).trans rfl; have hfz32_0 := blk_frozen bL.out 0; have hfz32_1 := blk_frozen bL.out 1; have hfz32_2 := blk_frozen bL.out 2; have hfz32_3 := blk_frozen bL.out 3; have hfz32_4 := blk_frozen bL.out 4; have hcz33_0 : w30.cell? ⟨cE, 0, none⟩ = some (.int .i64 a1_0) := (blk_cell cr.out 0).trans rfl; have hcz33_1 : w30.cell? ⟨cE, 1, none⟩ = some (.int .i64 a1_1) := (blk_cell cr.out 1).trans rfl; have hcz33_2 : w30.cell? ⟨cE, 2, none⟩ = some (.int .u64 a1_2) := (blk_cell cr.out 2).trans rfl; have hcz33_3 : w30.cell? ⟨cE, 3, none⟩ = some (.slice A1_3 dR.length c1_3) := (blk_cell cr.out 3).trans rfl; have hcz33_4 : w30.cell? ⟨cE, 4, none⟩ = some (.slice A1_4 dQ.length c1_4) := (blk_cell cr.out 4).trans rfl; have hfz33_0 := blk_frozen cr.out 0; have hfz33_1 := blk_frozen cr.out 1; have hfz33_2 := blk_frozen cr.out 2; have hfz33_3 := blk_frozen cr.out 3; have hfz33_4 := blk_frozen cr.out 4))
  go_ret
  exact ⟨p6z, p75z⟩

 rw [if_pos c3] at H
 have eh : (a0_0 == a1_0) = true := beq_iff_eq.mpr c3
 have gh : (a0_0 != a1_0) = false := bne_eq_false_iff_eq.mpr c3
 clear c3
 by_cases c4 : a0_1 = a1_1
 case neg =>
  rw [if_neg c4] at H
  have gx : (a0_1 == a1_1) = false := beq_eq_false_iff_ne.mpr c4
  have ju : (a0_1 != a1_1) = true := bne_iff_ne.mpr c4
  obtain rfl := Option.some.inj H
  go_enter Try.func28, Try.ntmps28
  go_wp2_with (first | ((with_reducible refine gate_dst (N := 2) rfl ?_); refine box_event ?hg (N := 2) ?hd (cs := #[.int .i64 a0_0, .int .i64 a0_1, .int .u64 a0_2, .slice A0_3 aY.length c0_3, .slice A0_4 ay.length c0_4]) (t := 33) ?hr ?_; (case hd => rfl); (case hg => rfl); (case hr => exact p22z); intro cc hg w24 hbox hb; have z_ := asi4 (below_step p0z hb) (hbox) ((p38z : w.heap.size ≤ cc)) ((p38z : w.heap.size ≤ cc)); clear HB; obtain ⟨HB, bL, GW275, jI⟩ := z_; clear hb hbox hg) | ((with_reducible refine gate_dst (N := 3) rfl ?_); refine box_event ?hg (N := 3) ?hd (cs := #[.int .i64 a1_0, .int .i64 a1_1, .int .u64 a1_2, .slice A1_3 dR.length c1_3, .slice A1_4 dQ.length c1_4]) (t := 33) ?hr ?_; (case hd => rfl); (case hg => rfl); (case hr => exact p22z); intro cE hg w25 hbox hb; have z_ := asi7 (blk_below (g := cc) (o := .cells #[.int .i64 a0_0, .int .i64 a0_1, .int .u64 a0_2, .slice A0_3 aY.length c0_3, .slice A0_4 ay.length c0_4] 33 (0, 0)) p58z hb) (below_step p36z hb) (hbox) ((p199z : w.heap.size ≤ cE)) ((p199z : w.heap.size ≤ cE)) ((p115z : cc ≠ cE)) ((p116z : cE ≠ cc)); clear bL HB; obtain ⟨bL, HB, cr, GW276, kg, NB275_276, NB276_275⟩ := z_; clear hb hbox hg; have hnb26 := NB275_276.out; have hnc26 := NB276_275.out; have hcz27_0 : w25.cell? ⟨cc, 0, none⟩ = some (.int .i64 a0_0) := (blk_cell bL.out 0).trans rfl; have hcz27_1 : w25.cell? ⟨cc, 1, none⟩ = some (.int .i64 a0_1) := (blk_cell bL.out 1).trans rfl; have hcz27_2 : w25.cell? ⟨cc, 2, none⟩ = some (.int .u64 a0_2) := (blk_cell bL.out 2).trans rfl; have hcz27_3 : w25.cell? ⟨cc, 3, none⟩ = some (.slice A0_3 aY.length c0_3) := (blk_cell bL.out 3).trans rfl; have hcz27_4 : w25.cell? ⟨cc, 4, none⟩ = some (.slice A0_4 ay.length c0_4) := (blk_cell bL.out 4).trans rfl; have hfz27_0 := blk_frozen bL.out 0; have hfz27_1 := blk_frozen bL.out 1; have hfz27_2 := blk_frozen bL.out 2; have hfz27_3 := blk_frozen bL.out 3; have hfz27_4 := blk_frozen bL.out 4; have hcz28_0 : w25.cell? ⟨cE, 0, none⟩ = some (.int .i64 a1_0) := (blk_cell cr.out 0).trans rfl; have hcz28_1 : w25.cell? ⟨cE, 1, none⟩ = some (.int .i64 a1_1) := (blk_cell cr.out 1).trans rfl; have hcz28_2 : w25.cell? ⟨cE, 2, none⟩ = some (.int .u64 a1_2) := (blk_cell cr.out 2).trans rfl; have hcz28_3 : w25.cell? ⟨cE, 3, none⟩ = some (.slice A1_3 dR.length c1_3) := (blk_cell cr.out 3).trans rfl; have hcz28_4 : w25.cell? ⟨cE, 4, none⟩ = some (.slice A1_4 dQ.length c1_4) := (blk_cell cr.out 4).trans rfl; have hfz28_0 := blk_frozen cr.out 0; have hfz28_1 := blk_frozen cr.out 1; have hfz28_2 := blk_frozen cr.out 2; have hfz28_3 := blk_frozen cr.out 3; have hfz28_4 := blk_frozen cr.out 4))
  go_ret
  exact ⟨p6z, p75z⟩
 rw [if_pos c4] at H
 have gx : (a0_1 == a1_1) = true := beq_iff_eq.mpr c4
 have ju : (a0_1 != a1_1) = false := bne_eq_false_iff_eq.mpr c4
 clear c4
 by_cases c5 : a0_2 = a1_2
 case neg =>
  rw [if_neg c5] at H
  have gI : (a0_2 == a1_2) = false := beq_eq_false_iff_ne.mpr c5
  have jv : (a0_2 != a1_2) = true := bne_iff_ne.mpr c5
  obtain rfl := Option.some.inj H
  go_enter Try.func28, Try.ntmps28
  go_wp2_with (first | ((with_reducible refine gate_dst (N := 2) rfl ?_); refine box_event ?hg (N := 2) ?hd (cs := #[.int .i64 a0_0, .int .i64 a0_1, .int .u64 a0_2, .slice A0_3 aY.length c0_3, .slice A0_4 ay.length c0_4]) (t := 33) ?hr ?_; (case hd => rfl); (case hg => rfl); (case hr => exact p22z); intro cc hg w19 hbox hb; have z_ := asi4 (below_step p0z hb) (hbox) ((p38z : w.heap.size ≤ cc)) ((p38z : w.heap.size ≤ cc)); clear HB; obtain ⟨HB, bL, GW275, jI⟩ := z_; clear hb hbox hg) | ((with_reducible refine gate_dst (N := 3) rfl ?_); refine box_event ?hg (N := 3) ?hd (cs := #[.int .i64 a1_0, .int .i64 a1_1, .int .u64 a1_2, .slice A1_3 dR.length c1_3, .slice A1_4 dQ.length c1_4]) (t := 33) ?hr ?_; (case hd => rfl); (case hg => rfl); (case hr => exact p22z); intro cE hg w20 hbox hb; have z_ := asi7 (blk_below (g := cc) (o := .cells #[.int .i64 a0_0, .int .i64 a0_1, .int .u64 a0_2, .slice A0_3 aY.length c0_3, .slice A0_4 ay.length c0_4] 33 (0, 0)) p58z hb) (below_step p36z hb) (hbox) ((p199z : w.heap.size ≤ cE)) ((p199z : w.heap.size ≤ cE)) ((p115z : cc ≠ cE)) ((p116z : cE ≠ cc)); clear bL HB; obtain ⟨bL, HB, cr, GW276, kg, NB275_276, NB276_275⟩ := z_; clear hb hbox hg; have hnb21 := NB275_276.out; have hnc21 := NB276_275.out; have hcz22_0 : w20.cell? ⟨cc, 0, none⟩ = some (.int .i64 a0_0) := (blk_cell bL.out 0).trans rfl; have hcz22_1 : w20.cell? ⟨cc, 1, none⟩ = some (.int .i64 a0_1) := (blk_cell bL.out 1).trans rfl; have hcz22_2 : w20.cell? ⟨cc, 2, none⟩ = some (.int .u64 a0_2) := (blk_cell bL.out 2).trans rfl; have hcz22_3 : w20.cell? ⟨cc, 3, none⟩ = some (.slice A0_3 aY.length c0_3) := (blk_cell bL.out 3).trans rfl; have hcz22_4 : w20.cell? ⟨cc, 4, none⟩ = some (.slice A0_4 ay.length c0_4) := (blk_cell bL.out 4).trans rfl; have hfz22_0 := blk_frozen bL.out 0; have hfz22_1 := blk_frozen bL.out 1; have hfz22_2 := blk_frozen bL.out 2; have hfz22_3 := blk_frozen bL.out 3; have hfz22_4 := blk_frozen bL.out 4; have hcz23_0 : w20.cell? ⟨cE, 0, none⟩ = some (.int .i64 a1_0) := (blk_cell cr.out 0).trans rfl; have hcz23_1 : w20.cell? ⟨cE, 1, none⟩ = some (.int .i64 a1_1) := (blk_cell cr.out 1).trans rfl; have hcz23_2 : w20.cell? ⟨cE, 2, none⟩ = some (.int .u64 a1_2) := (blk_cell cr.out 2).trans rfl; have hcz23_3 : w20.cell? ⟨cE, 3, none⟩ = some (.slice A1_3 dR.length c1_3) := (blk_cell cr.out 3).trans rfl; have hcz23_4 : w20.cell? ⟨cE, 4, none⟩ = some (.slice A1_4 dQ.length c1_4) := (blk_cell cr.out 4).trans rfl; have hfz23_0 := blk_frozen cr.out 0; have hfz23_1 := blk_frozen cr.out 1; have hfz23_2 := blk_frozen cr.out 2; have hfz23_3 := blk_frozen cr.out 3; have hfz23_4 := blk_frozen cr.out 4))
  go_ret
  exact ⟨p6z, p75z⟩
 rw [if_pos c5] at H
 have gI : (a0_2 == a1_2) = true := beq_iff_eq.mpr c5
 have jv : (a0_2 != a1_2) = false := bne_eq_false_iff_eq.mpr c5
 clear c5
 replace H := Option.bind_eq_some_iff.mp H
 obtain ⟨lE, A60, H⟩ := H
 replace H : (if lE = true then ((ab.f ay dQ).bind fun jx => (some jx)) else (some false)) = some r := H
 have A6 := Aside0.mk A60
 clear A60
 by_cases c7 : lE = true
 case neg =>
  replace c7 := Bool.eq_false_iff.mpr c7
  subst c7
  have H1 : (some false) = some r := p42z
  clear H
  have H := H1
  clear H1
  obtain rfl := Option.some.inj H
  go_enter Try.func28, Try.ntmps28
  go_wp2_with (first | ((with_reducible refine gate_dst (N := 2) rfl ?_); refine box_event ?hg (N := 2) ?hd (cs := #[.int .i64 a0_0, .int .i64 a0_1, .int .u64 a0_2, .slice A0_3 aY.length c0_3, .slice A0_4 ay.length c0_4]) (t := 33) ?hr ?_; (case hd => rfl); (case hg => rfl); (case hr => exact p22z); intro cc hg w14 hbox hb; have z_ := asi4 (below_step p0z hb) (hbox) ((p38z : w.heap.size ≤ cc)) ((p38z : w.heap.size ≤ cc)); clear HB; obtain ⟨HB, bL, GW275, jI⟩ := z_; clear hb hbox hg) | ((with_reducible refine gate_dst (N := 3) rfl ?_); refine box_event ?hg (N := 3) ?hd (cs := #[.int .i64 a1_0, .int .i64 a1_1, .int .u64 a1_2, .slice A1_3 dR.length c1_3, .slice A1_4 dQ.length c1_4]) (t := 33) ?hr ?_; (case hd => rfl); (case hg => rfl); (case hr => exact p22z); intro cE hg w15 hbox hb; have z_ := asi7 (blk_below (g := cc) (o := .cells #[.int .i64 a0_0, .int .i64 a0_1, .int .u64 a0_2, .slice A0_3 aY.length c0_3, .slice A0_4 ay.length c0_4] 33 (0, 0)) p58z hb) (below_step p36z hb) (hbox) ((p199z : w.heap.size ≤ cE)) ((p199z : w.heap.size ≤ cE)) ((p115z : cc ≠ cE)) ((p116z : cE ≠ cc)); clear bL HB; obtain ⟨bL, HB, cr, GW276, kg, NB275_276, NB276_275⟩ := z_; clear hb hbox hg; have hnb16 := NB275_276.out; have hnc16 := NB276_275.out; have hcz17_0 : w15.cell? ⟨cc, 0, none⟩ = some (.int .i64 a0_0) := (blk_cell bL.out 0).trans rfl; have hcz17_1 : w15.cell? ⟨cc, 1, none⟩ = some (.int .i64 a0_1) := (blk_cell bL.out 1).trans rfl; have hcz17_2 : w15.cell? ⟨cc, 2, none⟩ = some (.int .u64 a0_2) := (blk_cell bL.out 2).trans rfl; have hcz17_3 : w15.cell? ⟨cc, 3, none⟩ = some (.slice A0_3 aY.length c0_3) := (blk_cell bL.out 3).trans rfl; have hcz17_4 : w15.cell? ⟨cc, 4, none⟩ = some (.slice A0_4 ay.length c0_4) := (blk_cell bL.out 4).trans rfl; have hfz17_0 := blk_frozen bL.out 0; have hfz17_1 := blk_frozen bL.out 1; have hfz17_2 := blk_frozen bL.out 2; have hfz17_3 := blk_frozen bL.out 3; have hfz17_4 := blk_frozen bL.out 4; have hcz18_0 : w15.cell? ⟨cE, 0, none⟩ = some (.int .i64 a1_0) := (blk_cell cr.out 0).trans rfl; have hcz18_1 : w15.cell? ⟨cE, 1, none⟩ = some (.int .i64 a1_1) := (blk_cell cr.out 1).trans rfl; have hcz18_2 : w15.cell? ⟨cE, 2, none⟩ = some (.int .u64 a1_2) := (blk_cell cr.out 2).trans rfl; have hcz18_3 : w15.cell? ⟨cE, 3, none⟩ = some (.slice A1_3 dR.length c1_3) := (blk_cell cr.out 3).trans rfl; have hcz18_4 : w15.cell? ⟨cE, 4, none⟩ = some (.slice A1_4 dQ.length c1_4) := (blk_cell cr.out 4).trans rfl; have hfz18_0 := blk_frozen cr.out 0; have hfz18_1 := blk_frozen cr.out 1; have hfz18_2 := blk_frozen cr.out 2; have hfz18_3 := blk_frozen cr.out 3; have hfz18_4 := blk_frozen cr.out 4) | (go_at_call 14; (with_reducible refine (ab.calls _ _ aY _ _ dR false _ ?side1 ?side2 ?side3 ?side4 A6.out).mono ?_); (case side1 => exact p100z); (case side2 => exact fi.out); (case side3 => exact p150z); (case side4 => exact kd.out); rintro e w' ⟨rfl, ⟨nd, rfl⟩⟩))
  go_ret
  exact ⟨p6z, p75z⟩
 subst c7
 have H1 : ((ab.f ay dQ).bind fun jx => (some jx)) = some r := p99z
 clear H
 have H := H1
 clear H1
 replace H := Option.bind_eq_some_iff.mp H
 obtain ⟨jx, A80, H⟩ := H
 replace H : (some jx) = some r := H
 have A8 := Aside0.mk A80
 clear A80
 obtain rfl := Option.some.inj H
 go_enter Try.func28, Try.ntmps28
 go_wp2_with (first | ((with_reducible refine gate_dst (N := 2) rfl ?_); refine box_event ?hg (N := 2) ?hd (cs := #[.int .i64 a0_0, .int .i64 a0_1, .int .u64 a0_2, .slice A0_3 aY.length c0_3, .slice A0_4 ay.length c0_4]) (t := 33) ?hr ?_; (case hd => rfl); (case hg => rfl); (case hr => exact p22z); intro cc hg w9 hbox hb; have z_ := asi4 (below_step p0z hb) (hbox) ((p38z : w.heap.size ≤ cc)) ((p38z : w.heap.size ≤ cc)); clear HB; obtain ⟨HB, bL, GW275, jI⟩ := z_; clear hb hbox hg) | ((with_reducible refine gate_dst (N := 3) rfl ?_); refine box_event ?hg (N := 3) ?hd (cs := #[.int .i64 a1_0, .int .i64 a1_1, .int .u64 a1_2, .slice A1_3 dR.length c1_3, .slice A1_4 dQ.length c1_4]) (t := 33) ?hr ?_; (case hd => rfl); (case hg => rfl); (case hr => exact p22z); intro cE hg w10 hbox hb; have z_ := asi7 (blk_below (g := cc) (o := .cells #[.int .i64 a0_0, .int .i64 a0_1, .int .u64 a0_2, .slice A0_3 aY.length c0_3, .slice A0_4 ay.length c0_4] 33 (0, 0)) p58z hb) (below_step p36z hb) (hbox) ((p199z : w.heap.size ≤ cE)) ((p199z : w.heap.size ≤ cE)) ((p115z : cc ≠ cE)) ((p116z : cE ≠ cc)); clear bL HB; obtain ⟨bL, HB, cr, GW276, kg, NB275_276, NB276_275⟩ := z_; clear hb hbox hg; have hnb11 := NB275_276.out; have hnc11 := NB276_275.out; have hcz12_0 : w10.cell? ⟨cc, 0, none⟩ = some (.int .i64 a0_0) := (blk_cell bL.out 0).trans rfl; have hcz12_1 : w10.cell? ⟨cc, 1, none⟩ = some (.int .i64 a0_1) := (blk_cell bL.out 1).trans rfl; have hcz12_2 : w10.cell? ⟨cc, 2, none⟩ = some (.int .u64 a0_2) := (blk_cell bL.out 2).trans rfl; have hcz12_3 : w10.cell? ⟨cc, 3, none⟩ = some (.slice A0_3 aY.length c0_3) := (blk_cell bL.out 3).trans rfl; have hcz12_4 : w10.cell? ⟨cc, 4, none⟩ = some (.slice A0_4 ay.length c0_4) := (blk_cell bL.out 4).trans rfl; have hfz12_0 := blk_frozen bL.out 0; have hfz12_1 := blk_frozen bL.out 1; have hfz12_2 := blk_frozen bL.out 2; have hfz12_3 := blk_frozen bL.out 3; have hfz12_4 := blk_frozen bL.out 4; have hcz13_0 : w10.cell? ⟨cE, 0, none⟩ = some (.int .i64 a1_0) := (blk_cell cr.out 0).trans rfl; have hcz13_1 : w10.cell? ⟨cE, 1, none⟩ = some (.int .i64 a1_1) := (blk_cell cr.out 1).trans rfl; have hcz13_2 : w10.cell? ⟨cE, 2, none⟩ = some (.int .u64 a1_2) := (blk_cell cr.out 2).trans rfl; have hcz13_3 : w10.cell? ⟨cE, 3, none⟩ = some (.slice A1_3 dR.length c1_3) := (blk_cell cr.out 3).trans rfl; have hcz13_4 : w10.cell? ⟨cE, 4, none⟩ = some (.slice A1_4 dQ.length c1_4) := (blk_cell cr.out 4).trans rfl; have hfz13_0 := blk_frozen cr.out 0; have hfz13_1 := blk_frozen cr.out 1; have hfz13_2 := blk_frozen cr.out 2; have hfz13_3 := blk_frozen cr.out 3; have hfz13_4 := blk_frozen cr.out 4) | (go_at_call 14; (with_reducible refine (ab.calls _ _ aY _ _ dR true _ ?side1 ?side2 ?side3 ?side4 A6.out).mono ?_); (case side1 => exact p100z); (case side2 => exact fi.out); (case side3 => exact p150z); (case side4 => exact kd.out); rintro e w' ⟨rfl, ⟨nd, rfl⟩⟩) | (go_at_call 14; (with_reducible refine (ab.calls _ _ ay _ _ dQ jx _ ?side1 ?side2 ?side3 ?side4 A8.out).mono ?_); (case side1 => repeat (first | exact (Kd.C_below fJ.out p75z) | (with_reducible refine Kd.C_alloc ?_ _) | (with_reducible refine Kd.C_drewN ?_ _) | (with_reducible refine Kd.C_drew ?_))); (case side2 => exact dY.out); (case side3 => repeat (first | exact (Kd.C_below lQ.out p75z) | (with_reducible refine Kd.C_alloc ?_ _) | (with_reducible refine Kd.C_drewN ?_ _) | (with_reducible refine Kd.C_drew ?_))); (case side4 => exact lR.out); rintro e w' ⟨rfl, ⟨nd, rfl⟩⟩))
 go_ret
 exact ⟨p6z, p75z⟩
/-! ### ak: function 29 -/
def ak.l0 : Nat → List (S33) → List (S33) → Int → Option (Bool)
  | 0, _, _, _ => none
  | k + 1, x0, x1, x5 => if x5 < (x0.length : Int) then (if 0 ≤ x5 then (if x5 < (x1.length : Int) then ((ai.f ((rd_T33 x0 x5).f0) ((rd_T33 x0 x5).f1) ((rd_T33 x0 x5).f2) ((rd_T33 x0 x5).f3) ((rd_T33 x0 x5).f4) ((rd_T33 x1 x5).f0) ((rd_T33 x1 x5).f1) ((rd_T33 x1 x5).f2) ((rd_T33 x1 x5).f3) ((rd_T33 x1 x5).f4)).bind fun t281 => (if t281 = true then (ak.l0 k x0 x1 (wrap64 (x5 + 1))) else (some false))) else (none)) else (none)) else (some true)
def ak.f (k : Nat) (l0 : List (S33)) (l1 : List (S33)) : Option (Bool) := if (l0.length : Int) = (l1.length : Int) then (ak.l0 k l0 l1 0) else (some false)
def ak.T6 : Bool × List (List Nat × List Nat) := (true, [([], []), ([], []), ([0, 1], [0, 1]), ([2], [2]), ([], []), ([], []), ([4, 5], [4, 5]), ([6], [6]), ([3, 7], [3, 7]), ([8], [8])])
def ak.B6 : List Nat := [0, 0, 3, 7, 0, 0, 48, 112, 255, 511]
theorem ak.tab6 : rtab .any (opsOf Try.f29 6) = ak.T6 := p16z
theorem ak.bits6 : waitsOk ak.T6.2 ak.B6 = true := p16z
theorem ak.calls (k : Nat) (A0 : Option Addr) (c0 : Nat) (l0 : List (S33)) (A1 : Option Addr) (c1 : Nat) (l1 : List (S33)) (r : Bool) (w : World) (hr0 : Kd.C k33 w A0 l0.length l0) (hc0 : l0.length ≤ c0) (hr1 : Kd.C k33 w A1 l1.length l1) (hc1 : l1.length ≤ c1) (h : ak.f k l0 l1 = some r) :
 Calls Try.prog 29 #[.slice A0 l0.length c0, .slice A1 l1.length c1] w fun e w' => e = .returned (.bool r) ∧ Below w.heap.size w w' := by
 have hu33 := Try.underlying33
 have HR0 := Aside0.mk hr0
 have HC0 := Aside0.mk hc0
 clear hr0 hc0
 have HR1 := Aside0.mk hr1
 have HC1 := Aside0.mk hc1
 clear hr1 hc1
 have HB := Aside0.mk (Below.refl w.heap.size w)
 have H : (if (l0.length : Int) = (l1.length : Int) then (ak.l0 k l0 l1 0) else (some false)) = some r := h
 clear h
 by_cases c3 : (l0.length : Int) = (l1.length : Int)
 case neg =>
  rw [if_neg c3] at H
  have eh : ((l0.length : Int) == (l1.length : Int)) = false := beq_eq_false_iff_ne.mpr c3
  have gh : ((l0.length : Int) != (l1.length : Int)) = true := bne_iff_ne.mpr c3
  have lP : (l0.length == l1.length) = false := p247z
  obtain rfl := Option.some.inj H
  go_enter Try.func29, Try.ntmps29
  go_wp2
  go_ret
  exact ⟨p6z, p0z⟩
 rw [if_pos c3] at H
 have eh : ((l0.length : Int) == (l1.length : Int)) = true := beq_iff_eq.mpr c3
 have gh : ((l0.length : Int) != (l1.length : Int)) = false := bne_eq_false_iff_eq.mpr c3
 have lP : (l0.length == l1.length) = true := p247z
 clear c3
 have H' := Aside0.mk H
 clear H
 go_enter Try.func29, Try.ntmps29
 go_wp2
 go_loopg [5] k (fun kq v5 w' => ∃ (b5 : Int), v5 = .int .i64 b5 ∧ Aside0 (ak.l0 kq l0 l1 b5 = some r) ∧ Aside0 (kq ≤ k) ∧ Aside0 (Below w.heap.size w w'))
 case atStart => exact ⟨(0), p21z, H', ⟨Nat.le_refl _⟩, ⟨p0z⟩⟩
 case round =>
  clear H'
  try clear c1
  try clear eh
  try clear gh
  try clear lP
  obtain ⟨b5, rfl, HA, HK1, HB⟩ := hrel
  cases gk with
  | zero => exact absurd HA.out (by simp [ak.l0])
  | succ k1 =>
   have H := HA.out
   clear HA
   simp only [ak.l0] at H
   by_cases c4 : b5 < (l0.length : Int)
   case neg =>
    rw [if_neg c4] at H
    have gx : decide (b5 < (l0.length : Int)) = false := decide_eq_false c4
    clear c4
    obtain rfl := Option.some.inj H
    go_wp2
    go_ret
    exact ⟨p6z, p0z⟩
   rw [if_pos c4] at H
   have gx : decide (b5 < (l0.length : Int)) = true := decide_eq_true c4
   clear c4
   by_cases c5 : 0 ≤ b5
   case neg =>
    rw [if_neg c5] at H
    exact absurd H (by simp)
   rw [if_pos c5] at H
   have gI : decide (0 ≤ b5) = true := decide_eq_true c5
   clear c5
   by_cases c6 : b5 < (l1.length : Int)
   case neg =>
    rw [if_neg c6] at H
    exact absurd H (by simp)
   rw [if_pos c6] at H
   have js : decide (b5 < (l1.length : Int)) = true := decide_eq_true c6
   clear c6
   replace H := Option.bind_eq_some_iff.mp H
   obtain ⟨t281, A70, H⟩ := H
   replace H : (if t281 = true then (ak.l0 k1 l0 l1 (wrap64 (b5 + 1))) else (some false)) = some r := H
   have A7 := Aside0.mk A70
   clear A70
   by_cases c8 : t281 = true
   case neg =>
    replace c8 := Bool.eq_false_iff.mpr c8
    subst c8
    have H1 : (some false) = some r := p42z
    clear H
    have H := H1
    clear H1
    obtain rfl := Option.some.inj H
    try go_wp2
    have n0_ := Aside0.mk (below_drew1 HB.out)
    clear HB
    have HB := n0_
    clear n0_
    have p279 : 0 ≤ (b5 : Int) := of_decide_eq_true p10z
    have q279 : b5 < (l0.length : Int) := of_decide_eq_true p10z
    obtain ⟨ad279, A279_3, c279_3, A279_4, c279_4, e279, hx279_0, hx279_1, hx279_2, hx279_3, hx279_4, hl279_3, hi279_3, hl279_4, hi279_4⟩ := at_T33 HR0.out b5 p279 q279
    have hw279_4 := hx279_4
    have hw279_3 := hx279_3
    have hw279_2 := hx279_2
    have hw279_1 := hx279_1
    have hw279_0 := hx279_0
    cases e279
    replace hx279_0 := (HB.out.cell (World.block_lt_of_cell? w _ hx279_0)).trans hx279_0
    replace hx279_1 := (HB.out.cell (World.block_lt_of_cell? w _ hx279_1)).trans hx279_1
    replace hx279_2 := (HB.out.cell (World.block_lt_of_cell? w _ hx279_2)).trans hx279_2
    replace hx279_3 := (HB.out.cell (World.block_lt_of_cell? w _ hx279_3)).trans hx279_3
    replace hx279_4 := (HB.out.cell (World.block_lt_of_cell? w _ hx279_4)).trans hx279_4
    have iV := Aside0.mk hi279_3
    have jX := Aside0.mk hl279_3
    clear hi279_3 hl279_3
    have iW := Aside0.mk hi279_4
    have jY := Aside0.mk hl279_4
    clear hi279_4 hl279_4
    replace p279 := eq_true p279
    replace q279 := eq_true q279
    have p280 : 0 ≤ (b5 : Int) := of_decide_eq_true p10z
    have q280 : b5 < (l1.length : Int) := of_decide_eq_true p10z
    obtain ⟨ad280, A280_3, c280_3, A280_4, c280_4, e280, hx280_0, hx280_1, hx280_2, hx280_3, hx280_4, hl280_3, hi280_3, hl280_4, hi280_4⟩ := at_T33 HR1.out b5 p280 q280
    have hw280_4 := hx280_4
    have hw280_3 := hx280_3
    have hw280_2 := hx280_2
    have hw280_1 := hx280_1
    have hw280_0 := hx280_0
    cases e280
    replace hx280_0 := (HB.out.cell (World.block_lt_of_cell? w _ hx280_0)).trans hx280_0
    replace hx280_1 := (HB.out.cell (World.block_lt_of_cell? w _ hx280_1)).trans hx280_1
    replace hx280_2 := (HB.out.cell (World.block_lt_of_cell? w _ hx280_2)).trans hx280_2
    replace hx280_3 := (HB.out.cell (World.block_lt_of_cell? w _ hx280_3)).trans hx280_3
    replace hx280_4 := (HB.out.cell (World.block_lt_of_cell? w _ hx280_4)).trans hx280_4
    have iX := Aside0.mk hi280_3
    have jZ := Aside0.mk hl280_3
    clear hi280_3 hl280_3
    have iY := Aside0.mk hi280_4
    have k0 := Aside0.mk hl280_4
    clear hi280_4 hl280_4
    replace p280 := eq_true p280
    replace q280 := eq_true q280
    refine start_ (n := 10) (S := fun w' => w'.cell? (ad279.add ((b5).toNat * 5)) = some (.int .i64 ((rd_T33 l0 b5).f0)) ∧ w'.cell? ⟨(ad279.add ((b5).toNat * 5)).block, (ad279.add ((b5).toNat * 5)).off + 1, none⟩ = some (.int .i64 ((rd_T33 l0 b5).f1)) ∧ w'.cell? ⟨(ad279.add ((b5).toNat * 5)).block, (ad279.add ((b5).toNat * 5)).off + 2, none⟩ = some (.int .u64 ((rd_T33 l0 b5).f2)) ∧ w'.cell? ⟨(ad279.add ((b5).toNat * 5)).block, (ad279.add ((b5).toNat * 5)).off + 3, none⟩ = some (.slice A279_3 ((rd_T33 l0 b5).f3).length c279_3) ∧ w'.cell? ⟨(ad279.add ((b5).toNat * 5)).block, (ad279.add ((b5).toNat * 5)).off + 4, none⟩ = some (.slice A279_4 ((rd_T33 l0 b5).f4).length c279_4) ∧ w'.cell? (ad280.add ((b5).toNat * 5)) = some (.int .i64 ((rd_T33 l1 b5).f0)) ∧ w'.cell? ⟨(ad280.add ((b5).toNat * 5)).block, (ad280.add ((b5).toNat * 5)).off + 1, none⟩ = some (.int .i64 ((rd_T33 l1 b5).f1)) ∧ w'.cell? ⟨(ad280.add ((b5).toNat * 5)).block, (ad280.add ((b5).toNat * 5)).off + 2, none⟩ = some (.int .u64 ((rd_T33 l1 b5).f2)) ∧ w'.cell? ⟨(ad280.add ((b5).toNat * 5)).block, (ad280.add ((b5).toNat * 5)).off + 3, none⟩ = some (.slice A280_3 ((rd_T33 l1 b5).f3).length c280_3) ∧ w'.cell? ⟨(ad280.add ((b5).toNat * 5)).block, (ad280.add ((b5).toNat * 5)).off + 4, none⟩ = some (.slice A280_4 ((rd_T33 l1 b5).f4).length c280_4)) (ds := []) (tf 0 10) p16z rfl rfl ⟨((HB.out.cell (World.block_lt_of_cell? w _ hw279_0)).trans hw279_0), ((HB.out.cell (World.block_lt_of_cell? w _ hw279_1)).trans hw279_1), ((HB.out.cell (World.block_lt_of_cell? w _ hw279_2)).trans hw279_2), ((HB.out.cell (World.block_lt_of_cell? w _ hw279_3)).trans hw279_3), ((HB.out.cell (World.block_lt_of_cell? w _ hw279_4)).trans hw279_4), ((HB.out.cell (World.block_lt_of_cell? w _ hw280_0)).trans hw280_0), ((HB.out.cell (World.block_lt_of_cell? w _ hw280_1)).trans hw280_1), ((HB.out.cell (World.block_lt_of_cell? w _ hw280_2)).trans hw280_2), ((HB.out.cell (World.block_lt_of_cell? w _ hw280_3)).trans hw280_3), ((HB.out.cell (World.block_lt_of_cell? w _ hw280_4)).trans hw280_4)⟩ (fun hHeld => ?_); refine with_tabW ak.tab6 ak.bits6 (fun HT_ HW_ => ?_)
    generalize wr.drew = w11 at HB iV iW iX iY hx279_0 hx279_1 hx279_2 hx279_3 hx279_4 hx280_0 hx280_1 hx280_2 hx280_3 hx280_4 hHeld ⊢
    refine pure_ (i := 0) (N := some 17) (v := ?_) (a' := ?_) (tf 1 9) rfl rfl (any_of HT_.out p16z) (fun _ _ _ h => h) (Or.inl ⟨by rfl, ?_⟩) ?_ ?_
    rotate_left
    ·intro w'
     go_simp
     with_reducible rfl
    rotate_left
    ·exact p1z
    refine pure_ (i := 1) (N := some 18) (v := ?_) (a' := ?_) (tf 2 8) rfl rfl (any_of HT_.out p16z) (fun _ _ _ h => h) (Or.inl ⟨by rfl, ?_⟩) ?_ ?_
    rotate_left
    ·intro w'
     go_simp
     with_reducible rfl
    rotate_left
    ·exact p1z
    refine pure_ (i := 2) (N := some 19) (v := ?_) (a' := ?_) (tf 3 7) rfl rfl (any_of HT_.out p16z) (fun _ _ _ h => h) (Or.inl ⟨by rfl, ?_⟩) ?_ ?_
    rotate_left
    ·intro w'
     go_simp
     with_reducible rfl
    rotate_left
    ·exact p1z
    refine pure_ (i := 4) (N := some 21) (v := ?_) (a' := ?_) (tfs true [3, 1, 1, 5]) rfl rfl (any_of HT_.out p16z) (fun _ _ _ h => h) (Or.inl ⟨by rfl, ?_⟩) ?_ ?_
    rotate_left
    ·intro w'
     go_simp
     with_reducible rfl
    rotate_left
    ·exact p1z
    refine pure_ (i := 5) (N := some 22) (v := ?_) (a' := ?_) (tfs true [3, 1, 2, 4]) rfl rfl (any_of HT_.out p16z) (fun _ _ _ h => h) (Or.inl ⟨by rfl, ?_⟩) ?_ ?_
    rotate_left
    ·intro w'
     go_simp
     with_reducible rfl
    rotate_left
    ·exact p1z
    refine pure_ (i := 6) (N := some 23) (v := ?_) (a' := ?_) (tfs true [3, 1, 3, 3]) rfl rfl (any_of HT_.out p16z) (fun _ _ _ h => h) (Or.inl ⟨by rfl, ?_⟩) ?_ ?_
    rotate_left
    ·intro w'
     go_simp
     with_reducible rfl
    rotate_left
    ·exact p1z
    refine take_ (i := 3) (N := some 20) (v := ?_) (a' := ?_) (tf 7 3) rfl rfl (take_ofW HT_.out HW_.out p16z) (fun _ _ _ h => h) (Or.inl ⟨by rfl, ?_⟩) hHeld ?_ ?_
    rotate_left
    ·rintro w' ⟨s0, s1, s2, s3, s4, s5, s6, s7, s8, s9⟩
     go_simp
     with_reducible rfl
    rotate_left
    ·exact p1z
    refine take_ (i := 7) (N := some 24) (v := ?_) (a' := ?_) (tf 8 2) rfl rfl (take_ofW HT_.out HW_.out p16z) (fun _ _ _ h => h) (Or.inl ⟨by rfl, ?_⟩) hHeld ?_ ?_
    rotate_left
    ·rintro w' ⟨s0, s1, s2, s3, s4, s5, s6, s7, s8, s9⟩
     go_simp
     with_reducible rfl
    rotate_left
    ·exact p1z
    refine one_ (i := 8) (N := some 25) (tf 9 1) rfl rfl (one_of HT_.out p16z) (by decide) (fun K hK => ?_)
    refine goes_ Try.func28 p16z rfl #[.agg #[.int .i64 ((rd_T33 l0 b5).f0), .int .i64 ((rd_T33 l0 b5).f1), .int .u64 ((rd_T33 l0 b5).f2), .slice A279_3 ((rd_T33 l0 b5).f3).length c279_3, .slice A279_4 ((rd_T33 l0 b5).f4).length c279_4], .agg #[.int .i64 ((rd_T33 l1 b5).f0), .int .i64 ((rd_T33 l1 b5).f1), .int .u64 ((rd_T33 l1 b5).f2), .slice A280_3 ((rd_T33 l1 b5).f3).length c280_3, .slice A280_4 ((rd_T33 l1 b5).f4).length c280_4]] (by rfl) rfl rfl p2z ?_
    with_reducible refine (ai.calls ((rd_T33 l0 b5).f0) ((rd_T33 l0 b5).f1) ((rd_T33 l0 b5).f2) _ _ ((rd_T33 l0 b5).f3) _ _ ((rd_T33 l0 b5).f4) ((rd_T33 l1 b5).f0) ((rd_T33 l1 b5).f1) ((rd_T33 l1 b5).f2) _ _ ((rd_T33 l1 b5).f3) _ _ ((rd_T33 l1 b5).f4) false _ ?side1 ?side2 ?side3 ?side4 ?side5 ?side6 ?side7 ?side8 A7.out).mono ?_
    (case side1 => exact p221z)
    (case side2 => exact jX.out)
    (case side3 => exact p222z)
    (case side4 => exact jY.out)
    (case side5 => exact p223z)
    (case side6 => exact jZ.out)
    (case side7 => exact p224z)
    (case side8 => exact k0.out)
    rintro e w12 ⟨rfl, hb⟩
    refine ⟨_, rfl, ?_⟩
    have n0_ := Aside0.mk (below_step p0z hb)
    clear HB
    have HB := n0_
    clear n0_
    (try clear hb)
    (try clear hb2)
    (try clear hk)
    (try clear hi)
    refine hK.out _ _ ⟨((HB.out.cell (World.block_lt_of_cell? w _ hw279_0)).trans hw279_0), ((HB.out.cell (World.block_lt_of_cell? w _ hw279_1)).trans hw279_1), ((HB.out.cell (World.block_lt_of_cell? w _ hw279_2)).trans hw279_2), ((HB.out.cell (World.block_lt_of_cell? w _ hw279_3)).trans hw279_3), ((HB.out.cell (World.block_lt_of_cell? w _ hw279_4)).trans hw279_4), ((HB.out.cell (World.block_lt_of_cell? w _ hw280_0)).trans hw280_0), ((HB.out.cell (World.block_lt_of_cell? w _ hw280_1)).trans hw280_1), ((HB.out.cell (World.block_lt_of_cell? w _ hw280_2)).trans hw280_2), ((HB.out.cell (World.block_lt_of_cell? w _ hw280_3)).trans hw280_3), ((HB.out.cell (World.block_lt_of_cell? w _ hw280_4)).trans hw280_4)⟩ (fun hHeld => ?_)
    clear hK K
    refine norm_ (a' := ?_) ?_ ?_
    rotate_left
    ·show Act.put _ (some 25) _ = _
     simp only [Act.put, List.setIfInBounds_toArray, List.set_cons_zero, List.set_cons_succ, i64_w, i32_w]
     rfl
    refine pure_ (i := 9) (N := some 26) (v := ?_) (a' := ?_) (tf 10 0) rfl rfl (any_of HT_.out p16z) (fun _ _ _ h => h) (Or.inl ⟨by rfl, ?_⟩) ?_ ?_
    rotate_left
    ·intro w'
     go_simp
     with_reducible rfl
    rotate_left
    ·exact p1z
    refine done_ (done_of HT_.out p16z) ?_
    try go_wp2
    go_ret
    exact ⟨p6z, p0z⟩
   subst c8
   have H1 : (ak.l0 k1 l0 l1 (wrap64 (b5 + 1))) = some r := p99z
   clear H
   have H := H1
   clear H1
   have H' := Aside0.mk H
   clear H
   try go_wp2
   have n0_ := Aside0.mk (below_drew1 HB.out)
   clear HB
   have HB := n0_
   clear n0_
   have p279 : 0 ≤ (b5 : Int) := of_decide_eq_true p10z
   have q279 : b5 < (l0.length : Int) := of_decide_eq_true p10z
   obtain ⟨ad279, A279_3, c279_3, A279_4, c279_4, e279, hx279_0, hx279_1, hx279_2, hx279_3, hx279_4, hl279_3, hi279_3, hl279_4, hi279_4⟩ := at_T33 HR0.out b5 p279 q279
   have hw279_4 := hx279_4
   have hw279_3 := hx279_3
   have hw279_2 := hx279_2
   have hw279_1 := hx279_1
   have hw279_0 := hx279_0
   cases e279
   replace hx279_0 := (HB.out.cell (World.block_lt_of_cell? w _ hx279_0)).trans hx279_0
   replace hx279_1 := (HB.out.cell (World.block_lt_of_cell? w _ hx279_1)).trans hx279_1
   replace hx279_2 := (HB.out.cell (World.block_lt_of_cell? w _ hx279_2)).trans hx279_2
   replace hx279_3 := (HB.out.cell (World.block_lt_of_cell? w _ hx279_3)).trans hx279_3
   replace hx279_4 := (HB.out.cell (World.block_lt_of_cell? w _ hx279_4)).trans hx279_4
   have iV := Aside0.mk hi279_3
   have jX := Aside0.mk hl279_3
   clear hi279_3 hl279_3
   have iW := Aside0.mk hi279_4
   have jY := Aside0.mk hl279_4
   clear hi279_4 hl279_4
   replace p279 := eq_true p279
   replace q279 := eq_true q279
   have p280 : 0 ≤ (b5 : Int) := of_decide_eq_true p10z
   have q280 : b5 < (l1.length : Int) := of_decide_eq_true p10z
   obtain ⟨ad280, A280_3, c280_3, A280_4, c280_4, e280, hx280_0, hx280_1, hx280_2, hx280_3, hx280_4, hl280_3, hi280_3, hl280_4, hi280_4⟩ := at_T33 HR1.out b5 p280 q280
   have hw280_4 := hx280_4
   have hw280_3 := hx280_3
   have hw280_2 := hx280_2
   have hw280_1 := hx280_1
   have hw280_0 := hx280_0
   cases e280
   replace hx280_0 := (HB.out.cell (World.block_lt_of_cell? w _ hx280_0)).trans hx280_0
   replace hx280_1 := (HB.out.cell (World.block_lt_of_cell? w _ hx280_1)).trans hx280_1
   replace hx280_2 := (HB.out.cell (World.block_lt_of_cell? w _ hx280_2)).trans hx280_2
   replace hx280_3 := (HB.out.cell (World.block_lt_of_cell? w _ hx280_3)).trans hx280_3
   replace hx280_4 := (HB.out.cell (World.block_lt_of_cell? w _ hx280_4)).trans hx280_4
   have iX := Aside0.mk hi280_3
   have jZ := Aside0.mk hl280_3
   clear hi280_3 hl280_3
   have iY := Aside0.mk hi280_4
   have k0 := Aside0.mk hl280_4
   clear hi280_4 hl280_4
   replace p280 := eq_true p280
   replace q280 := eq_true q280
   refine start_ (n := 10) (S := fun w' => w'.cell? (ad279.add ((b5).toNat * 5)) = some (.int .i64 ((rd_T33 l0 b5).f0)) ∧ w'.cell? ⟨(ad279.add ((b5).toNat * 5)).block, (ad279.add ((b5).toNat * 5)).off + 1, none⟩ = some (.int .i64 ((rd_T33 l0 b5).f1)) ∧ w'.cell? ⟨(ad279.add ((b5).toNat * 5)).block, (ad279.add ((b5).toNat * 5)).off + 2, none⟩ = some (.int .u64 ((rd_T33 l0 b5).f2)) ∧ w'.cell? ⟨(ad279.add ((b5).toNat * 5)).block, (ad279.add ((b5).toNat * 5)).off + 3, none⟩ = some (.slice A279_3 ((rd_T33 l0 b5).f3).length c279_3) ∧ w'.cell? ⟨(ad279.add ((b5).toNat * 5)).block, (ad279.add ((b5).toNat * 5)).off + 4, none⟩ = some (.slice A279_4 ((rd_T33 l0 b5).f4).length c279_4) ∧ w'.cell? (ad280.add ((b5).toNat * 5)) = some (.int .i64 ((rd_T33 l1 b5).f0)) ∧ w'.cell? ⟨(ad280.add ((b5).toNat * 5)).block, (ad280.add ((b5).toNat * 5)).off + 1, none⟩ = some (.int .i64 ((rd_T33 l1 b5).f1)) ∧ w'.cell? ⟨(ad280.add ((b5).toNat * 5)).block, (ad280.add ((b5).toNat * 5)).off + 2, none⟩ = some (.int .u64 ((rd_T33 l1 b5).f2)) ∧ w'.cell? ⟨(ad280.add ((b5).toNat * 5)).block, (ad280.add ((b5).toNat * 5)).off + 3, none⟩ = some (.slice A280_3 ((rd_T33 l1 b5).f3).length c280_3) ∧ w'.cell? ⟨(ad280.add ((b5).toNat * 5)).block, (ad280.add ((b5).toNat * 5)).off + 4, none⟩ = some (.slice A280_4 ((rd_T33 l1 b5).f4).length c280_4)) (ds := []) (tf 0 10) p16z rfl rfl ⟨((HB.out.cell (World.block_lt_of_cell? w _ hw279_0)).trans hw279_0), ((HB.out.cell (World.block_lt_of_cell? w _ hw279_1)).trans hw279_1), ((HB.out.cell (World.block_lt_of_cell? w _ hw279_2)).trans hw279_2), ((HB.out.cell (World.block_lt_of_cell? w _ hw279_3)).trans hw279_3), ((HB.out.cell (World.block_lt_of_cell? w _ hw279_4)).trans hw279_4), ((HB.out.cell (World.block_lt_of_cell? w _ hw280_0)).trans hw280_0), ((HB.out.cell (World.block_lt_of_cell? w _ hw280_1)).trans hw280_1), ((HB.out.cell (World.block_lt_of_cell? w _ hw280_2)).trans hw280_2), ((HB.out.cell (World.block_lt_of_cell? w _ hw280_3)).trans hw280_3), ((HB.out.cell (World.block_lt_of_cell? w _ hw280_4)).trans hw280_4)⟩ (fun hHeld => ?_); refine with_tabW ak.tab6 ak.bits6 (fun HT_ HW_ => ?_)
   generalize wr.drew = w9 at HB iV iW iX iY hx279_0 hx279_1 hx279_2 hx279_3 hx279_4 hx280_0 hx280_1 hx280_2 hx280_3 hx280_4 hHeld ⊢
   refine pure_ (i := 0) (N := some 17) (v := ?_) (a' := ?_) (tf 1 9) rfl rfl (any_of HT_.out p16z) (fun _ _ _ h => h) (Or.inl ⟨by rfl, ?_⟩) ?_ ?_
   rotate_left
   ·intro w'
    go_simp
    with_reducible rfl
   rotate_left
   ·exact p1z
   refine pure_ (i := 1) (N := some 18) (v := ?_) (a' := ?_) (tf 2 8) rfl rfl (any_of HT_.out p16z) (fun _ _ _ h => h) (Or.inl ⟨by rfl, ?_⟩) ?_ ?_
   rotate_left
   ·intro w'
    go_simp
    with_reducible rfl
   rotate_left
   ·exact p1z
   refine pure_ (i := 2) (N := some 19) (v := ?_) (a' := ?_) (tf 3 7) rfl rfl (any_of HT_.out p16z) (fun _ _ _ h => h) (Or.inl ⟨by rfl, ?_⟩) ?_ ?_
   rotate_left
   ·intro w'
    go_simp
    with_reducible rfl
   rotate_left
   ·exact p1z
   refine pure_ (i := 4) (N := some 21) (v := ?_) (a' := ?_) (tfs true [3, 1, 1, 5]) rfl rfl (any_of HT_.out p16z) (fun _ _ _ h => h) (Or.inl ⟨by rfl, ?_⟩) ?_ ?_
   rotate_left
   ·intro w'
    go_simp
    with_reducible rfl
   rotate_left
   ·exact p1z
   refine pure_ (i := 5) (N := some 22) (v := ?_) (a' := ?_) (tfs true [3, 1, 2, 4]) rfl rfl (any_of HT_.out p16z) (fun _ _ _ h => h) (Or.inl ⟨by rfl, ?_⟩) ?_ ?_
   rotate_left
   ·intro w'
    go_simp
    with_reducible rfl
   rotate_left
   ·exact p1z
   refine pure_ (i := 6) (N := some 23) (v := ?_) (a' := ?_) (tfs true [3, 1, 3, 3]) rfl rfl (any_of HT_.out p16z) (fun _ _ _ h => h) (Or.inl ⟨by rfl, ?_⟩) ?_ ?_
   rotate_left
   ·intro w'
    go_simp
    with_reducible rfl
   rotate_left
   ·exact p1z
   refine take_ (i := 3) (N := some 20) (v := ?_) (a' := ?_) (tf 7 3) rfl rfl (take_ofW HT_.out HW_.out p16z) (fun _ _ _ h => h) (Or.inl ⟨by rfl, ?_⟩) hHeld ?_ ?_
   rotate_left
   ·rintro w' ⟨s0, s1, s2, s3, s4, s5, s6, s7, s8, s9⟩
    go_simp
    with_reducible rfl
   rotate_left
   ·exact p1z
   refine take_ (i := 7) (N := some 24) (v := ?_) (a' := ?_) (tf 8 2) rfl rfl (take_ofW HT_.out HW_.out p16z) (fun _ _ _ h => h) (Or.inl ⟨by rfl, ?_⟩) hHeld ?_ ?_
   rotate_left
   ·rintro w' ⟨s0, s1, s2, s3, s4, s5, s6, s7, s8, s9⟩
    go_simp
    with_reducible rfl
   rotate_left
   ·exact p1z
   refine one_ (i := 8) (N := some 25) (tf 9 1) rfl rfl (one_of HT_.out p16z) (by decide) (fun K hK => ?_)
   refine goes_ Try.func28 p16z rfl #[.agg #[.int .i64 ((rd_T33 l0 b5).f0), .int .i64 ((rd_T33 l0 b5).f1), .int .u64 ((rd_T33 l0 b5).f2), .slice A279_3 ((rd_T33 l0 b5).f3).length c279_3, .slice A279_4 ((rd_T33 l0 b5).f4).length c279_4], .agg #[.int .i64 ((rd_T33 l1 b5).f0), .int .i64 ((rd_T33 l1 b5).f1), .int .u64 ((rd_T33 l1 b5).f2), .slice A280_3 ((rd_T33 l1 b5).f3).length c280_3, .slice A280_4 ((rd_T33 l1 b5).f4).length c280_4]] (by rfl) rfl rfl p2z ?_
   with_reducible refine (ai.calls ((rd_T33 l0 b5).f0) ((rd_T33 l0 b5).f1) ((rd_T33 l0 b5).f2) _ _ ((rd_T33 l0 b5).f3) _ _ ((rd_T33 l0 b5).f4) ((rd_T33 l1 b5).f0) ((rd_T33 l1 b5).f1) ((rd_T33 l1 b5).f2) _ _ ((rd_T33 l1 b5).f3) _ _ ((rd_T33 l1 b5).f4) true _ ?side1 ?side2 ?side3 ?side4 ?side5 ?side6 ?side7 ?side8 A7.out).mono ?_
   (case side1 => exact p221z)
   (case side2 => exact jX.out)
   (case side3 => exact p222z)
   (case side4 => exact jY.out)
   (case side5 => exact p223z)
   (case side6 => exact jZ.out)
   (case side7 => exact p224z)
   (case side8 => exact k0.out)
   rintro e w10 ⟨rfl, hb⟩
   refine ⟨_, rfl, ?_⟩
   have n0_ := Aside0.mk (below_step p0z hb)
   clear HB
   have HB := n0_
   clear n0_
   (try clear hb)
   (try clear hb2)
   (try clear hk)
   (try clear hi)
   refine hK.out _ _ ⟨((HB.out.cell (World.block_lt_of_cell? w _ hw279_0)).trans hw279_0), ((HB.out.cell (World.block_lt_of_cell? w _ hw279_1)).trans hw279_1), ((HB.out.cell (World.block_lt_of_cell? w _ hw279_2)).trans hw279_2), ((HB.out.cell (World.block_lt_of_cell? w _ hw279_3)).trans hw279_3), ((HB.out.cell (World.block_lt_of_cell? w _ hw279_4)).trans hw279_4), ((HB.out.cell (World.block_lt_of_cell? w _ hw280_0)).trans hw280_0), ((HB.out.cell (World.block_lt_of_cell? w _ hw280_1)).trans hw280_1), ((HB.out.cell (World.block_lt_of_cell? w _ hw280_2)).trans hw280_2), ((HB.out.cell (World.block_lt_of_cell? w _ hw280_3)).trans hw280_3), ((HB.out.cell (World.block_lt_of_cell? w _ hw280_4)).trans hw280_4)⟩ (fun hHeld => ?_)
   clear hK K
   refine norm_ (a' := ?_) ?_ ?_
   rotate_left
   ·show Act.put _ (some 25) _ = _
    simp only [Act.put, List.setIfInBounds_toArray, List.set_cons_zero, List.set_cons_succ, i64_w, i32_w]
    rfl
   refine pure_ (i := 9) (N := some 26) (v := ?_) (a' := ?_) (tf 10 0) rfl rfl (any_of HT_.out p16z) (fun _ _ _ h => h) (Or.inl ⟨by rfl, ?_⟩) ?_ ?_
   rotate_left
   ·intro w'
    go_simp
    with_reducible rfl
   rotate_left
   ·exact p1z
   refine done_ (done_of HT_.out p16z) ?_
   try go_wp2
   go_roundg k1
   case measure => have := HK1.out; omega
   case rel => exact ⟨(wrap64 (b5 + 1)), p21z, H', ⟨p217z⟩, ⟨p0z⟩⟩
end Go.Proofs.Ytbclejgljegfmaa.PAll
