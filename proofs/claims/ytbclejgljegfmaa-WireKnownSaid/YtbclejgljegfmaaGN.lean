-- Written by this repo's program wip/tools/pr.py (over the kit's print) out of the translation. Not trusted: Lean checks it.
import Derived.Test.YtbclejgljegfmaaAp
import Derived.Test.YtbclejgljegfmaaPAllx0
import Derived.Test.YtbclejgljegfmaaGA
import Derived.Test.YtbclejgljegfmaaGE
import Derived.Test.YtbclejgljegfmaaGG
set_option maxHeartbeats 8000000
set_option maxRecDepth 100000
namespace Go.Proofs.Ytbclejgljegfmaa.PAll
open Go.Proofs.Ytbclejgljegfmaa.Hand
open Go.RowKit Go.Proofs.YtbclejgljegfmaaW.PrintWords Go.Proofs.YtbclejgljegfmaaW.PrintLast Go.Proofs.YtbclejgljegfmaaW.PrintMore
attribute [local go_sem] max2_int min2_int max_two min_two max_three min_three max_four min_four   -- for this text's walks alone
set_option linter.unusedVariables false
set_option linter.unusedSimpArgs false

/-! ### ar: function 37 -/
def ar.f (k : Nat) (a0_0 : Int) (a0_1 : Int) (a0_2 : Int) (aY : List Int) (ay : List Int) : Option (Int) := (aa.f k ay).bind fun fP => (if fP.2.2.2.2.2.2 = 0 then (if fP.2.2.2.2.2.1 = (ay.length : Int) then ((ai.f fP.1 fP.2.1 fP.2.2.1 fP.2.2.2.1 fP.2.2.2.2.1 a0_0 a0_1 a0_2 aY ay).bind fun kt => (if kt = true then (some 0) else (some 2))) else (some 2)) else (some 2))
theorem ar.calls (k : Nat) (a0_0 : Int) (a0_1 : Int) (a0_2 : Int) (A0_3 : Option Addr) (c0_3 : Nat) (aY : List Int) (A0_4 : Option Addr) (c0_4 : Nat) (ay : List Int) (r : Int) (w : World) (hr0_3 : Kd.C (Kd.int .u8) w A0_3 aY.length aY) (hc0_3 : aY.length ≤ c0_3) (hr0_4 : Kd.C (Kd.int .u8) w A0_4 ay.length ay) (hc0_4 : ay.length ≤ c0_4) (h : ar.f k a0_0 a0_1 a0_2 aY ay = some r) :
 Calls Try.prog 37 #[.agg #[.int .i64 a0_0, .int .i64 a0_1, .int .u64 a0_2, .slice A0_3 aY.length c0_3, .slice A0_4 ay.length c0_4]] w fun e w' => e = .returned (.int .i64 r) ∧ Below w.heap.size w w' := by
 have hu33 := Try.underlying33
 have gE := Aside0.mk hr0_3
 have fi := Aside0.mk hc0_3
 clear hr0_3 hc0_3
 have fJ := Aside0.mk hr0_4
 have dY := Aside0.mk hc0_4
 clear hr0_4 hc0_4
 have HB := Aside0.mk (Below.refl w.heap.size w)
 have H : ((aa.f k ay).bind fun fP => (if fP.2.2.2.2.2.2 = 0 then (if fP.2.2.2.2.2.1 = (ay.length : Int) then ((ai.f fP.1 fP.2.1 fP.2.2.1 fP.2.2.2.1 fP.2.2.2.2.1 a0_0 a0_1 a0_2 aY ay).bind fun kt => (if kt = true then (some 0) else (some 2))) else (some 2)) else (some 2))) = some r := h
 clear h
 replace H := Option.bind_eq_some_iff.mp H
 obtain ⟨⟨gl, gB, gW, gC, gX, jC, jD⟩, A20, H⟩ := H
 replace H : (if jD = 0 then (if jC = (ay.length : Int) then ((ai.f gl gB gW gC gX a0_0 a0_1 a0_2 aY ay).bind fun kt => (if kt = true then (some 0) else (some 2))) else (some 2)) else (some 2)) = some r := H
 have A2 := Aside0.mk A20
 clear A20
 by_cases c3 : jD = 0
 case neg =>
  rw [if_neg c3] at H
  have eh : (jD == 0) = false := beq_eq_false_iff_ne.mpr c3
  have gh : (jD != 0) = true := bne_iff_ne.mpr c3
  obtain rfl := Option.some.inj H
  go_enter Try.func37, Try.ntmps37
  go_wp2_with (first | ((with_reducible refine gate_dst (N := 1) rfl ?_); (try (refine gate_guard (by rfl) ?_; dsimp only)); refine box_event ?hg (N := 1) ?hd (cs := #[.int .i64 a0_0, .int .i64 a0_1, .int .u64 a0_2, .slice A0_3 aY.length c0_3, .slice A0_4 ay.length c0_4]) (t := 33) ?hr ?_; (case hd => rfl); (case hg => rfl); (case hr => exact p22z); intro bG hg w36 hbox hb; have z_ := asi4 (below_step p0z hb) (hbox) ((p38z : w.heap.size ≤ bG)) ((p38z : w.heap.size ≤ bG)); clear HB; obtain ⟨HB, bl, GW474, ku⟩ := z_; clear hb hbox hg; have hcz37_0 : w36.cell? ⟨bG, 0, none⟩ = some (.int .i64 a0_0) := (blk_cell bl.out 0).trans rfl; have hcz37_1 : w36.cell? ⟨bG, 1, none⟩ = some (.int .i64 a0_1) := (blk_cell bl.out 1).trans rfl; have hcz37_2 : w36.cell? ⟨bG, 2, none⟩ = some (.int .u64 a0_2) := (blk_cell bl.out 2).trans rfl; have hcz37_3 : w36.cell? ⟨bG, 3, none⟩ = some (.slice A0_3 aY.length c0_3) := (blk_cell bl.out 3).trans rfl; have hcz37_4 : w36.cell? ⟨bG, 4, none⟩ = some (.slice A0_4 ay.length c0_4) := (blk_cell bl.out 4).trans rfl; have hfz37_0 := blk_frozen bl.out 0; have hfz37_1 := blk_frozen bl.out 1; have hfz37_2 := blk_frozen bl.out 2; have hfz37_3 := blk_frozen bl.out 3; have hfz37_4 := blk_frozen bl.out 4) | ((with_reducible refine gate_callee (f := 25) rfl ?_); refine goesL_ (some 9) rfl rfl Try.func25 p16z rfl #[.slice A0_4 ay.length c0_4] rfl p2z ?_; (with_reducible refine (aa.calls k _ _ ay gl gB gW gC gX jC jD _ ?side1 ?side2 A2.out).mono ?_); (case side1 => exact p47z); (case side2 => exact dY.out); rintro e w38 ⟨v479, v482, rfl, ho0, ho1, hb⟩; refine ⟨_, rfl, ?_⟩; have z_ := asi4 (Kd.R_lower ho0 (below_size p19z)) (Kd.R_lower ho1 (below_size p19z)) (blk_below (g := bG) (o := .cells #[.int .i64 a0_0, .int .i64 a0_1, .int .u64 a0_2, .slice A0_3 aY.length c0_3, .slice A0_4 ay.length c0_4] 33 (0, 0)) p49z hb) (below_step p19z hb); clear bl HB; obtain ⟨ee, ef, bl, HB⟩ := z_; (try clear hb ho0 ho1)) | ((with_reducible refine gate_dst (N := 3) rfl ?_); (try (refine gate_guard (by rfl) ?_; dsimp only)); refine box_event ?hg (N := 3) ?hd (cs := #[.int .i64 0, .int .i64 0, .int .u64 0, .slice none 0 0, .slice none 0 0]) (t := 33) ?hr ?_; (case hd => rfl); (case hg => rfl); (case hr => exact p22z); intro bV hg w39 hbox hb; have z_ := asi9 (Kd.R_below p192z hb) (Kd.R_below p193z hb) (blk_below (g := bG) (o := .cells #[.int .i64 a0_0, .int .i64 a0_1, .int .u64 a0_2, .slice A0_3 aY.length c0_3, .slice A0_4 ay.length c0_4] 33 (0, 0)) p49z hb) (below_step p19z hb) (hbox) ((p209z : w.heap.size ≤ bV)) ((p209z : w.heap.size ≤ bV)) ((p132z : bG ≠ bV)) ((p133z : bV ≠ bG)); clear ee ef bl HB; obtain ⟨ee, ef, bl, HB, cu, GW486, lk, NB474_486, NB486_474⟩ := z_; clear hb hbox hg; have hnb40 := NB486_474.out; have hnc40 := NB474_486.out; have hcz41_0 : w39.cell? ⟨bV, 0, none⟩ = some (.int .i64 0) := (blk_cell cu.out 0).trans rfl; have hcz41_1 : w39.cell? ⟨bV, 1, none⟩ = some (.int .i64 0) := (blk_cell cu.out 1).trans rfl; have hcz41_2 : w39.cell? ⟨bV, 2, none⟩ = some (.int .u64 0) := (blk_cell cu.out 2).trans rfl; have hcz41_3 : w39.cell? ⟨bV, 3, none⟩ = some (.slice none 0 0) := (blk_cell cu.out 3).trans rfl; have hcz41_4 : w39.cell? ⟨bV, 4, none⟩ = some (.slice none 0 0) := (blk_cell cu.out 4).trans rfl; have hfz41_0 := blk_frozen cu.out 0; have hfz41_1 := blk_frozen cu.out 1; have hfz41_2 := blk_frozen cu.out 2; have hfz41_3 := blk_frozen cu.out 3; have hfz41_4 := blk_frozen cu.out 4; obtain ⟨Ao42, co42, eo42⟩ := Kd.R_slice ee.out; subst eo42; obtain ⟨Ao43, co43, eo43⟩ := Kd.R_slice ef.out; subst eo43))
  go_ret
  exact ⟨p6z, p44z⟩

 rw [if_pos c3] at H
 have eh : (jD == 0) = true := beq_iff_eq.mpr c3
 have gh : (jD != 0) = false := bne_eq_false_iff_eq.mpr c3
 clear c3
 by_cases c4 : jC = (ay.length : Int)
 case neg =>
  rw [if_neg c4] at H
  have gx : (jC == (ay.length : Int)) = false := beq_eq_false_iff_ne.mpr c4
  have ju : (jC != (ay.length : Int)) = true := bne_iff_ne.mpr c4
  obtain rfl := Option.some.inj H
  go_enter Try.func37, Try.ntmps37
  go_wp2_with (first | ((with_reducible refine gate_dst (N := 1) rfl ?_); (try (refine gate_guard (by rfl) ?_; dsimp only)); refine box_event ?hg (N := 1) ?hd (cs := #[.int .i64 a0_0, .int .i64 a0_1, .int .u64 a0_2, .slice A0_3 aY.length c0_3, .slice A0_4 ay.length c0_4]) (t := 33) ?hr ?_; (case hd => rfl); (case hg => rfl); (case hr => exact p22z); intro bG hg w27 hbox hb; have z_ := asi4 (below_step p0z hb) (hbox) ((p38z : w.heap.size ≤ bG)) ((p38z : w.heap.size ≤ bG)); clear HB; obtain ⟨HB, bl, GW474, ku⟩ := z_; clear hb hbox hg; have hcz28_0 : w27.cell? ⟨bG, 0, none⟩ = some (.int .i64 a0_0) := (blk_cell bl.out 0).trans rfl; have hcz28_1 : w27.cell? ⟨bG, 1, none⟩ = some (.int .i64 a0_1) := (blk_cell bl.out 1).trans rfl; have hcz28_2 : w27.cell? ⟨bG, 2, none⟩ = some (.int .u64 a0_2) := (blk_cell bl.out 2).trans rfl; have hcz28_3 : w27.cell? ⟨bG, 3, none⟩ = some (.slice A0_3 aY.length c0_3) := (blk_cell bl.out 3).trans rfl; have hcz28_4 : w27.cell? ⟨bG, 4, none⟩ = some (.slice A0_4 ay.length c0_4) := (blk_cell bl.out 4).trans rfl; have hfz28_0 := blk_frozen bl.out 0; have hfz28_1 := blk_frozen bl.out 1; have hfz28_2 := blk_frozen bl.out 2; have hfz28_3 := blk_frozen bl.out 3; have hfz28_4 := blk_frozen bl.out 4) | ((with_reducible refine gate_callee (f := 25) rfl ?_); refine goesL_ (some 9) rfl rfl Try.func25 p16z rfl #[.slice A0_4 ay.length c0_4] rfl p2z ?_; (with_reducible refine (aa.calls k _ _ ay gl gB gW gC gX jC jD _ ?side1 ?side2 A2.out).mono ?_); (case side1 => exact p47z); (case side2 => exact dY.out); rintro e w29 ⟨v479, v482, rfl, ho0, ho1, hb⟩; refine ⟨_, rfl, ?_⟩; have z_ := asi4 (Kd.R_lower ho0 (below_size p19z)) (Kd.R_lower ho1 (below_size p19z)) (blk_below (g := bG) (o := .cells #[.int .i64 a0_0, .int .i64 a0_1, .int .u64 a0_2, .slice A0_3 aY.length c0_3, .slice A0_4 ay.length c0_4] 33 (0, 0)) p49z hb) (below_step p19z hb); clear bl HB; obtain ⟨ee, ef, bl, HB⟩ := z_; (try clear hb ho0 ho1)) | ((with_reducible refine gate_dst (N := 3) rfl ?_); (try (refine gate_guard (by rfl) ?_; dsimp only)); refine box_event ?hg (N := 3) ?hd (cs := #[.int .i64 0, .int .i64 0, .int .u64 0, .slice none 0 0, .slice none 0 0]) (t := 33) ?hr ?_; (case hd => rfl); (case hg => rfl); (case hr => exact p22z); intro bV hg w30 hbox hb; have z_ := asi9 (Kd.R_below p192z hb) (Kd.R_below p193z hb) (blk_below (g := bG) (o := .cells #[.int .i64 a0_0, .int .i64 a0_1, .int .u64 a0_2, .slice A0_3 aY.length c0_3, .slice A0_4 ay.length c0_4] 33 (0, 0)) p49z hb) (below_step p19z hb) (hbox) ((p209z : w.heap.size ≤ bV)) ((p209z : w.heap.size ≤ bV)) ((p132z : bG ≠ bV)) ((p133z : bV ≠ bG)); clear ee ef bl HB; obtain ⟨ee, ef, bl, HB, cu, GW486, lk, NB474_486, NB486_474⟩ := z_; clear hb hbox hg; have hnb31 := NB486_474.out; have hnc31 := NB474_486.out; have hcz32_0 : w30.cell? ⟨bV, 0, none⟩ = some (.int .i64 0) := (blk_cell cu.out 0).trans rfl; have hcz32_1 : w30.cell? ⟨bV, 1, none⟩ = some (.int .i64 0) := (blk_cell cu.out 1).trans rfl; have hcz32_2 : w30.cell? ⟨bV, 2, none⟩ = some (.int .u64 0) := (blk_cell cu.out 2).trans rfl; have hcz32_3 : w30.cell? ⟨bV, 3, none⟩ = some (.slice none 0 0) := (blk_cell cu.out 3).trans rfl; have hcz32_4 : w30.cell? ⟨bV, 4, none⟩ = some (.slice none 0 0) := (blk_cell cu.out 4).trans rfl; have hfz32_0 := blk_frozen cu.out 0; have hfz32_1 := blk_frozen cu.out 1; have hfz32_2 := blk_frozen cu.out 2; have hfz32_3 := blk_frozen cu.out 3; have hfz32_4 := blk_frozen cu.out 4; obtain ⟨lF, co33, eo33⟩ := Kd.R_slice ee.out; subst eo33; obtain ⟨lZ, co34, eo34⟩ := Kd.R_slice ef.out; subst eo34; have hcz35_0 : w30.cell? ⟨bG, 0, none⟩ = some (.int .i64 a0_0) := (blk_cell bl.out 0).trans rfl; have hcz35_1 : w30.cell? ⟨bG, 1, none⟩ = some (.int .i64 a0_1) := (blk_cell bl.out 1).trans rfl; have hcz35_2 : w30.cell? ⟨bG, 2, none⟩ = some (.int .u64 a0_2) := (blk_cell bl.out 2).trans rfl; have hcz35_3 : w30.cell? ⟨bG, 3, none⟩ = some (.slice A0_3 aY.length c0_3) := (blk_cell bl.out 3).trans rfl; have hcz35_4 : w30.cell? ⟨bG, 4, none⟩ = some (.slice A0_4 ay.length c0_4) := (blk_cell bl.out 4).trans rfl; have hfz35_0 := blk_frozen bl.out 0; have hfz35_1 := blk_frozen bl.out 1; have hfz35_2 := blk_frozen bl.out 2; have hfz35_3 := blk_frozen bl.out 3; have hfz35_4 := blk_frozen bl.out 4))
  go_ret
  exact ⟨p6z, p44z⟩
 rw [if_pos c4] at H
 have gx : (jC == (ay.length : Int)) = true := beq_iff_eq.mpr c4
 have ju : (jC != (ay.length : Int)) = false := bne_eq_false_iff_eq.mpr c4
 clear c4
 replace H := Option.bind_eq_some_iff.mp H
 obtain ⟨kt, A50, H⟩ := H
 replace H : (if kt = true then (some 0) else (some 2)) = some r := H
 have A5 := Aside0.mk A50
 clear A50
 by_cases c6 : kt = true
 case pos =>
  subst c6
  have H1 : (some 0) = some r := p99z
  clear H
  have H := H1
  clear H1
  obtain rfl := Option.some.inj H
  go_enter Try.func37, Try.ntmps37
  go_wp2_with (first | ((with_reducible refine gate_dst (N := 1) rfl ?_); (try (refine gate_guard (by rfl) ?_; dsimp only)); refine box_event ?hg (N := 1) ?hd (cs := #[.int .i64 a0_0, .int .i64 a0_1, .int .u64 a0_2, .slice A0_3 aY.length c0_3, .slice A0_4 ay.length c0_4]) (t := 33) ?hr ?_; (case hd => rfl); (case hg => rfl); (case hr => exact p22z); intro bG hg w7 hbox hb; have z_ := asi4 (below_step p0z hb) (hbox) ((p38z : w.heap.size ≤ bG)) ((p38z : w.heap.size ≤ bG)); clear HB; obtain ⟨HB, bl, GW474, ku⟩ := z_; clear hb hbox hg; have hcz8_0 : w7.cell? ⟨bG, 0, none⟩ = some (.int .i64 a0_0) := (blk_cell bl.out 0).trans rfl; have hcz8_1 : w7.cell? ⟨bG, 1, none⟩ = some (.int .i64 a0_1) := (blk_cell bl.out 1).trans rfl; have hcz8_2 : w7.cell? ⟨bG, 2, none⟩ = some (.int .u64 a0_2) := (blk_cell bl.out 2).trans rfl; have hcz8_3 : w7.cell? ⟨bG, 3, none⟩ = some (.slice A0_3 aY.length c0_3) := (blk_cell bl.out 3).trans rfl; have hcz8_4 : w7.cell? ⟨bG, 4, none⟩ = some (.slice A0_4 ay.length c0_4) := (blk_cell bl.out 4).trans rfl; have hfz8_0 := blk_frozen bl.out 0; have hfz8_1 := blk_frozen bl.out 1; have hfz8_2 := blk_frozen bl.out 2; have hfz8_3 := blk_frozen bl.out 3; have hfz8_4 := blk_frozen bl.out 4) | ((with_reducible refine gate_callee (f := 25) rfl ?_); refine goesL_ (some 9) rfl rfl Try.func25 p16z rfl #[.slice A0_4 ay.length c0_4] rfl p2z ?_; (with_reducible refine (aa.calls k _ _ ay gl gB gW gC gX jC jD _ ?side1 ?side2 A2.out).mono ?_); (case side1 => exact p47z); (case side2 => exact dY.out); rintro e w9 ⟨v479, v482, rfl, ho0, ho1, hb⟩; refine ⟨_, rfl, ?_⟩; have z_ := asi4 (Kd.R_lower ho0 (below_size p19z)) (Kd.R_lower ho1 (below_size p19z)) (blk_below (g := bG) (o := .cells #[.int .i64 a0_0, .int .i64 a0_1, .int .u64 a0_2, .slice A0_3 aY.length c0_3, .slice A0_4 ay.length c0_4] 33 (0, 0)) p49z hb) (below_step p19z hb); clear bl HB; obtain ⟨ee, ef, bl, HB⟩ := z_; (try clear hb hk ho0 ho1)) | ((with_reducible refine gate_dst (N := 3) rfl ?_); (try (refine gate_guard (by rfl) ?_; dsimp only)); refine box_event ?hg (N := 3) ?hd (cs := #[.int .i64 0, .int .i64 0, .int .u64 0, .slice none 0 0, .slice none 0 0]) (t := 33) ?hr ?_; (case hd => rfl); (case hg => rfl); (case hr => exact p22z); intro bV hg w10 hbox hb; have z_ := asi9 (Kd.R_below p192z hb) (Kd.R_below p193z hb) (blk_below (g := bG) (o := .cells #[.int .i64 a0_0, .int .i64 a0_1, .int .u64 a0_2, .slice A0_3 aY.length c0_3, .slice A0_4 ay.length c0_4] 33 (0, 0)) p49z hb) (below_step p19z hb) (hbox) ((p209z : w.heap.size ≤ bV)) ((p209z : w.heap.size ≤ bV)) ((p132z : bG ≠ bV)) ((p133z : bV ≠ bG)); clear ee ef bl HB; obtain ⟨ee, ef, bl, HB, cu, GW486, lk, NB474_486, NB486_474⟩ := z_; clear hb hbox hg; have hnb11 := NB486_474.out; have hnc11 := NB474_486.out; have hcz12_0 : w10.cell? ⟨bV, 0, none⟩ = some (.int .i64 0) := (blk_cell cu.out 0).trans rfl; have hcz12_1 : w10.cell? ⟨bV, 1, none⟩ = some (.int .i64 0) := (blk_cell cu.out 1).trans rfl; have hcz12_2 : w10.cell? ⟨bV, 2, none⟩ = some (.int .u64 0) := (blk_cell cu.out 2).trans rfl; have hcz12_3 : w10.cell? ⟨bV, 3, none⟩ = some (.slice none 0 0) := (blk_cell cu.out 3).trans rfl; have hcz12_4 : w10.cell? ⟨bV, 4, none⟩ = some (.slice none 0 0) := (blk_cell cu.out 4).trans rfl; have hfz12_0 := blk_frozen cu.out 0; have hfz12_1 := blk_frozen cu.out 1; have hfz12_2 := blk_frozen cu.out 2; have hfz12_3 := blk_frozen cu.out 3; have hfz12_4 := blk_frozen cu.out 4; obtain ⟨df, co13, eo13⟩ := Kd.R_slice ee.out; subst eo13; obtain ⟨dc, co14, eo14⟩ := Kd.R_slice ef.out; subst eo14; have hcz15_0 : w10.cell? ⟨bG, 0, none⟩ = some (.int .i64 a0_0) := (blk_cell bl.out 0).trans rfl; have hcz15_1 : w10.cell? ⟨bG, 1, none⟩ = some (.int .i64 a0_1) := (blk_cell bl.out 1).trans rfl; have hcz15_2 : w10.cell? ⟨bG, 2, none⟩ = some (.int .u64 a0_2) := (blk_cell bl.out 2).trans rfl; have hcz15_3 : w10.cell? ⟨bG, 3, none⟩ = some (.slice A0_3 aY.length c0_3) := (blk_cell bl.out 3).trans rfl; have hcz15_4 : w10.cell? ⟨bG, 4, none⟩ = some (.slice A0_4 ay.length c0_4) := (blk_cell bl.out 4).trans rfl; have hfz15_0 := blk_frozen bl.out 0; have hfz15_1 := blk_frozen bl.out 1; have hfz15_2 := blk_frozen bl.out 2; have hfz15_3 := blk_frozen bl.out 3; have hfz15_4 := blk_frozen bl.out 4) | (go_at_call 28; (with_reducible refine (ai.calls gl gB gW _ _ gC _ _ gX a0_0 a0_1 a0_2 _ _ aY _ _ ay true _ ?side1 ?side2 ?side3 ?side4 ?side5 ?side6 ?side7 ?side8 A5.out).mono ?_); (case side1 => refine (Kd.R_reads' (e := 5) (base := w.heap.size) (ok := fun k_ => some k_ ≠ (.slice dc gX.length co14 : Value).ownBlock) (n := gC.length) (c := co13) ?_).2.2; exact p138z); (case side2 => exact (Kd.R_reads' ee.out).2.1); (case side3 => refine (Kd.R_reads' (e := 5) (base := w.heap.size) (ok := fun k_ => some k_ ≠ (.slice df gC.length co13 : Value).ownBlock) (n := gX.length) (c := co14) ?_).2.2; exact p139z); (case side4 => exact (Kd.R_reads' ef.out).2.1); (case side5 => exact Kd.C_below gE.out p44z); (case side6 => exact fi.out); (case side7 => exact Kd.C_below fJ.out p44z); (case side8 => exact dY.out); rintro e w16 ⟨rfl, hb⟩; have z_ := asi5 (Kd.R_below p138z hb) (Kd.R_below p139z hb) (blk_below (g := bG) (o := .cells #[.int .i64 a0_0, .int .i64 a0_1, .int .u64 a0_2, .slice A0_3 aY.length c0_3, .slice A0_4 ay.length c0_4] 33 (0, 0)) p108z hb) (blk_below (g := bV) (o := .cells #[.int .i64 gl, .int .i64 gB, .int .u64 gW, .slice df gC.length co13, .slice dc gX.length co14] 33 (0, 0)) (by (with_reducible repeat (first | refine blk_drewN ?_ _ | refine blk_drew ?_ | refine blk_alloc ?_ _)); refine blk_put (cs := #[.int .i64 gl, .int .i64 gB, .int .u64 gW, .slice df gC.length co13, .slice none 0 0]) ?_ 4 _ rfl; (with_reducible repeat (first | refine blk_drewN ?_ _ | refine blk_drew ?_ | refine blk_alloc ?_ _)); refine blk_put (cs := #[.int .i64 gl, .int .i64 gB, .int .u64 gW, .slice none 0 0, .slice none 0 0]) ?_ 3 _ rfl; (with_reducible repeat (first | refine blk_drewN ?_ _ | refine blk_drew ?_ | refine blk_alloc ?_ _)); refine blk_put (cs := #[.int .i64 gl, .int .i64 gB, .int .u64 0, .slice none 0 0, .slice none 0 0]) ?_ 2 _ rfl; (with_reducible repeat (first | refine blk_drewN ?_ _ | refine blk_drew ?_ | refine blk_alloc ?_ _)); refine blk_put (cs := #[.int .i64 gl, .int .i64 0, .int .u64 0, .slice none 0 0, .slice none 0 0]) ?_ 1 _ rfl; (with_reducible repeat (first | refine blk_drewN ?_ _ | refine blk_drew ?_ | refine blk_alloc ?_ _)); refine blk_put (cs := #[.int .i64 0, .int .i64 0, .int .u64 0, .slice none 0 0, .slice none 0 0]) ?_ 0 _ rfl; (with_reducible repeat (first | refine blk_drewN ?_ _ | refine blk_drew ?_ | refine blk_alloc ?_ _)); exact cu.out) hb) (below_step p44z hb); clear ee ef bl cu HB; obtain ⟨ee, ef, bl, cu, HB⟩ := z_; (try clear hb hk)))
  go_ret
  exact ⟨p6z, p44z⟩
 replace c6 := Bool.eq_false_iff.mpr c6
 subst c6
 have H1 : (some 2) = some r := p42z
 clear H
 have H := H1
 clear H1
 obtain rfl := Option.some.inj H
 go_enter Try.func37, Try.ntmps37
 go_wp2_with (first | ((with_reducible refine gate_dst (N := 1) rfl ?_); (try (refine gate_guard (by rfl) ?_; dsimp only)); refine box_event ?hg (N := 1) ?hd (cs := #[.int .i64 a0_0, .int .i64 a0_1, .int .u64 a0_2, .slice A0_3 aY.length c0_3, .slice A0_4 ay.length c0_4]) (t := 33) ?hr ?_; (case hd => rfl); (case hg => rfl); (case hr => exact p22z); intro bG hg w17 hbox hb; have z_ := asi4 (below_step p0z hb) (hbox) ((p38z : w.heap.size ≤ bG)) ((p38z : w.heap.size ≤ bG)); clear HB; obtain ⟨HB, bl, GW474, ku⟩ := z_; clear hb hbox hg; have hcz18_0 : w17.cell? ⟨bG, 0, none⟩ = some (.int .i64 a0_0) := (blk_cell bl.out 0).trans rfl; have hcz18_1 : w17.cell? ⟨bG, 1, none⟩ = some (.int .i64 a0_1) := (blk_cell bl.out 1).trans rfl; have hcz18_2 : w17.cell? ⟨bG, 2, none⟩ = some (.int .u64 a0_2) := (blk_cell bl.out 2).trans rfl; have hcz18_3 : w17.cell? ⟨bG, 3, none⟩ = some (.slice A0_3 aY.length c0_3) := (blk_cell bl.out 3).trans rfl; have hcz18_4 : w17.cell? ⟨bG, 4, none⟩ = some (.slice A0_4 ay.length c0_4) := (blk_cell bl.out 4).trans rfl; have hfz18_0 := blk_frozen bl.out 0; have hfz18_1 := blk_frozen bl.out 1; have hfz18_2 := blk_frozen bl.out 2; have hfz18_3 := blk_frozen bl.out 3; have hfz18_4 := blk_frozen bl.out 4) | ((with_reducible refine gate_callee (f := 25) rfl ?_); refine goesL_ (some 9) rfl rfl Try.func25 p16z rfl #[.slice A0_4 ay.length c0_4] rfl p2z ?_; (with_reducible refine (aa.calls k _ _ ay gl gB gW gC gX jC jD _ ?side1 ?side2 A2.out).mono ?_); (case side1 => exact p47z); (case side2 => exact dY.out); rintro e w19 ⟨v479, v482, rfl, ho0, ho1, hb⟩; refine ⟨_, rfl, ?_⟩; have z_ := asi4 (Kd.R_lower ho0 (below_size p19z)) (Kd.R_lower ho1 (below_size p19z)) (blk_below (g := bG) (o := .cells #[.int .i64 a0_0, .int .i64 a0_1, .int .u64 a0_2, .slice A0_3 aY.length c0_3, .slice A0_4 ay.length c0_4] 33 (0, 0)) p49z hb) (below_step p19z hb); clear bl HB; obtain ⟨ee, ef, bl, HB⟩ := z_; (try clear hb hk ho0 ho1)) | ((with_reducible refine gate_dst (N := 3) rfl ?_); (try (refine gate_guard (by rfl) ?_; dsimp only)); refine box_event ?hg (N := 3) ?hd (cs := #[.int .i64 0, .int .i64 0, .int .u64 0, .slice none 0 0, .slice none 0 0]) (t := 33) ?hr ?_; (case hd => rfl); (case hg => rfl); (case hr => exact p22z); intro bV hg w20 hbox hb; have z_ := asi9 (Kd.R_below p192z hb) (Kd.R_below p193z hb) (blk_below (g := bG) (o := .cells #[.int .i64 a0_0, .int .i64 a0_1, .int .u64 a0_2, .slice A0_3 aY.length c0_3, .slice A0_4 ay.length c0_4] 33 (0, 0)) p49z hb) (below_step p19z hb) (hbox) ((p209z : w.heap.size ≤ bV)) ((p209z : w.heap.size ≤ bV)) ((p132z : bG ≠ bV)) ((p133z : bV ≠ bG)); clear ee ef bl HB; obtain ⟨ee, ef, bl, HB, cu, GW486, lk, NB474_486, NB486_474⟩ := z_; clear hb hbox hg; have hnb21 := NB486_474.out; have hnc21 := NB474_486.out; have hcz22_0 : w20.cell? ⟨bV, 0, none⟩ = some (.int .i64 0) := (blk_cell cu.out 0).trans rfl; have hcz22_1 : w20.cell? ⟨bV, 1, none⟩ = some (.int .i64 0) := (blk_cell cu.out 1).trans rfl; have hcz22_2 : w20.cell? ⟨bV, 2, none⟩ = some (.int .u64 0) := (blk_cell cu.out 2).trans rfl; have hcz22_3 : w20.cell? ⟨bV, 3, none⟩ = some (.slice none 0 0) := (blk_cell cu.out 3).trans rfl; have hcz22_4 : w20.cell? ⟨bV, 4, none⟩ = some (.slice none 0 0) := (blk_cell cu.out 4).trans rfl; have hfz22_0 := blk_frozen cu.out 0; have hfz22_1 := blk_frozen cu.out 1; have hfz22_2 := blk_frozen cu.out 2; have hfz22_3 := blk_frozen cu.out 3; have hfz22_4 := blk_frozen cu.out 4; obtain ⟨cx, co23, eo23⟩ := Kd.R_slice ee.out; subst eo23; obtain ⟨jh, co24, eo24⟩ := Kd.R_slice ef.out; subst eo24; have hcz25_0 : w20.cell? ⟨bG, 0, none⟩ = some (.int .i64 a0_0) := (blk_cell bl.out 0).trans rfl; have hcz25_1 : w20.cell? ⟨bG, 1, none⟩ = some (.int .i64 a0_1) := (blk_cell bl.out 1).trans rfl; have hcz25_2 : w20.cell? ⟨bG, 2, none⟩ = some (.int .u64 a0_2) := (blk_cell bl.out 2).trans rfl; have hcz25_3 : w20.cell? ⟨bG, 3, none⟩ = some (.slice A0_3 aY.length c0_3) := (blk_cell bl.out 3).trans rfl; have hcz25_4 : w20.cell? ⟨bG, 4, none⟩ = some (.slice A0_4 ay.length c0_4) := (blk_cell bl.out 4).trans rfl; have hfz25_0 := blk_frozen bl.out 0; have hfz25_1 := blk_frozen bl.out 1; have hfz25_2 := blk_frozen bl.out 2; have hfz25_3 := blk_frozen bl.out 3; have hfz25_4 := blk_frozen bl.out 4) | (go_at_call 28; (with_reducible refine (ai.calls gl gB gW _ _ gC _ _ gX a0_0 a0_1 a0_2 _ _ aY _ _ ay false _ ?side1 ?side2 ?side3 ?side4 ?side5 ?side6 ?side7 ?side8 A5.out).mono ?_); (case side1 => refine (Kd.R_reads' (e := 5) (base := w.heap.size) (ok := fun k_ => some k_ ≠ (.slice jh gX.length co24 : Value).ownBlock) (n := gC.length) (c := co23) ?_).2.2; exact p140z); (case side2 => exact (Kd.R_reads' ee.out).2.1); (case side3 => refine (Kd.R_reads' (e := 5) (base := w.heap.size) (ok := fun k_ => some k_ ≠ (.slice cx gC.length co23 : Value).ownBlock) (n := gX.length) (c := co24) ?_).2.2; exact p141z); (case side4 => exact (Kd.R_reads' ef.out).2.1); (case side5 => exact Kd.C_below gE.out p44z); (case side6 => exact fi.out); (case side7 => exact Kd.C_below fJ.out p44z); (case side8 => exact dY.out); rintro e w26 ⟨rfl, hb⟩; have z_ := asi5 (Kd.R_below p140z hb) (Kd.R_below p141z hb) (blk_below (g := bG) (o := .cells #[.int .i64 a0_0, .int .i64 a0_1, .int .u64 a0_2, .slice A0_3 aY.length c0_3, .slice A0_4 ay.length c0_4] 33 (0, 0)) p108z hb) (blk_below (g := bV) (o := .cells #[.int .i64 gl, .int .i64 gB, .int .u64 gW, .slice cx gC.length co23, .slice jh gX.length co24] 33 (0, 0)) (by (with_reducible repeat (first | refine blk_drewN ?_ _ | refine blk_drew ?_ | refine blk_alloc ?_ _)); refine blk_put (cs := #[.int .i64 gl, .int .i64 gB, .int .u64 gW, .slice cx gC.length co23, .slice none 0 0]) ?_ 4 _ rfl; (with_reducible repeat (first | refine blk_drewN ?_ _ | refine blk_drew ?_ | refine blk_alloc ?_ _)); refine blk_put (cs := #[.int .i64 gl, .int .i64 gB, .int .u64 gW, .slice none 0 0, .slice none 0 0]) ?_ 3 _ rfl; (with_reducible repeat (first | refine blk_drewN ?_ _ | refine blk_drew ?_ | refine blk_alloc ?_ _)); refine blk_put (cs := #[.int .i64 gl, .int .i64 gB, .int .u64 0, .slice none 0 0, .slice none 0 0]) ?_ 2 _ rfl; (with_reducible repeat (first | refine blk_drewN ?_ _ | refine blk_drew ?_ | refine blk_alloc ?_ _)); refine blk_put (cs := #[.int .i64 gl, .int .i64 0, .int .u64 0, .slice none 0 0, .slice none 0 0]) ?_ 1 _ rfl; (with_reducible repeat (first | refine blk_drewN ?_ _ | refine blk_drew ?_ | refine blk_alloc ?_ _)); refine blk_put (cs := #[.int .i64 0, .int .i64 0, .int .u64 0, .slice none 0 0, .slice none 0 0]) ?_ 0 _ rfl; (with_reducible repeat (first | refine blk_drewN ?_ _ | refine blk_drew ?_ | refine blk_alloc ?_ _)); exact cu.out) hb) (below_step p44z hb); clear ee ef bl cu HB; obtain ⟨ee, ef, bl, cu, HB⟩ := z_; (try clear hb hk)))
 go_ret
 exact ⟨p6z, p44z⟩
-- NOT PRINTED: function 7 (a7)

/-! ### cw: function 38 -/
def cw.f (a0_0 : Int) (a0_1 : Int) (a0_2 : Int) (aY : List Int) (ay : List Int) : Option (Int × Int × Int × List Int × List Int) := (ag.f aY).bind fun ir => ((ag.f ay).bind fun iC => (some (a0_0, a0_1, a0_2, ir, iC)))
theorem cw.calls (a0_0 : Int) (a0_1 : Int) (a0_2 : Int) (A0_3 : Option Addr) (c0_3 : Nat) (aY : List Int) (A0_4 : Option Addr) (c0_4 : Nat) (ay : List Int) (r1 : Int) (r2 : Int) (r3 : Int) (r4 : List Int) (r5 : List Int) (w : World) (hr0_3 : Kd.C (Kd.int .u8) w A0_3 aY.length aY) (hc0_3 : aY.length ≤ c0_3) (hr0_4 : Kd.C (Kd.int .u8) w A0_4 ay.length ay) (hc0_4 : ay.length ≤ c0_4) (h : cw.f a0_0 a0_1 a0_2 aY ay = some (r1, r2, r3, r4, r5)) :
    Calls Try.prog 38 #[.agg #[.int .i64 a0_0, .int .i64 a0_1, .int .u64 a0_2, .slice A0_3 aY.length c0_3, .slice A0_4 ay.length c0_4]] w fun e w' => ∃ v3_ v4_ : Value, e = .returned (.agg #[.int .i64 r1, .int .i64 r2, .int .u64 r3, v3_, v4_]) ∧ Kd.R (Kd.int .u8) 5 w' w.heap.size (fun k_ => some k_ ≠ (v4_ : Value).ownBlock) v3_ r4 ∧ Kd.R (Kd.int .u8) 5 w' w.heap.size (fun k_ => some k_ ≠ (v3_ : Value).ownBlock) v4_ r5 ∧ Below w.heap.size w w' := by
  have hu33 := Try.underlying33
  have gE := Aside0.mk hr0_3
  have fi := Aside0.mk hc0_3
  clear hr0_3 hc0_3
  have fJ := Aside0.mk hr0_4
  have dY := Aside0.mk hc0_4
  clear hr0_4 hc0_4
  have HB := Aside0.mk (Below.refl w.heap.size w)
  have H : ((ag.f aY).bind fun ir => ((ag.f ay).bind fun iC => (some (a0_0, a0_1, a0_2, ir, iC)))) = some (r1, r2, r3, r4, r5) := h
  clear h
  replace H := Option.bind_eq_some_iff.mp H
  obtain ⟨ir, A20, H⟩ := H
  replace H : ((ag.f ay).bind fun iC => (some (a0_0, a0_1, a0_2, ir, iC))) = some (r1, r2, r3, r4, r5) := H
  have A2 := Aside0.mk A20
  clear A20
  replace H := Option.bind_eq_some_iff.mp H
  obtain ⟨iC, A30, H⟩ := H
  replace H : (some (a0_0, a0_1, a0_2, ir, iC)) = some (r1, r2, r3, r4, r5) := H
  have A3 := Aside0.mk A30
  clear A30
  simp only [Option.some.injEq, Prod.mk.injEq] at H
  obtain ⟨rfl, rfl, rfl, rfl, rfl⟩ := H
  go_enter Try.func38, Try.ntmps38
  go_wp2_with (first | ((with_reducible refine gate_dst (N := 1) rfl ?_); refine box_event ?hg (N := 1) ?hd (cs := #[.int .i64 a0_0, .int .i64 a0_1, .int .u64 a0_2, .slice A0_3 aY.length c0_3, .slice A0_4 ay.length c0_4]) (t := 33) ?hr ?_; (case hd => rfl); (case hg => rfl); (case hr => exact p22z); intro br hg w4 hbox hb; have z_ := asi4 (below_step p0z hb) (hbox) ((p38z : w.heap.size ≤ br)) ((p38z : w.heap.size ≤ br)); clear HB; obtain ⟨HB, aZ, GW488, iu⟩ := z_; clear hb hbox hg) | ((with_reducible refine gate_dst (N := 2) rfl ?_); refine box_event ?hg (N := 2) ?hd (cs := #[.int .i64 0, .int .i64 0, .int .u64 0, .slice none 0 0, .slice none 0 0]) (t := 33) ?hr ?_; (case hd => rfl); (case hg => rfl); (case hr => exact p22z); intro ev hg w5 hbox hb; have z_ := asi7 (blk_below (g := br) (o := .cells #[.int .i64 a0_0, .int .i64 a0_1, .int .u64 a0_2, .slice A0_3 aY.length c0_3, .slice A0_4 ay.length c0_4] 33 (0, 0)) p23z hb) (below_step p37z hb) (hbox) ((by rw [hg]; exact (below_size p37z) : w.heap.size ≤ ev)) ((by rw [hg]; exact (below_size p37z) : w.heap.size ≤ ev)) ((by rw [hg]; exact Nat.ne_of_lt (blk_lt (g := br) (o := .cells #[.int .i64 a0_0, .int .i64 a0_1, .int .u64 a0_2, .slice A0_3 aY.length c0_3, .slice A0_4 ay.length c0_4] 33 (0, 0)) p23z) : br ≠ ev)) ((by rw [hg]; exact Nat.ne_of_gt (blk_lt (g := br) (o := .cells #[.int .i64 a0_0, .int .i64 a0_1, .int .u64 a0_2, .slice A0_3 aY.length c0_3, .slice A0_4 ay.length c0_4] 33 (0, 0)) p23z) : ev ≠ br)); clear aZ HB; obtain ⟨aZ, HB, eU, GW489, GE489, NB488_489, NB489_488⟩ := z_; clear hb hbox hg; have hnb6 := NB488_489.out; have hnc6 := NB489_488.out; have hcz7_0 : w5.cell? ⟨br, 0, none⟩ = some (.int .i64 a0_0) := (blk_cell aZ.out 0).trans rfl; have hcz7_1 : w5.cell? ⟨br, 1, none⟩ = some (.int .i64 a0_1) := (blk_cell aZ.out 1).trans rfl; have hcz7_2 : w5.cell? ⟨br, 2, none⟩ = some (.int .u64 a0_2) := (blk_cell aZ.out 2).trans rfl; have hcz7_3 : w5.cell? ⟨br, 3, none⟩ = some (.slice A0_3 aY.length c0_3) := (blk_cell aZ.out 3).trans rfl; have hcz7_4 : w5.cell? ⟨br, 4, none⟩ = some (.slice A0_4 ay.length c0_4) := (blk_cell aZ.out 4).trans rfl; have hfz7_0 := blk_frozen aZ.out 0; have hfz7_1 := blk_frozen aZ.out 1; have hfz7_2 := blk_frozen aZ.out 2; have hfz7_3 := blk_frozen aZ.out 3; have hfz7_4 := blk_frozen aZ.out 4) | ((with_reducible refine gate_callee (f := 12) rfl ?_); refine goesL_ (some 5) rfl rfl Try.func12 p16z rfl #[.slice A0_3 aY.length c0_3] rfl p2z ?_; (with_reducible refine (ag.calls _ _ aY ir _ ?side1 ?side2 A2.out).mono ?_); (case side1 => exact p100z); (case side2 => exact fi.out); rintro e w8 ⟨v491, rfl, ho0, hb⟩; refine ⟨_, rfl, ?_⟩; have z_ := asi4 (Kd.R_lower ho0 (below_size p90z)) (blk_below (g := br) (o := .cells #[.int .i64 a0_0, .int .i64 a0_1, .int .u64 a0_2, .slice A0_3 aY.length c0_3, .slice A0_4 ay.length c0_4] 33 (0, 0)) p23z hb) (blk_below (g := ev) (o := .cells #[.int .i64 0, .int .i64 0, .int .u64 0, .slice none 0 0, .slice none 0 0] 33 (0, 0)) (q1z eU.out) hb) (below_step p90z hb); clear aZ eU HB; obtain ⟨kv, aZ, eU, HB⟩ := z_; (try clear hb hk ho0); obtain ⟨Ao9, co9, eo9⟩ := Kd.R_slice kv.out; subst eo9; have hcz10_0 : w8.cell? ⟨br, 0, none⟩ = some (.int .i64 a0_0) := (blk_cell aZ.out 0).trans rfl; have hcz10_1 : w8.cell? ⟨br, 1, none⟩ = some (.int .i64 a0_1) := (blk_cell aZ.out 1).trans rfl; have hcz10_2 : w8.cell? ⟨br, 2, none⟩ = some (.int .u64 a0_2) := (blk_cell aZ.out 2).trans rfl; have hcz10_3 : w8.cell? ⟨br, 3, none⟩ = some (.slice A0_3 aY.length c0_3) := (blk_cell aZ.out 3).trans rfl; have hcz10_4 : w8.cell? ⟨br, 4, none⟩ = some (.slice A0_4 ay.length c0_4) := (blk_cell aZ.out 4).trans rfl; have hfz10_0 := blk_frozen aZ.out 0; have hfz10_1 := blk_frozen aZ.out 1; have hfz10_2 := blk_frozen aZ.out 2; have hfz10_3 := blk_frozen aZ.out 3; have hfz10_4 := blk_frozen aZ.out 4) | ((with_reducible refine gate_callee (f := 12) rfl ?_); refine goesL_ (some 9) rfl rfl Try.func12 p16z rfl #[.slice A0_4 ay.length c0_4] rfl p2z ?_; (with_reducible refine (ag.calls _ _ ay iC _ ?side1 ?side2 A3.out).mono ?_); (case side1 => exact Kd.C_below fJ.out p90z); (case side2 => exact dY.out); rintro e w11 ⟨v494, rfl, ho0, hb⟩; refine ⟨_, rfl, ?_⟩; have z_ := asi5 (Kd.R_elder' p204z (Kd.R_base ho0) hb) (Kd.R_lower (Kd.R_new' ho0 (Kd.R_lt p204z)) (below_size p90z)) (blk_below (g := br) (o := .cells #[.int .i64 a0_0, .int .i64 a0_1, .int .u64 a0_2, .slice Ao9 ir.length co9, .slice A0_4 ay.length c0_4] 33 (0, 0)) (by (with_reducible repeat (first | refine blk_drewN ?_ _ | refine blk_drew ?_ | refine blk_alloc ?_ _)); refine blk_put (cs := #[.int .i64 a0_0, .int .i64 a0_1, .int .u64 a0_2, .slice A0_3 aY.length c0_3, .slice A0_4 ay.length c0_4]) ?_ 3 _ rfl; (with_reducible repeat (first | refine blk_drewN ?_ _ | refine blk_drew ?_ | refine blk_alloc ?_ _)); exact aZ.out) hb) (blk_below (g := ev) (o := .cells #[.int .i64 0, .int .i64 0, .int .u64 0, .slice none 0 0, .slice none 0 0] 33 (0, 0)) (by (with_reducible repeat (first | refine blk_drewN ?_ _ | refine blk_drew ?_ | refine blk_alloc ?_ _)); refine blk_far ?_ NB489_488.out _; (with_reducible repeat (first | refine blk_drewN ?_ _ | refine blk_drew ?_ | refine blk_alloc ?_ _)); exact eU.out) hb) (below_step p90z hb); clear kv aZ eU HB; obtain ⟨kv, HO495, aZ, eU, HB⟩ := z_; (try clear hb hk ho0); obtain ⟨eL, co12, eo12⟩ := Kd.R_slice HO495.out; subst eo12; have hcz13_0 : w11.cell? ⟨br, 0, none⟩ = some (.int .i64 a0_0) := (blk_cell aZ.out 0).trans rfl; have hcz13_1 : w11.cell? ⟨br, 1, none⟩ = some (.int .i64 a0_1) := (blk_cell aZ.out 1).trans rfl; have hcz13_2 : w11.cell? ⟨br, 2, none⟩ = some (.int .u64 a0_2) := (blk_cell aZ.out 2).trans rfl; have hcz13_3 : w11.cell? ⟨br, 3, none⟩ = some (.slice Ao9 ir.length co9) := (blk_cell aZ.out 3).trans rfl; have hcz13_4 : w11.cell? ⟨br, 4, none⟩ = some (.slice A0_4 ay.length c0_4) := (blk_cell aZ.out 4).trans rfl; have hfz13_0 := blk_frozen aZ.out 0; have hfz13_1 := blk_frozen aZ.out 1; have hfz13_2 := blk_frozen aZ.out 2; have hfz13_3 := blk_frozen aZ.out 3; have hfz13_4 := blk_frozen aZ.out 4; have hcz14_0 : w11.cell? ⟨ev, 0, none⟩ = some (.int .i64 0) := (blk_cell eU.out 0).trans rfl; have hcz14_1 : w11.cell? ⟨ev, 1, none⟩ = some (.int .i64 0) := (blk_cell eU.out 1).trans rfl; have hcz14_2 : w11.cell? ⟨ev, 2, none⟩ = some (.int .u64 0) := (blk_cell eU.out 2).trans rfl; have hcz14_3 : w11.cell? ⟨ev, 3, none⟩ = some (.slice none 0 0) := (blk_cell eU.out 3).trans rfl; have hcz14_4 : w11.cell? ⟨ev, 4, none⟩ = some (.slice none 0 0) := (blk_cell eU.out 4).trans rfl; have hfz14_0 := blk_frozen eU.out 0; have hfz14_1 := blk_frozen eU.out 1; have hfz14_2 := blk_frozen eU.out 2; have hfz14_3 := blk_frozen eU.out 3; have hfz14_4 := blk_frozen eU.out 4))
  refine bodyPost_ret (results_cell_row rfl _ _ ev 33 #[.int .i64 a0_0, .int .i64 a0_1, .int .u64 a0_2, .slice Ao9 ir.length co9, .slice eL iC.length co12] (0, 0) _ rfl (by (with_reducible repeat (first | refine blk_drewN ?_ _ | refine blk_drew ?_ | refine blk_alloc ?_ _)); refine blk_put (cs := #[.int .i64 a0_0, .int .i64 a0_1, .int .u64 a0_2, .slice Ao9 ir.length co9, .slice none 0 0]) ?_ 4 _ rfl; (with_reducible repeat (first | refine blk_drewN ?_ _ | refine blk_drew ?_ | refine blk_alloc ?_ _)); refine blk_put (cs := #[.int .i64 a0_0, .int .i64 a0_1, .int .u64 a0_2, .slice none 0 0, .slice none 0 0]) ?_ 3 _ rfl; (with_reducible repeat (first | refine blk_drewN ?_ _ | refine blk_drew ?_ | refine blk_alloc ?_ _)); refine blk_put (cs := #[.int .i64 a0_0, .int .i64 a0_1, .int .u64 0, .slice none 0 0, .slice none 0 0]) ?_ 2 _ rfl; (with_reducible repeat (first | refine blk_drewN ?_ _ | refine blk_drew ?_ | refine blk_alloc ?_ _)); refine blk_put (cs := #[.int .i64 a0_0, .int .i64 0, .int .u64 0, .slice none 0 0, .slice none 0 0]) ?_ 1 _ rfl; (with_reducible repeat (first | refine blk_drewN ?_ _ | refine blk_drew ?_ | refine blk_alloc ?_ _)); refine blk_put (cs := #[.int .i64 0, .int .i64 0, .int .u64 0, .slice none 0 0, .slice none 0 0]) ?_ 0 _ rfl; (with_reducible repeat (first | refine blk_drewN ?_ _ | refine blk_drew ?_ | refine blk_alloc ?_ _)); refine blk_far ?_ NB489_488.out _; (with_reducible repeat (first | refine blk_drewN ?_ _ | refine blk_drew ?_ | refine blk_alloc ?_ _)); exact eU.out) Try.underlying33 rfl p16z) rfl ?_
  exact ⟨_, _, p6z, by (with_reducible repeat (first | apply Kd.R_alloc | apply Kd.R_drewN | apply Kd.R_drew)); exact Kd.R_mono (Kd.R_far (p := ⟨ev, 4, none⟩) (Kd.R_far (p := ⟨ev, 3, none⟩) (Kd.R_far (p := ⟨ev, 2, none⟩) (Kd.R_far (p := ⟨ev, 1, none⟩) (Kd.R_far (p := ⟨ev, 0, none⟩) (Kd.R_far (p := ⟨br, 4, none⟩) (Kd.R_types (Kd.R_types kv.out aZ.out (by decide)) eU.out (by decide)) (fun _ hk => hk.1.2) (.slice eL iC.length co12)) (fun _ hk => hk.2) (.int .i64 a0_0)) (fun _ hk => hk.2) (.int .i64 a0_1)) (fun _ hk => hk.2) (.int .u64 a0_2)) (fun _ hk => hk.2) (.slice Ao9 ir.length co9)) (fun _ hk => hk.2) (.slice eL iC.length co12)) (fun _ hk => hk.1.1.2), by (with_reducible repeat (first | apply Kd.R_alloc | apply Kd.R_drewN | apply Kd.R_drew)); exact Kd.R_mono (Kd.R_far (p := ⟨ev, 4, none⟩) (Kd.R_far (p := ⟨ev, 3, none⟩) (Kd.R_far (p := ⟨ev, 2, none⟩) (Kd.R_far (p := ⟨ev, 1, none⟩) (Kd.R_far (p := ⟨ev, 0, none⟩) (Kd.R_far (p := ⟨br, 4, none⟩) (Kd.R_types (Kd.R_types HO495.out aZ.out (by decide)) eU.out (by decide)) (fun _ hk => hk.1.2) (.slice eL iC.length co12)) (fun _ hk => hk.2) (.int .i64 a0_0)) (fun _ hk => hk.2) (.int .i64 a0_1)) (fun _ hk => hk.2) (.int .u64 a0_2)) (fun _ hk => hk.2) (.slice Ao9 ir.length co9)) (fun _ hk => hk.2) (.slice eL iC.length co12)) (fun _ hk => hk.1.1.2), p90z⟩

/-! ### ao: function 40 -/
mutual
def ao.l0 : Nat → List (S33) → Int → Option (List Int × Int)
  | 0, _, _ => none
  | k + 1, x0, x5 => if x5 < (x0.length : Int) then (if 0 ≤ x5 then ((ar.f k ((rd_T33 x0 x5).f0) ((rd_T33 x0 x5).f1) ((rd_T33 x0 x5).f2) ((rd_T33 x0 x5).f3) ((rd_T33 x0 x5).f4)).bind fun bQ => (if bQ = 0 then (ao.l0 k x0 (wrap64 (x5 + 1))) else (some (([] : List Int), bQ)))) else (none)) else (ao.l1 k x0 ([] : List Int) 0)
def ao.l1 : Nat → List (S33) → List Int → Int → Option (List Int × Int)
  | 0, _, _, _ => none
  | k + 1, x0, x4, x7 => if x7 < (x0.length : Int) then (if 0 ≤ x7 then (if x4.length + ((rd_T33 x0 x7).f4).length < 140737488355328 then ((some (x4 ++ ((rd_T33 x0 x7).f4) : List Int)).bind fun y499 => (if (y499.length : Int) > 1048576 then (some (([] : List Int), 5)) else (ao.l1 k x0 y499 (wrap64 (x7 + 1))))) else (none)) else (none)) else (some (x4, 0))
end
def ao.f (k : Nat) (l0 : List (S33)) : Option (List Int × Int) := ao.l0 k l0 0
theorem ao.calls (k : Nat) (A0 : Option Addr) (c0 : Nat) (l0 : List (S33)) (r1 : List Int) (r2 : Int) (w : World) (hr0 : Kd.C k33 w A0 l0.length l0) (hc0 : l0.length ≤ c0) (h : ao.f k l0 = some (r1, r2)) :
 Calls Try.prog 40 #[.slice A0 l0.length c0] w fun e w' => ∃ v0_ : Value, e = .returned (.tuple #[v0_, .int .i64 r2]) ∧ Kd.R (Kd.int .u8) 5 w' w.heap.size (fun _ => True) v0_ r1 ∧ Below w.heap.size w w' := by
 have hu33 := Try.underlying33
 have HR0 := Aside0.mk hr0
 have HC0 := Aside0.mk hc0
 clear hr0 hc0
 have HB := Aside0.mk (Below.refl w.heap.size w)
 have H : (ao.l0 k l0 0) = some (r1, r2) := h
 clear h
 have H' := Aside0.mk H
 clear H
 go_enter Try.func40, Try.ntmps40
 go_wp2
 go_loopg [5] k (fun kq v5 w' => ∃ (b5 : Int), v5 = .int .i64 b5 ∧ Aside0 (ao.l0 kq l0 b5 = some (r1, r2)) ∧ Aside0 (kq ≤ k) ∧ Aside0 (Below w.heap.size w w'))
 case atStart => exact ⟨(0), p21z, H', ⟨Nat.le_refl _⟩, ⟨p0z⟩⟩
 case round =>
  clear H'
  obtain ⟨b5, rfl, HA, HK1, HB⟩ := hrel
  cases gk with
  | zero => exact absurd HA.out (by simp [ao.l0])
  | succ k1 =>
   have H := HA.out
   clear HA
   simp only [ao.l0] at H
   by_cases c2 : b5 < (l0.length : Int)
   case pos =>
    rw [if_pos c2] at H
    have ig : decide (b5 < (l0.length : Int)) = true := decide_eq_true c2
    clear c2
    by_cases c3 : 0 ≤ b5
    case neg =>
     rw [if_neg c3] at H
     exact absurd H (by simp)
    rw [if_pos c3] at H
    have eh : decide (0 ≤ b5) = true := decide_eq_true c3
    clear c3
    replace H := Option.bind_eq_some_iff.mp H
    obtain ⟨bQ, A40, H⟩ := H
    replace H : (if bQ = 0 then (ao.l0 k1 l0 (wrap64 (b5 + 1))) else (some (([] : List Int), bQ))) = some (r1, r2) := H
    have A4 := Aside0.mk A40
    clear A40
    by_cases c5 : bQ = 0
    case neg =>
     rw [if_neg c5] at H
     have gI : (bQ == 0) = false := beq_eq_false_iff_ne.mpr c5
     have jv : (bQ != 0) = true := bne_iff_ne.mpr c5
     simp only [Option.some.injEq, Prod.mk.injEq] at H
     obtain ⟨rfl, rfl⟩ := H
     have p496 : 0 ≤ (b5 : Int) := of_decide_eq_true p10z
     have q496 : b5 < (l0.length : Int) := of_decide_eq_true p10z
     obtain ⟨ad496, A496_3, c496_3, A496_4, c496_4, e496, hx496_0, hx496_1, hx496_2, hx496_3, hx496_4, hl496_3, hi496_3, hl496_4, hi496_4⟩ := at_T33 HR0.out b5 p496 q496
     cases e496
     replace hx496_0 := (HB.out.cell (World.block_lt_of_cell? w _ hx496_0)).trans hx496_0
     replace hx496_1 := (HB.out.cell (World.block_lt_of_cell? w _ hx496_1)).trans hx496_1
     replace hx496_2 := (HB.out.cell (World.block_lt_of_cell? w _ hx496_2)).trans hx496_2
     replace hx496_3 := (HB.out.cell (World.block_lt_of_cell? w _ hx496_3)).trans hx496_3
     replace hx496_4 := (HB.out.cell (World.block_lt_of_cell? w _ hx496_4)).trans hx496_4
     have ll := Aside0.mk hi496_3
     have k6 := Aside0.mk hl496_3
     clear hi496_3 hl496_3
     have lm := Aside0.mk hi496_4
     have k7 := Aside0.mk hl496_4
     clear hi496_4 hl496_4
     replace p496 := eq_true p496
     replace q496 := eq_true q496
     go_wp2_with (first | ((with_reducible refine gate_callee (f := 37) rfl ?_); refine goesL_ (some 18) rfl rfl Try.func37 p16z rfl #[.agg #[.int .i64 ((rd_T33 l0 b5).f0), .int .i64 ((rd_T33 l0 b5).f1), .int .u64 ((rd_T33 l0 b5).f2), .slice A496_3 ((rd_T33 l0 b5).f3).length c496_3, .slice A496_4 ((rd_T33 l0 b5).f4).length c496_4]] rfl p2z ?_; (with_reducible refine (ar.calls k1 ((rd_T33 l0 b5).f0) ((rd_T33 l0 b5).f1) ((rd_T33 l0 b5).f2) _ _ ((rd_T33 l0 b5).f3) _ _ ((rd_T33 l0 b5).f4) bQ _ ?side1 ?side2 ?side3 ?side4 A4.out).mono ?_); (case side1 => exact p225z); (case side2 => exact k6.out); (case side3 => exact p226z); (case side4 => exact k7.out); rintro e w7 ⟨rfl, hb⟩; refine ⟨_, rfl, ?_⟩; have n0_ := Aside0.mk (below_step p0z hb); clear HB; have HB := n0_; clear n0_; (try clear hb)))
     go_ret2
     exact ⟨_, p6z, p9z, p0z⟩
    rw [if_pos c5] at H
    have gI : (bQ == 0) = true := beq_iff_eq.mpr c5
    have jv : (bQ != 0) = false := bne_eq_false_iff_eq.mpr c5
    clear c5
    have H' := Aside0.mk H
    clear H
    have p496 : 0 ≤ (b5 : Int) := of_decide_eq_true p10z
    have q496 : b5 < (l0.length : Int) := of_decide_eq_true p10z
    obtain ⟨ad496, A496_3, c496_3, A496_4, c496_4, e496, hx496_0, hx496_1, hx496_2, hx496_3, hx496_4, hl496_3, hi496_3, hl496_4, hi496_4⟩ := at_T33 HR0.out b5 p496 q496
    cases e496
    replace hx496_0 := (HB.out.cell (World.block_lt_of_cell? w _ hx496_0)).trans hx496_0
    replace hx496_1 := (HB.out.cell (World.block_lt_of_cell? w _ hx496_1)).trans hx496_1
    replace hx496_2 := (HB.out.cell (World.block_lt_of_cell? w _ hx496_2)).trans hx496_2
    replace hx496_3 := (HB.out.cell (World.block_lt_of_cell? w _ hx496_3)).trans hx496_3
    replace hx496_4 := (HB.out.cell (World.block_lt_of_cell? w _ hx496_4)).trans hx496_4
    have ll := Aside0.mk hi496_3
    have k6 := Aside0.mk hl496_3
    clear hi496_3 hl496_3
    have lm := Aside0.mk hi496_4
    have k7 := Aside0.mk hl496_4
    clear hi496_4 hl496_4
    replace p496 := eq_true p496
    replace q496 := eq_true q496
    go_wp2_with (first | ((with_reducible refine gate_callee (f := 37) rfl ?_); refine goesL_ (some 18) rfl rfl Try.func37 p16z rfl #[.agg #[.int .i64 ((rd_T33 l0 b5).f0), .int .i64 ((rd_T33 l0 b5).f1), .int .u64 ((rd_T33 l0 b5).f2), .slice A496_3 ((rd_T33 l0 b5).f3).length c496_3, .slice A496_4 ((rd_T33 l0 b5).f4).length c496_4]] rfl p2z ?_; (with_reducible refine (ar.calls k1 ((rd_T33 l0 b5).f0) ((rd_T33 l0 b5).f1) ((rd_T33 l0 b5).f2) _ _ ((rd_T33 l0 b5).f3) _ _ ((rd_T33 l0 b5).f4) bQ _ ?side1 ?side2 ?side3 ?side4 A4.out).mono ?_); (case side1 => exact p225z); (case side2 => exact k6.out); (case side3 => exact p226z); (case side4 => exact k7.out); rintro e w6 ⟨rfl, hb⟩; refine ⟨_, rfl, ?_⟩; have n0_ := Aside0.mk (below_step p0z hb); clear HB; have HB := n0_; clear n0_; (try clear hb)))
    go_roundg k1
    case measure => have := HK1.out; omega
    case rel => exact ⟨(wrap64 (b5 + 1)), p21z, H', ⟨p217z⟩, ⟨p0z⟩⟩
   rw [if_neg c2] at H
   have ig : decide (b5 < (l0.length : Int)) = false := decide_eq_false c2
   clear c2
   have H' := Aside0.mk H
   clear H
   go_wp2
   go_loopg [4, 7] k1 (fun kq v4 v7 w' => ∃ (kR : List Int) (gq : Int), v7 = .int .i64 gq ∧ Aside0 (ao.l1 kq l0 kR gq = some (r1, r2)) ∧ Aside0 (kq ≤ k1) ∧ Aside0 (Kd.R (Kd.int .u8) 5 w' w.heap.size (fun _ => True) v4 kR) ∧ Aside0 (Below w.heap.size w w'))
   case atStart => exact ⟨(([] : List Int)), (0), p21z, H', ⟨Nat.le_refl _⟩, ⟨p9z⟩, ⟨p0z⟩⟩
   case round =>
    clear H'
    try clear ig
    obtain ⟨kR, gq, rfl, HA, HK2, fK, HB⟩ := hrel
    cases gk with
    | zero => exact absurd HA.out (by simp [ao.l1])
    | succ k2 =>
     have H := HA.out
     clear HA
     simp only [ao.l1] at H
     by_cases c8 : gq < (l0.length : Int)
     case neg =>
      rw [if_neg c8] at H
      have ij : decide (gq < (l0.length : Int)) = false := decide_eq_false c8
      clear c8
      simp only [Option.some.injEq, Prod.mk.injEq] at H
      obtain ⟨rfl, rfl⟩ := H
      go_wp2
      go_ret2
      exact ⟨_, p6z, p215z, p0z⟩
     rw [if_pos c8] at H
     have ij : decide (gq < (l0.length : Int)) = true := decide_eq_true c8
     clear c8
     by_cases c9 : 0 ≤ gq
     case neg =>
      rw [if_neg c9] at H
      exact absurd H (by simp)
     rw [if_pos c9] at H
     have mi : decide (0 ≤ gq) = true := decide_eq_true c9
     clear c9
     by_cases c10 : kR.length + ((rd_T33 l0 gq).f4).length < 140737488355328
     case neg =>
      rw [if_neg c10] at H
      exact absurd H (by simp)
     rw [if_pos c10] at H
     have LMc10 := Aside0.mk c10
     clear c10
     obtain ⟨y499, hy499⟩ : ∃ y_ : List Int, y_ = (kR ++ ((rd_T33 l0 gq).f4)) := ⟨_, rfl⟩
     replace H : (if (y499.length : Int) > 1048576 then (some (([] : List Int), 5)) else (ao.l1 k2 l0 y499 (wrap64 (gq + 1)))) = some (r1, r2) := by first | (rw [hy499]; with_reducible exact H) | (have H2_ := (Option.bind_some _ _).symm.trans H; rw [hy499]; with_reducible exact H2_) | (have H2_ := (Option.bind_some _ _).symm.trans H; with_reducible exact H2_) | with_reducible exact H | (rw [hy499]; exact H) | exact H
     have Ny499 := Aside0.mk hy499
     clear hy499
     by_cases c11 : (y499.length : Int) > 1048576
     case pos =>
      rw [if_pos c11] at H
      have iJ : decide (1048576 < (y499.length : Int)) = true := decide_eq_true c11
      have je : decide (1048576 < y499.length) = true := decide_eq_true (by omega)
      clear c11
      simp only [Option.some.injEq, Prod.mk.injEq] at H
      obtain ⟨rfl, rfl⟩ := H
      have p498 : 0 ≤ (gq : Int) := of_decide_eq_true p10z
      have q498 : gq < (l0.length : Int) := of_decide_eq_true p10z
      obtain ⟨ad498, A498_3, c498_3, A498_4, c498_4, e498, hx498_0, hx498_1, hx498_2, hx498_3, hx498_4, hl498_3, hi498_3, hl498_4, hi498_4⟩ := at_T33 HR0.out gq p498 q498
      cases e498
      replace hx498_0 := (HB.out.cell (World.block_lt_of_cell? w _ hx498_0)).trans hx498_0
      replace hx498_1 := (HB.out.cell (World.block_lt_of_cell? w _ hx498_1)).trans hx498_1
      replace hx498_2 := (HB.out.cell (World.block_lt_of_cell? w _ hx498_2)).trans hx498_2
      replace hx498_3 := (HB.out.cell (World.block_lt_of_cell? w _ hx498_3)).trans hx498_3
      replace hx498_4 := (HB.out.cell (World.block_lt_of_cell? w _ hx498_4)).trans hx498_4
      have HR498_3 := Aside0.mk hi498_3
      have HC498_3 := Aside0.mk hl498_3
      clear hi498_3 hl498_3
      have ln := Aside0.mk hi498_4
      have HC498_4 := Aside0.mk hl498_4
      clear hi498_4 hl498_4
      replace p498 := eq_true p498
      replace q498 := eq_true q498
      go_wp2_with (first | ((with_reducible refine gate_builtin (b := .append) (xs := #[.tmp 28, .tmp 33]) rfl ?_); at_builtin; refine Kd.R_append_rows (Kd.int .u8) (w0 := w) w.heap.size rfl (.tmp 28) (.tmp 33) 22 5 (.int .u8 0) 1 rfl Try.underlying22 info5 rfl (by decide) (by omega) u4 kR ((rd_T33 l0 gq).f4) _ _ _ (fun _ => True) (fun _ => False) rfl rfl ?aO ?aR (fun _ _ h => h) (fun _ h => h.elim) ?aF ?aB ?aS ?aL ?_; (case aR => exact p227z); (case aB => exact p0z); (case aF => exact (fun _ _ => trivial)); (case aO => exact p215z); (case aS => exact (below_size p0z)); (case aL => have := LMc10.out; omega); intro v500 w12 ho hb hg hat; rw [← Ny499.out] at ho; have z_ := asi2 (hb) (ho); clear HB fK; obtain ⟨HB, lp⟩ := z_; clear ho hb hg hat; obtain ⟨df, co13, eo13⟩ := Kd.R_slice lp.out; subst eo13))
      go_ret2
      exact ⟨_, p6z, p9z, p0z⟩
     rw [if_neg c11] at H
     have iJ : decide (1048576 < (y499.length : Int)) = false := decide_eq_false c11
     have je : decide (1048576 < y499.length) = false := decide_eq_false (by omega)
     clear c11
     have H' := Aside0.mk H
     clear H
     have p498 : 0 ≤ (gq : Int) := of_decide_eq_true p10z
     have q498 : gq < (l0.length : Int) := of_decide_eq_true p10z
     obtain ⟨ad498, A498_3, c498_3, A498_4, c498_4, e498, hx498_0, hx498_1, hx498_2, hx498_3, hx498_4, hl498_3, hi498_3, hl498_4, hi498_4⟩ := at_T33 HR0.out gq p498 q498
     cases e498
     replace hx498_0 := (HB.out.cell (World.block_lt_of_cell? w _ hx498_0)).trans hx498_0
     replace hx498_1 := (HB.out.cell (World.block_lt_of_cell? w _ hx498_1)).trans hx498_1
     replace hx498_2 := (HB.out.cell (World.block_lt_of_cell? w _ hx498_2)).trans hx498_2
     replace hx498_3 := (HB.out.cell (World.block_lt_of_cell? w _ hx498_3)).trans hx498_3
     replace hx498_4 := (HB.out.cell (World.block_lt_of_cell? w _ hx498_4)).trans hx498_4
     have HR498_3 := Aside0.mk hi498_3
     have HC498_3 := Aside0.mk hl498_3
     clear hi498_3 hl498_3
     have ln := Aside0.mk hi498_4
     have HC498_4 := Aside0.mk hl498_4
     clear hi498_4 hl498_4
     replace p498 := eq_true p498
     replace q498 := eq_true q498
     go_wp2_with (first | ((with_reducible refine gate_builtin (b := .append) (xs := #[.tmp 28, .tmp 33]) rfl ?_); at_builtin; refine Kd.R_append_rows (Kd.int .u8) (w0 := w) w.heap.size rfl (.tmp 28) (.tmp 33) 22 5 (.int .u8 0) 1 rfl Try.underlying22 info5 rfl (by decide) (by omega) u4 kR ((rd_T33 l0 gq).f4) _ _ _ (fun _ => True) (fun _ => False) rfl rfl ?aO ?aR (fun _ _ h => h) (fun _ h => h.elim) ?aF ?aB ?aS ?aL ?_; (case aR => exact p227z); (case aB => exact p0z); (case aF => exact (fun _ _ => trivial)); (case aO => exact p215z); (case aS => exact (below_size p0z)); (case aL => have := LMc10.out; omega); intro v500 w14 ho hb hg hat; rw [← Ny499.out] at ho; have z_ := asi2 (hb) (ho); clear HB fK; obtain ⟨HB, lp⟩ := z_; clear ho hb hg hat; obtain ⟨Ao15, co15, eo15⟩ := Kd.R_slice lp.out; subst eo15))
     go_roundg k2
     case measure => have := HK1.out; have := HK2.out; omega
     case rel => exact ⟨(y499), (wrap64 (gq + 1)), p21z, H', ⟨by have := HK1.out; have := HK2.out; omega⟩, ⟨q0z lp.out⟩, ⟨p0z⟩⟩
end Go.Proofs.Ytbclejgljegfmaa.PAll
