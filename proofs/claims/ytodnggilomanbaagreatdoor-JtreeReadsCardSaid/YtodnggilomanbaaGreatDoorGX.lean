-- Written by this repo's program wip/tools/pr.py (over the kit's print) out of the translation. Not trusted: Lean checks it.
import Derived.Test.YtodnggilomanbaaGreatDoorAp
import Derived.Test.YtodnggilomanbaaGreatDoorPX0
set_option maxHeartbeats 8000000
set_option maxRecDepth 100000
namespace Go.Proofs.YtodnggilomanbaaGreatDoor.PAll
open Go.Proofs.YtodnggilomanbaaGreatDoor.Hand
open Go.RowKit Go.Proofs.YtodnggilomanbaaGreatDoorW.PrintWords Go.Proofs.YtodnggilomanbaaGreatDoorW.PrintLast Go.Proofs.YtodnggilomanbaaGreatDoorW.PrintMore
attribute [local go_sem] max2_int min2_int max_two min_two max_three min_three max_four min_four   -- for this text's walks alone
set_option linter.unusedVariables false
set_option linter.unusedSimpArgs false
attribute [-simp] List.length_take List.length_drop ByteArray.size_extract

/-! ### jtree_Check: function 18 -/
def jtree_Check.f (k : Nat) (a0_0 : Int) (a0_1 : ByteArray) (ac : List ByteArray) (ab : List (S28)) : Option (Int) := (jtree_Count.f k a0_0 a0_1 ac ab).bind fun dM => (if dM > 4000 then (some 2) else ((jtree_may.f k a0_0 a0_1 ac ab 1).bind fun t107 => (if t107 = true then (some 0) else (some 2))))
theorem jtree_Check.mono : ∀ a0 a1 a2 a3 k, LeO (jtree_Check.f k a0 a1 a2 a3) (jtree_Check.f (k + 1) a0 a1 a2 a3) := by
  intro a0 a1 a2 a3 k
  unfold jtree_Check.f
  have m0 := @jtree_Count.mono
  have m1 := @jtree_may.mono
  exact moz
theorem jtree_Check.calls (k : Nat) (a0_0 : Int) (a0_1 : ByteArray) (A0_2 : Option Addr) (c0_2 : Nat) (ac : List ByteArray) (A0_3 : Option Addr) (c0_3 : Nat) (ab : List (S28)) (r : Int) (w : World) (hr0_2 : Kd.C Kd.string w A0_2 ac.length ac) (hc0_2 : ac.length ≤ c0_2) (hr0_3 : Kd.C k28 w A0_3 ab.length ab) (hc0_3 : ab.length ≤ c0_3) (h : jtree_Check.f k a0_0 a0_1 ac ab = some r) (HTB_ : Tabs w) :
 Calls Tryz.prog 18 #[.agg #[.int .i64 a0_0, .string a0_1, .slice A0_2 ac.length c0_2, .slice A0_3 ab.length c0_3]] w fun e w' => e = .returned (.int .i64 r) ∧ Below w.heap.size w w' := by
 have hu28 := Tryz.underlying28
 have eX := Aside0.mk hr0_2
 have cP := Aside0.mk hc0_2
 clear hr0_2 hc0_2
 have dU := Aside0.mk hr0_3
 have cX := Aside0.mk hc0_3
 clear hr0_3 hc0_3
 have HB := Aside0.mk (Below.refl w.heap.size w)
 have H : ((jtree_Count.f k a0_0 a0_1 ac ab).bind fun dM => (if dM > 4000 then (some 2) else ((jtree_may.f k a0_0 a0_1 ac ab 1).bind fun t107 => (if t107 = true then (some 0) else (some 2))))) = some r := h
 clear h
 replace H := Option.bind_eq_some_iff.mp H
 obtain ⟨dM, A20, H⟩ := H
 replace H : (if dM > 4000 then (some 2) else ((jtree_may.f k a0_0 a0_1 ac ab 1).bind fun t107 => (if t107 = true then (some 0) else (some 2)))) = some r := H
 have A2 := Aside0.mk A20
 clear A20
 by_cases c3 : dM > 4000
 case pos =>
  rw [if_pos c3] at H
  have bQ : decide (4000 < dM) = true := decide_eq_true c3
  clear c3
  obtain rfl := Option.some.inj H
  go_enter Tryz.func18, Tryz.ntmps18
  go_wp2_with (first | ((with_reducible refine gate_dst (N := 1) rfl ?_); refine box_event ?hg (N := 1) ?hd (cs := #[.int .i64 a0_0, .string a0_1, .slice A0_2 ac.length c0_2, .slice A0_3 ab.length c0_3]) (t := 28) ?hr ?_; (case hd => rfl); (case hg => rfl); (case hr => exact p12z); intro bi hg w4 hbox hb; have z_ := asi4 (below_step p0z hb) (hbox) ((p41z : w.heap.size ≤ bi)) ((p41z : w.heap.size ≤ bi)); clear HB; obtain ⟨HB, av, GW105, fG⟩ := z_; clear hb hbox hg; have hcz5_0 : w4.cell? ⟨bi, 0, none⟩ = some (.int .i64 a0_0) := (blk_cell av.out 0).trans rfl; have hcz5_1 : w4.cell? ⟨bi, 1, none⟩ = some (.string a0_1) := (blk_cell av.out 1).trans rfl; have hcz5_2 : w4.cell? ⟨bi, 2, none⟩ = some (.slice A0_2 ac.length c0_2) := (blk_cell av.out 2).trans rfl; have hcz5_3 : w4.cell? ⟨bi, 3, none⟩ = some (.slice A0_3 ab.length c0_3) := (blk_cell av.out 3).trans rfl; have hfz5_0 := blk_frozen av.out 0; have hfz5_1 := blk_frozen av.out 1; have hfz5_2 := blk_frozen av.out 2; have hfz5_3 := blk_frozen av.out 3) | ((with_reducible refine gate_callee (f := 22) rfl ?_); refine goesL_ (some 4) rfl rfl Tryz.func22 p8z rfl #[.agg #[.int .i64 a0_0, .string a0_1, .slice A0_2 ac.length c0_2, .slice A0_3 ab.length c0_3]] rfl p5z ?_; (with_reducible refine (jtree_Count.calls k a0_0 a0_1 _ _ ac _ _ ab dM _ ?side1 ?side2 ?side3 ?side4 A2.out).mono ?_); (case side1 => exact p16z); (case side2 => exact cP.out); (case side3 => exact p18z); (case side4 => exact cX.out); rintro e w6 ⟨rfl, hb⟩; refine ⟨_, rfl, ?_⟩; have z_ := asi2 (blk_below (g := bi) (o := .cells #[.int .i64 a0_0, .string a0_1, .slice A0_2 ac.length c0_2, .slice A0_3 ab.length c0_3] 28 (0, 0)) p50z hb) (below_step p14z hb); clear av HB; obtain ⟨av, HB⟩ := z_; (try clear hb)))
  go_ret
  exact ⟨p6z, p14z⟩
 rw [if_neg c3] at H
 have bQ : decide (4000 < dM) = false := decide_eq_false c3
 clear c3
 replace H := Option.bind_eq_some_iff.mp H
 obtain ⟨t107, A70, H⟩ := H
 replace H : (if t107 = true then (some 0) else (some 2)) = some r := H
 have A7 := Aside0.mk A70
 clear A70
 by_cases c8 : t107 = true
 case pos =>
  subst c8
  have H1 : (some 0) = some r := p53z
  clear H
  have H := H1
  clear H1
  obtain rfl := Option.some.inj H
  go_enter Tryz.func18, Tryz.ntmps18
  go_wp2_with (first | ((with_reducible refine gate_dst (N := 1) rfl ?_); refine box_event ?hg (N := 1) ?hd (cs := #[.int .i64 a0_0, .string a0_1, .slice A0_2 ac.length c0_2, .slice A0_3 ab.length c0_3]) (t := 28) ?hr ?_; (case hd => rfl); (case hg => rfl); (case hr => exact p12z); intro bi hg w9 hbox hb; have z_ := asi4 (below_step p0z hb) (hbox) ((p41z : w.heap.size ≤ bi)) ((p41z : w.heap.size ≤ bi)); clear HB; obtain ⟨HB, av, GW105, fG⟩ := z_; clear hb hbox hg; have hcz10_0 : w9.cell? ⟨bi, 0, none⟩ = some (.int .i64 a0_0) := (blk_cell av.out 0).trans rfl; have hcz10_1 : w9.cell? ⟨bi, 1, none⟩ = some (.string a0_1) := (blk_cell av.out 1).trans rfl; have hcz10_2 : w9.cell? ⟨bi, 2, none⟩ = some (.slice A0_2 ac.length c0_2) := (blk_cell av.out 2).trans rfl; have hcz10_3 : w9.cell? ⟨bi, 3, none⟩ = some (.slice A0_3 ab.length c0_3) := (blk_cell av.out 3).trans rfl; have hfz10_0 := blk_frozen av.out 0; have hfz10_1 := blk_frozen av.out 1; have hfz10_2 := blk_frozen av.out 2; have hfz10_3 := blk_frozen av.out 3) | ((with_reducible refine gate_callee (f := 22) rfl ?_); refine goesL_ (some 4) rfl rfl Tryz.func22 p8z rfl #[.agg #[.int .i64 a0_0, .string a0_1, .slice A0_2 ac.length c0_2, .slice A0_3 ab.length c0_3]] rfl p5z ?_; (with_reducible refine (jtree_Count.calls k a0_0 a0_1 _ _ ac _ _ ab dM _ ?side1 ?side2 ?side3 ?side4 A2.out).mono ?_); (case side1 => exact p16z); (case side2 => exact cP.out); (case side3 => exact p18z); (case side4 => exact cX.out); rintro e w11 ⟨rfl, hb⟩; refine ⟨_, rfl, ?_⟩; have z_ := asi2 (blk_below (g := bi) (o := .cells #[.int .i64 a0_0, .string a0_1, .slice A0_2 ac.length c0_2, .slice A0_3 ab.length c0_3] 28 (0, 0)) p50z hb) (below_step p14z hb); clear av HB; obtain ⟨av, HB⟩ := z_; (try clear hb); have hcz12_0 : w11.cell? ⟨bi, 0, none⟩ = some (.int .i64 a0_0) := (blk_cell av.out 0).trans rfl; have hcz12_1 : w11.cell? ⟨bi, 1, none⟩ = some (.string a0_1) := (blk_cell av.out 1).trans rfl; have hcz12_2 : w11.cell? ⟨bi, 2, none⟩ = some (.slice A0_2 ac.length c0_2) := (blk_cell av.out 2).trans rfl; have hcz12_3 : w11.cell? ⟨bi, 3, none⟩ = some (.slice A0_3 ab.length c0_3) := (blk_cell av.out 3).trans rfl; have hfz12_0 := blk_frozen av.out 0; have hfz12_1 := blk_frozen av.out 1; have hfz12_2 := blk_frozen av.out 2; have hfz12_3 := blk_frozen av.out 3) | (go_at_call 45; (with_reducible refine (jtree_may.calls k a0_0 a0_1 _ _ ac _ _ ab 1 true _ ?side1 ?side2 ?side3 ?side4 A7.out (HTB_.below p14z)).mono ?_); (case side1 => exact p16z); (case side2 => exact cP.out); (case side3 => exact p18z); (case side4 => exact cX.out); rintro e w13 ⟨rfl, hb⟩; have z_ := asi2 (blk_below (g := bi) (o := .cells #[.int .i64 a0_0, .string a0_1, .slice A0_2 ac.length c0_2, .slice A0_3 ab.length c0_3] 28 (0, 0)) p50z hb) (below_step p14z hb); clear av HB; obtain ⟨av, HB⟩ := z_; (try clear hb)))
  go_ret
  exact ⟨p6z, p14z⟩
 replace c8 := Bool.eq_false_iff.mpr c8
 subst c8
 have H1 : (some 2) = some r := p27z
 clear H
 have H := H1
 clear H1
 obtain rfl := Option.some.inj H
 go_enter Tryz.func18, Tryz.ntmps18
 go_wp2_with (first | ((with_reducible refine gate_dst (N := 1) rfl ?_); refine box_event ?hg (N := 1) ?hd (cs := #[.int .i64 a0_0, .string a0_1, .slice A0_2 ac.length c0_2, .slice A0_3 ab.length c0_3]) (t := 28) ?hr ?_; (case hd => rfl); (case hg => rfl); (case hr => exact p12z); intro bi hg w14 hbox hb; have z_ := asi4 (below_step p0z hb) (hbox) ((p41z : w.heap.size ≤ bi)) ((p41z : w.heap.size ≤ bi)); clear HB; obtain ⟨HB, av, GW105, fG⟩ := z_; clear hb hbox hg; have hcz15_0 : w14.cell? ⟨bi, 0, none⟩ = some (.int .i64 a0_0) := (blk_cell av.out 0).trans rfl; have hcz15_1 : w14.cell? ⟨bi, 1, none⟩ = some (.string a0_1) := (blk_cell av.out 1).trans rfl; have hcz15_2 : w14.cell? ⟨bi, 2, none⟩ = some (.slice A0_2 ac.length c0_2) := (blk_cell av.out 2).trans rfl; have hcz15_3 : w14.cell? ⟨bi, 3, none⟩ = some (.slice A0_3 ab.length c0_3) := (blk_cell av.out 3).trans rfl; have hfz15_0 := blk_frozen av.out 0; have hfz15_1 := blk_frozen av.out 1; have hfz15_2 := blk_frozen av.out 2; have hfz15_3 := blk_frozen av.out 3) | ((with_reducible refine gate_callee (f := 22) rfl ?_); refine goesL_ (some 4) rfl rfl Tryz.func22 p8z rfl #[.agg #[.int .i64 a0_0, .string a0_1, .slice A0_2 ac.length c0_2, .slice A0_3 ab.length c0_3]] rfl p5z ?_; (with_reducible refine (jtree_Count.calls k a0_0 a0_1 _ _ ac _ _ ab dM _ ?side1 ?side2 ?side3 ?side4 A2.out).mono ?_); (case side1 => exact p16z); (case side2 => exact cP.out); (case side3 => exact p18z); (case side4 => exact cX.out); rintro e w16 ⟨rfl, hb⟩; refine ⟨_, rfl, ?_⟩; have z_ := asi2 (blk_below (g := bi) (o := .cells #[.int .i64 a0_0, .string a0_1, .slice A0_2 ac.length c0_2, .slice A0_3 ab.length c0_3] 28 (0, 0)) p50z hb) (below_step p14z hb); clear av HB; obtain ⟨av, HB⟩ := z_; (try clear hb); have hcz17_0 : w16.cell? ⟨bi, 0, none⟩ = some (.int .i64 a0_0) := (blk_cell av.out 0).trans rfl; have hcz17_1 : w16.cell? ⟨bi, 1, none⟩ = some (.string a0_1) := (blk_cell av.out 1).trans rfl; have hcz17_2 : w16.cell? ⟨bi, 2, none⟩ = some (.slice A0_2 ac.length c0_2) := (blk_cell av.out 2).trans rfl; have hcz17_3 : w16.cell? ⟨bi, 3, none⟩ = some (.slice A0_3 ab.length c0_3) := (blk_cell av.out 3).trans rfl; have hfz17_0 := blk_frozen av.out 0; have hfz17_1 := blk_frozen av.out 1; have hfz17_2 := blk_frozen av.out 2; have hfz17_3 := blk_frozen av.out 3) | (go_at_call 45; (with_reducible refine (jtree_may.calls k a0_0 a0_1 _ _ ac _ _ ab 1 false _ ?side1 ?side2 ?side3 ?side4 A7.out (HTB_.below p14z)).mono ?_); (case side1 => exact p16z); (case side2 => exact cP.out); (case side3 => exact p18z); (case side4 => exact cX.out); rintro e w18 ⟨rfl, hb⟩; have z_ := asi2 (blk_below (g := bi) (o := .cells #[.int .i64 a0_0, .string a0_1, .slice A0_2 ac.length c0_2, .slice A0_3 ab.length c0_3] 28 (0, 0)) p50z hb) (below_step p14z hb); clear av HB; obtain ⟨av, HB⟩ := z_; (try clear hb)))
 go_ret
 exact ⟨p6z, p14z⟩

/-! ### jtree_Text: function 13 -/
def jtree_Text.f (k : Nat) (a0_0 : Int) (a0_1 : ByteArray) (ac : List ByteArray) (ab : List (S28)) : Option (ByteArray × Int) := (jtree_Check.f k a0_0 a0_1 ac ab).bind fun cA => (if cA = 0 then ((jtree_written.f k a0_0 a0_1 ac ab).bind fun eG => (some (eG, 0))) else (some ((⟨#[]⟩ : ByteArray), cA)))
theorem jtree_Text.mono : ∀ a0 a1 a2 a3 k, LeO (jtree_Text.f k a0 a1 a2 a3) (jtree_Text.f (k + 1) a0 a1 a2 a3) := by
  intro a0 a1 a2 a3 k
  unfold jtree_Text.f
  have m0 := @jtree_Check.mono
  have m1 := @jtree_written.mono
  exact moz
theorem jtree_Text.calls (k : Nat) (a0_0 : Int) (a0_1 : ByteArray) (A0_2 : Option Addr) (c0_2 : Nat) (ac : List ByteArray) (A0_3 : Option Addr) (c0_3 : Nat) (ab : List (S28)) (r1 : ByteArray) (r2 : Int) (w : World) (hr0_2 : Kd.C Kd.string w A0_2 ac.length ac) (hc0_2 : ac.length ≤ c0_2) (hr0_3 : Kd.C k28 w A0_3 ab.length ab) (hc0_3 : ab.length ≤ c0_3) (h : jtree_Text.f k a0_0 a0_1 ac ab = some (r1, r2)) (HTB_ : Tabs w) :
 Calls Tryz.prog 13 #[.agg #[.int .i64 a0_0, .string a0_1, .slice A0_2 ac.length c0_2, .slice A0_3 ab.length c0_3]] w fun e w' => e = .returned (.tuple #[.string r1, .int .i64 r2]) ∧ Below w.heap.size w w' := by
 have hu28 := Tryz.underlying28
 have eX := Aside0.mk hr0_2
 have cP := Aside0.mk hc0_2
 clear hr0_2 hc0_2
 have dU := Aside0.mk hr0_3
 have cX := Aside0.mk hc0_3
 clear hr0_3 hc0_3
 have HB := Aside0.mk (Below.refl w.heap.size w)
 have H : ((jtree_Check.f k a0_0 a0_1 ac ab).bind fun cA => (if cA = 0 then ((jtree_written.f k a0_0 a0_1 ac ab).bind fun eG => (some (eG, 0))) else (some ((⟨#[]⟩ : ByteArray), cA)))) = some (r1, r2) := h
 clear h
 replace H := Option.bind_eq_some_iff.mp H
 obtain ⟨cA, A20, H⟩ := H
 replace H : (if cA = 0 then ((jtree_written.f k a0_0 a0_1 ac ab).bind fun eG => (some (eG, 0))) else (some ((⟨#[]⟩ : ByteArray), cA))) = some (r1, r2) := H
 have A2 := Aside0.mk A20
 clear A20
 by_cases c3 : cA = 0
 case neg =>
  rw [if_neg c3] at H
  have bQ : (cA == 0) = false := beq_eq_false_iff_ne.mpr c3
  have cW : (cA != 0) = true := bne_iff_ne.mpr c3
  simp only [Option.some.injEq, Prod.mk.injEq] at H
  obtain ⟨rfl, rfl⟩ := H
  go_enter Tryz.func13, Tryz.ntmps13
  go_wp2_with (first | ((with_reducible refine gate_dst (N := 1) rfl ?_); refine box_event ?hg (N := 1) ?hd (cs := #[.int .i64 a0_0, .string a0_1, .slice A0_2 ac.length c0_2, .slice A0_3 ab.length c0_3]) (t := 28) ?hr ?_; (case hd => rfl); (case hg => rfl); (case hr => exact p12z); intro cf hg w10 hbox hb; have z_ := asi4 (below_step p0z hb) (hbox) ((p41z : w.heap.size ≤ cf)) ((p41z : w.heap.size ≤ cf)); clear HB; obtain ⟨HB, bj, GW108, GE108⟩ := z_; clear hb hbox hg; have hcz11_0 : w10.cell? ⟨cf, 0, none⟩ = some (.int .i64 a0_0) := (blk_cell bj.out 0).trans rfl; have hcz11_1 : w10.cell? ⟨cf, 1, none⟩ = some (.string a0_1) := (blk_cell bj.out 1).trans rfl; have hcz11_2 : w10.cell? ⟨cf, 2, none⟩ = some (.slice A0_2 ac.length c0_2) := (blk_cell bj.out 2).trans rfl; have hcz11_3 : w10.cell? ⟨cf, 3, none⟩ = some (.slice A0_3 ab.length c0_3) := (blk_cell bj.out 3).trans rfl; have hfz11_0 := blk_frozen bj.out 0; have hfz11_1 := blk_frozen bj.out 1; have hfz11_2 := blk_frozen bj.out 2; have hfz11_3 := blk_frozen bj.out 3) | ((with_reducible refine gate_callee (f := 18) rfl ?_); refine goesL_ (some 6) rfl rfl Tryz.func18 p8z rfl #[.agg #[.int .i64 a0_0, .string a0_1, .slice A0_2 ac.length c0_2, .slice A0_3 ab.length c0_3]] rfl p5z ?_; (with_reducible refine (jtree_Check.calls k a0_0 a0_1 _ _ ac _ _ ab cA _ ?side1 ?side2 ?side3 ?side4 A2.out (HTB_.below p23z)).mono ?_); (case side1 => exact p16z); (case side2 => exact cP.out); (case side3 => exact p18z); (case side4 => exact cX.out); rintro e w12 ⟨rfl, hb⟩; refine ⟨_, rfl, ?_⟩; have z_ := asi2 (blk_below (g := cf) (o := .cells #[.int .i64 a0_0, .string a0_1, .slice A0_2 ac.length c0_2, .slice A0_3 ab.length c0_3] 28 (0, 0)) p69z hb) (below_step p23z hb); clear bj HB; obtain ⟨bj, HB⟩ := z_; (try clear hb)))
  go_ret2
  exact ⟨p6z, p23z⟩
 rw [if_pos c3] at H
 have bQ : (cA == 0) = true := beq_iff_eq.mpr c3
 have cW : (cA != 0) = false := bne_eq_false_iff_eq.mpr c3
 clear c3
 replace H := Option.bind_eq_some_iff.mp H
 obtain ⟨eG, A40, H⟩ := H
 replace H : (some (eG, 0)) = some (r1, r2) := H
 have A4 := Aside0.mk A40
 clear A40
 simp only [Option.some.injEq, Prod.mk.injEq] at H
 obtain ⟨rfl, rfl⟩ := H
 go_enter Tryz.func13, Tryz.ntmps13
 go_wp2_with (first | ((with_reducible refine gate_dst (N := 1) rfl ?_); refine box_event ?hg (N := 1) ?hd (cs := #[.int .i64 a0_0, .string a0_1, .slice A0_2 ac.length c0_2, .slice A0_3 ab.length c0_3]) (t := 28) ?hr ?_; (case hd => rfl); (case hg => rfl); (case hr => exact p12z); intro cf hg w5 hbox hb; have z_ := asi4 (below_step p0z hb) (hbox) ((p41z : w.heap.size ≤ cf)) ((p41z : w.heap.size ≤ cf)); clear HB; obtain ⟨HB, bj, GW108, GE108⟩ := z_; clear hb hbox hg; have hcz6_0 : w5.cell? ⟨cf, 0, none⟩ = some (.int .i64 a0_0) := (blk_cell bj.out 0).trans rfl; have hcz6_1 : w5.cell? ⟨cf, 1, none⟩ = some (.string a0_1) := (blk_cell bj.out 1).trans rfl; have hcz6_2 : w5.cell? ⟨cf, 2, none⟩ = some (.slice A0_2 ac.length c0_2) := (blk_cell bj.out 2).trans rfl; have hcz6_3 : w5.cell? ⟨cf, 3, none⟩ = some (.slice A0_3 ab.length c0_3) := (blk_cell bj.out 3).trans rfl; have hfz6_0 := blk_frozen bj.out 0; have hfz6_1 := blk_frozen bj.out 1; have hfz6_2 := blk_frozen bj.out 2; have hfz6_3 := blk_frozen bj.out 3) | ((with_reducible refine gate_callee (f := 18) rfl ?_); refine goesL_ (some 6) rfl rfl Tryz.func18 p8z rfl #[.agg #[.int .i64 a0_0, .string a0_1, .slice A0_2 ac.length c0_2, .slice A0_3 ab.length c0_3]] rfl p5z ?_; (with_reducible refine (jtree_Check.calls k a0_0 a0_1 _ _ ac _ _ ab cA _ ?side1 ?side2 ?side3 ?side4 A2.out (HTB_.below p23z)).mono ?_); (case side1 => exact p16z); (case side2 => exact cP.out); (case side3 => exact p18z); (case side4 => exact cX.out); rintro e w7 ⟨rfl, hb⟩; refine ⟨_, rfl, ?_⟩; have z_ := asi2 (blk_below (g := cf) (o := .cells #[.int .i64 a0_0, .string a0_1, .slice A0_2 ac.length c0_2, .slice A0_3 ab.length c0_3] 28 (0, 0)) p69z hb) (below_step p23z hb); clear bj HB; obtain ⟨bj, HB⟩ := z_; (try clear hb); have hcz8_0 : w7.cell? ⟨cf, 0, none⟩ = some (.int .i64 a0_0) := (blk_cell bj.out 0).trans rfl; have hcz8_1 : w7.cell? ⟨cf, 1, none⟩ = some (.string a0_1) := (blk_cell bj.out 1).trans rfl; have hcz8_2 : w7.cell? ⟨cf, 2, none⟩ = some (.slice A0_2 ac.length c0_2) := (blk_cell bj.out 2).trans rfl; have hcz8_3 : w7.cell? ⟨cf, 3, none⟩ = some (.slice A0_3 ab.length c0_3) := (blk_cell bj.out 3).trans rfl; have hfz8_0 := blk_frozen bj.out 0; have hfz8_1 := blk_frozen bj.out 1; have hfz8_2 := blk_frozen bj.out 2; have hfz8_3 := blk_frozen bj.out 3) | ((with_reducible refine gate_callee (f := 40) rfl ?_); refine goesL_ (some 11) rfl rfl Tryz.func40 p8z rfl #[.agg #[.int .i64 a0_0, .string a0_1, .slice A0_2 ac.length c0_2, .slice A0_3 ab.length c0_3]] rfl p5z ?_; (with_reducible refine (jtree_written.calls k a0_0 a0_1 _ _ ac _ _ ab eG _ ?side1 ?side2 ?side3 ?side4 A4.out).mono ?_); (case side1 => exact p16z); (case side2 => exact cP.out); (case side3 => exact p18z); (case side4 => exact cX.out); rintro e w9 ⟨rfl, hb⟩; refine ⟨_, rfl, ?_⟩; have z_ := asi2 (blk_below (g := cf) (o := .cells #[.int .i64 a0_0, .string a0_1, .slice A0_2 ac.length c0_2, .slice A0_3 ab.length c0_3] 28 (0, 0)) p69z hb) (below_step p23z hb); clear bj HB; obtain ⟨bj, HB⟩ := z_; (try clear hb)))
 go_ret2
 exact ⟨p6z, p23z⟩
end Go.Proofs.YtodnggilomanbaaGreatDoor.PAll
