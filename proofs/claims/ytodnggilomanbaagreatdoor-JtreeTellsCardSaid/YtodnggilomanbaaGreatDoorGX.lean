-- Written by this repo's program wip/tools/pr.py (over the kit's print) out of the translation. Not trusted: Lean checks it.
import Derived.Test.YtodnggilomanbaaGreatDoorAp
import Derived.Test.YtodnggilomanbaaGreatDoorHandStep
import Derived.Test.YtodnggilomanbaaGreatDoorPX0
set_option maxHeartbeats 8000000
set_option maxRecDepth 100000
namespace Go.Proofs.YtodnggilomanbaaGreatDoor.PAll
open Go.Proofs.YtodnggilomanbaaGreatDoor.Hand
open Go.RowKit Go.Proofs.YtodnggilomanbaaGreatDoorW.PrintWords Go.Proofs.YtodnggilomanbaaGreatDoorW.PrintLast Go.Proofs.YtodnggilomanbaaGreatDoorW.PrintMore
attribute [local go_sem] max2_int min2_int max_two min_two max_three min_three max_four min_four   -- for this text's walks alone
set_option linter.unusedVariables false
set_option linter.unusedSimpArgs false
attribute [-simp] List.length_take List.length_drop ByteArray.size_extract

/-! ### bY: function 18 -/
def bY.f (k : Nat) (a0_0 : Int) (a0_1 : ByteArray) (ab : List ByteArray) (aa : List (S28)) : Option (Int) := (aI.f k a0_0 a0_1 ab aa).bind fun fi => (if fi > 4000 then (some 2) else ((jtree_may.f k a0_0 a0_1 ab aa 1).bind fun t107 => (if t107 = true then (some 0) else (some 2))))
theorem bY.calls (k : Nat) (a0_0 : Int) (a0_1 : ByteArray) (A0_2 : Option Addr) (c0_2 : Nat) (ab : List ByteArray) (A0_3 : Option Addr) (c0_3 : Nat) (aa : List (S28)) (r : Int) (w : World) (hr0_2 : Kd.C Kd.string w A0_2 ab.length ab) (hc0_2 : ab.length ≤ c0_2) (hr0_3 : Kd.C k28 w A0_3 aa.length aa) (hc0_3 : aa.length ≤ c0_3) (h : bY.f k a0_0 a0_1 ab aa = some r) (HTB_ : Tabs w) :
 Calls Tryz.prog 18 #[.agg #[.int .i64 a0_0, .string a0_1, .slice A0_2 ab.length c0_2, .slice A0_3 aa.length c0_3]] w fun e w' => e = .returned (.int .i64 r) ∧ Below w.heap.size w w' := by
 have hu28 := Tryz.underlying28
 have cU := Aside0.mk hr0_2
 have bZ := Aside0.mk hc0_2
 clear hr0_2 hc0_2
 have cP := Aside0.mk hr0_3
 have cn := Aside0.mk hc0_3
 clear hr0_3 hc0_3
 have HB := Aside0.mk (Below.refl w.heap.size w)
 have H : ((aI.f k a0_0 a0_1 ab aa).bind fun fi => (if fi > 4000 then (some 2) else ((jtree_may.f k a0_0 a0_1 ab aa 1).bind fun t107 => (if t107 = true then (some 0) else (some 2))))) = some r := h
 clear h
 replace H := Option.bind_eq_some_iff.mp H
 obtain ⟨fi, A20, H⟩ := H
 replace H : (if fi > 4000 then (some 2) else ((jtree_may.f k a0_0 a0_1 ab aa 1).bind fun t107 => (if t107 = true then (some 0) else (some 2)))) = some r := H
 have A2 := Aside0.mk A20
 clear A20
 by_cases c3 : fi > 4000
 case pos =>
  rw [if_pos c3] at H
  have cW : decide (4000 < fi) = true := decide_eq_true c3
  clear c3
  obtain rfl := Option.some.inj H
  go_enter Tryz.func18, Tryz.ntmps18
  go_wp2_with (first | ((with_reducible refine gate_dst (N := 1) rfl ?_); refine box_event ?hg (N := 1) ?hd (cs := #[.int .i64 a0_0, .string a0_1, .slice A0_2 ab.length c0_2, .slice A0_3 aa.length c0_3]) (t := 28) ?hr ?_; (case hd => rfl); (case hg => rfl); (case hr => exact p9z); intro dC hg w4 hbox hb; have z_ := asi4 (below_step p0z hb) (hbox) ((p21z : w.heap.size ≤ dC)) ((p21z : w.heap.size ≤ dC)); clear HB; obtain ⟨HB, d5, GW105, jL⟩ := z_; clear hb hbox hg; obtain ⟨hcz5_0, hcz5_1, hcz5_2, hcz5_3, hfz5_0, hfz5_1, hfz5_2, hfz5_3⟩ := cells4 d5.out) | ((with_reducible refine gate_callee (f := 22) rfl ?_); refine goesL_ (some 4) rfl rfl Tryz.func22 p12z rfl #[.agg #[.int .i64 a0_0, .string a0_1, .slice A0_2 ab.length c0_2, .slice A0_3 aa.length c0_3]] rfl p3z ?_; (with_reducible refine (aI.calls k a0_0 a0_1 _ _ ab _ _ aa fi _ ?side1 ?side2 ?side3 ?side4 A2.out).mono ?_); (case side1 => exact p8z); (case side2 => exact bZ.out); (case side3 => exact p13z); (case side4 => exact cn.out); rintro e w6 ⟨rfl, hb⟩; refine ⟨_, rfl, ?_⟩; have z_ := asi2 (blk_below (g := dC) (o := .cells #[.int .i64 a0_0, .string a0_1, .slice A0_2 ab.length c0_2, .slice A0_3 aa.length c0_3] 28 (0, 0)) p71z hb) (below_step p26z hb); clear d5 HB; obtain ⟨d5, HB⟩ := z_; (try clear hb)))
  go_ret
  exact ⟨p7z, p26z⟩
 rw [if_neg c3] at H
 have cW : decide (4000 < fi) = false := decide_eq_false c3
 clear c3
 replace H := Option.bind_eq_some_iff.mp H
 obtain ⟨t107, A70, H⟩ := H
 replace H : (if t107 = true then (some 0) else (some 2)) = some r := H
 have A7 := Aside0.mk A70
 clear A70
 by_cases c8 : t107 = true
 case pos =>
  subst c8
  have H1 : (some 0) = some r := p72z
  clear H
  have H := H1
  clear H1
  obtain rfl := Option.some.inj H
  go_enter Tryz.func18, Tryz.ntmps18
  go_wp2_with (first | ((with_reducible refine gate_dst (N := 1) rfl ?_); refine box_event ?hg (N := 1) ?hd (cs := #[.int .i64 a0_0, .string a0_1, .slice A0_2 ab.length c0_2, .slice A0_3 aa.length c0_3]) (t := 28) ?hr ?_; (case hd => rfl); (case hg => rfl); (case hr => exact p9z); intro dC hg w9 hbox hb; have z_ := asi4 (below_step p0z hb) (hbox) ((p21z : w.heap.size ≤ dC)) ((p21z : w.heap.size ≤ dC)); clear HB; obtain ⟨HB, d5, GW105, jL⟩ := z_; clear hb hbox hg; obtain ⟨hcz10_0, hcz10_1, hcz10_2, hcz10_3, hfz10_0, hfz10_1, hfz10_2, hfz10_3⟩ := cells4 d5.out) | ((with_reducible refine gate_callee (f := 22) rfl ?_); refine goesL_ (some 4) rfl rfl Tryz.func22 p12z rfl #[.agg #[.int .i64 a0_0, .string a0_1, .slice A0_2 ab.length c0_2, .slice A0_3 aa.length c0_3]] rfl p3z ?_; (with_reducible refine (aI.calls k a0_0 a0_1 _ _ ab _ _ aa fi _ ?side1 ?side2 ?side3 ?side4 A2.out).mono ?_); (case side1 => exact p8z); (case side2 => exact bZ.out); (case side3 => exact p13z); (case side4 => exact cn.out); rintro e w11 ⟨rfl, hb⟩; refine ⟨_, rfl, ?_⟩; have z_ := asi2 (blk_below (g := dC) (o := .cells #[.int .i64 a0_0, .string a0_1, .slice A0_2 ab.length c0_2, .slice A0_3 aa.length c0_3] 28 (0, 0)) p71z hb) (below_step p26z hb); clear d5 HB; obtain ⟨d5, HB⟩ := z_; (try clear hb); obtain ⟨hcz12_0, hcz12_1, hcz12_2, hcz12_3, hfz12_0, hfz12_1, hfz12_2, hfz12_3⟩ := cells4 d5.out) | (go_at_call 45; (with_reducible refine (jtree_may.calls k a0_0 a0_1 _ _ ab _ _ aa 1 true _ ?side1 ?side2 ?side3 ?side4 A7.out (HTB_.below p26z)).mono ?_); (case side1 => exact p8z); (case side2 => exact bZ.out); (case side3 => exact p13z); (case side4 => exact cn.out); rintro e w13 ⟨rfl, hb⟩; have z_ := asi2 (blk_below (g := dC) (o := .cells #[.int .i64 a0_0, .string a0_1, .slice A0_2 ab.length c0_2, .slice A0_3 aa.length c0_3] 28 (0, 0)) p71z hb) (below_step p26z hb); clear d5 HB; obtain ⟨d5, HB⟩ := z_; (try clear hb)))
  go_ret
  exact ⟨p7z, p26z⟩
 replace c8 := Bool.eq_false_iff.mpr c8
 subst c8
 have H1 : (some 2) = some r := p39z
 clear H
 have H := H1
 clear H1
 obtain rfl := Option.some.inj H
 go_enter Tryz.func18, Tryz.ntmps18
 go_wp2_with (first | ((with_reducible refine gate_dst (N := 1) rfl ?_); refine box_event ?hg (N := 1) ?hd (cs := #[.int .i64 a0_0, .string a0_1, .slice A0_2 ab.length c0_2, .slice A0_3 aa.length c0_3]) (t := 28) ?hr ?_; (case hd => rfl); (case hg => rfl); (case hr => exact p9z); intro dC hg w14 hbox hb; have z_ := asi4 (below_step p0z hb) (hbox) ((p21z : w.heap.size ≤ dC)) ((p21z : w.heap.size ≤ dC)); clear HB; obtain ⟨HB, d5, GW105, jL⟩ := z_; clear hb hbox hg; obtain ⟨hcz15_0, hcz15_1, hcz15_2, hcz15_3, hfz15_0, hfz15_1, hfz15_2, hfz15_3⟩ := cells4 d5.out) | ((with_reducible refine gate_callee (f := 22) rfl ?_); refine goesL_ (some 4) rfl rfl Tryz.func22 p12z rfl #[.agg #[.int .i64 a0_0, .string a0_1, .slice A0_2 ab.length c0_2, .slice A0_3 aa.length c0_3]] rfl p3z ?_; (with_reducible refine (aI.calls k a0_0 a0_1 _ _ ab _ _ aa fi _ ?side1 ?side2 ?side3 ?side4 A2.out).mono ?_); (case side1 => exact p8z); (case side2 => exact bZ.out); (case side3 => exact p13z); (case side4 => exact cn.out); rintro e w16 ⟨rfl, hb⟩; refine ⟨_, rfl, ?_⟩; have z_ := asi2 (blk_below (g := dC) (o := .cells #[.int .i64 a0_0, .string a0_1, .slice A0_2 ab.length c0_2, .slice A0_3 aa.length c0_3] 28 (0, 0)) p71z hb) (below_step p26z hb); clear d5 HB; obtain ⟨d5, HB⟩ := z_; (try clear hb); obtain ⟨hcz17_0, hcz17_1, hcz17_2, hcz17_3, hfz17_0, hfz17_1, hfz17_2, hfz17_3⟩ := cells4 d5.out) | (go_at_call 45; (with_reducible refine (jtree_may.calls k a0_0 a0_1 _ _ ab _ _ aa 1 false _ ?side1 ?side2 ?side3 ?side4 A7.out (HTB_.below p26z)).mono ?_); (case side1 => exact p8z); (case side2 => exact bZ.out); (case side3 => exact p13z); (case side4 => exact cn.out); rintro e w18 ⟨rfl, hb⟩; have z_ := asi2 (blk_below (g := dC) (o := .cells #[.int .i64 a0_0, .string a0_1, .slice A0_2 ab.length c0_2, .slice A0_3 aa.length c0_3] 28 (0, 0)) p71z hb) (below_step p26z hb); clear d5 HB; obtain ⟨d5, HB⟩ := z_; (try clear hb)))
 go_ret
 exact ⟨p7z, p26z⟩

/-! ### cy: function 13 -/
def cy.f (k : Nat) (a0_0 : Int) (a0_1 : ByteArray) (ab : List ByteArray) (aa : List (S28)) : Option (ByteArray × Int) := (bY.f k a0_0 a0_1 ab aa).bind fun dr => (if dr = 0 then ((bJ.f k a0_0 a0_1 ab aa).bind fun gT => (some (gT, 0))) else (some ((⟨#[]⟩ : ByteArray), dr)))
theorem cy.calls (k : Nat) (a0_0 : Int) (a0_1 : ByteArray) (A0_2 : Option Addr) (c0_2 : Nat) (ab : List ByteArray) (A0_3 : Option Addr) (c0_3 : Nat) (aa : List (S28)) (r1 : ByteArray) (r2 : Int) (w : World) (hr0_2 : Kd.C Kd.string w A0_2 ab.length ab) (hc0_2 : ab.length ≤ c0_2) (hr0_3 : Kd.C k28 w A0_3 aa.length aa) (hc0_3 : aa.length ≤ c0_3) (h : cy.f k a0_0 a0_1 ab aa = some (r1, r2)) (HTB_ : Tabs w) :
 Calls Tryz.prog 13 #[.agg #[.int .i64 a0_0, .string a0_1, .slice A0_2 ab.length c0_2, .slice A0_3 aa.length c0_3]] w fun e w' => e = .returned (.tuple #[.string r1, .int .i64 r2]) ∧ Below w.heap.size w w' := by
 have hu28 := Tryz.underlying28
 have cU := Aside0.mk hr0_2
 have bZ := Aside0.mk hc0_2
 clear hr0_2 hc0_2
 have cP := Aside0.mk hr0_3
 have cn := Aside0.mk hc0_3
 clear hr0_3 hc0_3
 have HB := Aside0.mk (Below.refl w.heap.size w)
 have H : ((bY.f k a0_0 a0_1 ab aa).bind fun dr => (if dr = 0 then ((bJ.f k a0_0 a0_1 ab aa).bind fun gT => (some (gT, 0))) else (some ((⟨#[]⟩ : ByteArray), dr)))) = some (r1, r2) := h
 clear h
 replace H := Option.bind_eq_some_iff.mp H
 obtain ⟨dr, A20, H⟩ := H
 replace H : (if dr = 0 then ((bJ.f k a0_0 a0_1 ab aa).bind fun gT => (some (gT, 0))) else (some ((⟨#[]⟩ : ByteArray), dr))) = some (r1, r2) := H
 have A2 := Aside0.mk A20
 clear A20
 by_cases c3 : dr = 0
 case neg =>
  rw [if_neg c3] at H
  have cW : (dr == 0) = false := beq_eq_false_iff_ne.mpr c3
  have ez : (dr != 0) = true := bne_iff_ne.mpr c3
  simp only [Option.some.injEq, Prod.mk.injEq] at H
  obtain ⟨rfl, rfl⟩ := H
  go_enter Tryz.func13, Tryz.ntmps13
  go_wp2_with (first | ((with_reducible refine gate_dst (N := 1) rfl ?_); refine box_event ?hg (N := 1) ?hd (cs := #[.int .i64 a0_0, .string a0_1, .slice A0_2 ab.length c0_2, .slice A0_3 aa.length c0_3]) (t := 28) ?hr ?_; (case hd => rfl); (case hg => rfl); (case hr => exact p9z); intro eN hg w10 hbox hb; have z_ := asi4 (below_step p0z hb) (hbox) ((p21z : w.heap.size ≤ eN)) ((p21z : w.heap.size ≤ eN)); clear HB; obtain ⟨HB, dN, GW108, GE108⟩ := z_; clear hb hbox hg; obtain ⟨hcz11_0, hcz11_1, hcz11_2, hcz11_3, hfz11_0, hfz11_1, hfz11_2, hfz11_3⟩ := cells4 dN.out) | ((with_reducible refine gate_callee (f := 18) rfl ?_); refine goesL_ (some 6) rfl rfl Tryz.func18 p12z rfl #[.agg #[.int .i64 a0_0, .string a0_1, .slice A0_2 ab.length c0_2, .slice A0_3 aa.length c0_3]] rfl p3z ?_; (with_reducible refine (bY.calls k a0_0 a0_1 _ _ ab _ _ aa dr _ ?side1 ?side2 ?side3 ?side4 A2.out (HTB_.below p36z)).mono ?_); (case side1 => exact p8z); (case side2 => exact bZ.out); (case side3 => exact p13z); (case side4 => exact cn.out); rintro e w12 ⟨rfl, hb⟩; refine ⟨_, rfl, ?_⟩; have z_ := asi2 (blk_below (g := eN) (o := .cells #[.int .i64 a0_0, .string a0_1, .slice A0_2 ab.length c0_2, .slice A0_3 aa.length c0_3] 28 (0, 0)) p102z hb) (below_step p36z hb); clear dN HB; obtain ⟨dN, HB⟩ := z_; (try clear hb)))
  go_ret2
  exact ⟨p7z, p36z⟩
 rw [if_pos c3] at H
 have cW : (dr == 0) = true := beq_iff_eq.mpr c3
 have ez : (dr != 0) = false := bne_eq_false_iff_eq.mpr c3
 clear c3
 replace H := Option.bind_eq_some_iff.mp H
 obtain ⟨gT, A40, H⟩ := H
 replace H : (some (gT, 0)) = some (r1, r2) := H
 have A4 := Aside0.mk A40
 clear A40
 simp only [Option.some.injEq, Prod.mk.injEq] at H
 obtain ⟨rfl, rfl⟩ := H
 go_enter Tryz.func13, Tryz.ntmps13
 go_wp2_with (first | ((with_reducible refine gate_dst (N := 1) rfl ?_); refine box_event ?hg (N := 1) ?hd (cs := #[.int .i64 a0_0, .string a0_1, .slice A0_2 ab.length c0_2, .slice A0_3 aa.length c0_3]) (t := 28) ?hr ?_; (case hd => rfl); (case hg => rfl); (case hr => exact p9z); intro eN hg w5 hbox hb; have z_ := asi4 (below_step p0z hb) (hbox) ((p21z : w.heap.size ≤ eN)) ((p21z : w.heap.size ≤ eN)); clear HB; obtain ⟨HB, dN, GW108, GE108⟩ := z_; clear hb hbox hg; obtain ⟨hcz6_0, hcz6_1, hcz6_2, hcz6_3, hfz6_0, hfz6_1, hfz6_2, hfz6_3⟩ := cells4 dN.out) | ((with_reducible refine gate_callee (f := 18) rfl ?_); refine goesL_ (some 6) rfl rfl Tryz.func18 p12z rfl #[.agg #[.int .i64 a0_0, .string a0_1, .slice A0_2 ab.length c0_2, .slice A0_3 aa.length c0_3]] rfl p3z ?_; (with_reducible refine (bY.calls k a0_0 a0_1 _ _ ab _ _ aa dr _ ?side1 ?side2 ?side3 ?side4 A2.out (HTB_.below p36z)).mono ?_); (case side1 => exact p8z); (case side2 => exact bZ.out); (case side3 => exact p13z); (case side4 => exact cn.out); rintro e w7 ⟨rfl, hb⟩; refine ⟨_, rfl, ?_⟩; have z_ := asi2 (blk_below (g := eN) (o := .cells #[.int .i64 a0_0, .string a0_1, .slice A0_2 ab.length c0_2, .slice A0_3 aa.length c0_3] 28 (0, 0)) p102z hb) (below_step p36z hb); clear dN HB; obtain ⟨dN, HB⟩ := z_; (try clear hb); obtain ⟨hcz8_0, hcz8_1, hcz8_2, hcz8_3, hfz8_0, hfz8_1, hfz8_2, hfz8_3⟩ := cells4 dN.out) | ((with_reducible refine gate_callee (f := 40) rfl ?_); refine goesL_ (some 11) rfl rfl Tryz.func40 p12z rfl #[.agg #[.int .i64 a0_0, .string a0_1, .slice A0_2 ab.length c0_2, .slice A0_3 aa.length c0_3]] rfl p3z ?_; (with_reducible refine (bJ.calls k a0_0 a0_1 _ _ ab _ _ aa gT _ ?side1 ?side2 ?side3 ?side4 A4.out).mono ?_); (case side1 => exact p8z); (case side2 => exact bZ.out); (case side3 => exact p13z); (case side4 => exact cn.out); rintro e w9 ⟨rfl, hb⟩; refine ⟨_, rfl, ?_⟩; have z_ := asi2 (blk_below (g := eN) (o := .cells #[.int .i64 a0_0, .string a0_1, .slice A0_2 ab.length c0_2, .slice A0_3 aa.length c0_3] 28 (0, 0)) p102z hb) (below_step p36z hb); clear dN HB; obtain ⟨dN, HB⟩ := z_; (try clear hb)))
 go_ret2
 exact ⟨p7z, p36z⟩
end Go.Proofs.YtodnggilomanbaaGreatDoor.PAll
