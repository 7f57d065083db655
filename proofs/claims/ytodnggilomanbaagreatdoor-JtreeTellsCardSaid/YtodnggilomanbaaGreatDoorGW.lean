-- Written by this repo's program wip/tools/pr.py (over the kit's print) out of the translation. Not trusted: Lean checks it.
import Derived.Test.YtodnggilomanbaaGreatDoorAp
import Derived.Test.YtodnggilomanbaaGreatDoorHandStep
import Derived.Test.YtodnggilomanbaaGreatDoorPX0
set_option maxHeartbeats 8000000
set_option maxRecDepth 100000
namespace Go.Proofs.YtodnggilomanbaaGreatDoor.PAll
open Go.Proofs.YtodnggilomanbaaGreatDoor.Hand
open Go.RowKit Go.Proofs.YtodnggilomanbaaGreatDoorW.PrintWords Go.Proofs.YtodnggilomanbaaGreatDoorW.PrintLast Go.Proofs.YtodnggilomanbaaGreatDoorW.PrintMore
attribute [local go_sem] max2_int min2_int max_two min_two max_three min_three max_four min_four   -- for this text's walks alone
set_option linter.unusedVariables false
set_option linter.unusedSimpArgs false
attribute [-simp] List.length_take List.length_drop ByteArray.size_extract

/-! ### ay: function 38 -/
def ay.f (k : Nat) (a0 : ByteArray) (a1 : Int) : Option (Bool) := (bM.f k a0).bind fun dD => ((cS.f k dD.1 dD.2.1 dD.2.2.1 dD.2.2.2.1 0 (⟨#[]⟩ : ByteArray) ([] : List ByteArray) ([] : List (S28))).bind fun gW => (if gW = true then (if dD.2.2.2.2.1 = a1 then (some (dD.2.2.2.2.2 == 140)) else (none)) else (none)))
theorem ay.calls (k : Nat) (a0 : ByteArray) (a1 : Int) (r : Bool) (w : World) (h : ay.f k a0 a1 = some r) (HTB_ : Tabs w) :
 Calls Tryz.prog 38 #[.string a0, .int .i64 a1] w fun e w' => e = .returned (.bool r) ∧ Below w.heap.size w w' := by
 have hu28 := Tryz.underlying28
 have HB := Aside0.mk (Below.refl w.heap.size w)
 have H : ((bM.f k a0).bind fun dD => ((cS.f k dD.1 dD.2.1 dD.2.2.1 dD.2.2.2.1 0 (⟨#[]⟩ : ByteArray) ([] : List ByteArray) ([] : List (S28))).bind fun gW => (if gW = true then (if dD.2.2.2.2.1 = a1 then (some (dD.2.2.2.2.2 == 140)) else (none)) else (none)))) = some r := h
 clear h
 replace H := Option.bind_eq_some_iff.mp H
 obtain ⟨⟨t124, gl, ft, gX, iC, t133⟩, A30, H⟩ := H
 replace H : ((cS.f k t124 gl ft gX 0 (⟨#[]⟩ : ByteArray) ([] : List ByteArray) ([] : List (S28))).bind fun gW => (if gW = true then (if iC = a1 then (some (t133 == 140)) else (none)) else (none))) = some r := H
 have A3 := Aside0.mk A30
 clear A30
 replace H := Option.bind_eq_some_iff.mp H
 obtain ⟨gW, A40, H⟩ := H
 replace H : (if gW = true then (if iC = a1 then (some (t133 == 140)) else (none)) else (none)) = some r := H
 have A4 := Aside0.mk A40
 clear A40
 by_cases c5 : gW = true
 case neg =>
  replace c5 := Bool.eq_false_iff.mpr c5
  subst c5
  have H1 : (none) = some r := p39z
  clear H
  have H := H1
  clear H1
  exact absurd H (by simp)
 subst c5
 have H1 : (if iC = a1 then (some (t133 == 140)) else (none)) = some r := p72z
 clear H
 have H := H1
 clear H1
 by_cases c6 : iC = a1
 case neg =>
  rw [if_neg c6] at H
  exact absurd H (by simp)
 rw [if_pos c6] at H
 have df : (iC == a1) = true := beq_iff_eq.mpr c6
 have i5 : (iC != a1) = false := bne_eq_false_iff_eq.mpr c6
 clear c6
 obtain rfl := Option.some.inj H
 go_enter Tryz.func38, Tryz.ntmps38
 go_wp2_with (first | ((with_reducible refine gate_callee (f := 7) rfl ?_); refine goesL_ (some 10) rfl rfl Tryz.func7 p12z rfl #[.string a0] rfl p3z ?_; (with_reducible refine (bM.calls k a0 t124 gl ft gX iC t133 _ A3.out (HTB_.below p0z)).mono ?_); rintro e w7 ⟨v127, v130, rfl, ho0, ho1, hb⟩; refine ⟨_, rfl, ?_⟩; have z_ := asi3 (Kd.R_lower ho0 (below_size p0z)) (Kd.R_lower ho1 (below_size p0z)) (below_step p0z hb); clear HB; obtain ⟨eO, eP, HB⟩ := z_; (try clear hb hk ho0 ho1)) | ((with_reducible refine gate_dst (N := 5) rfl ?_); refine box_event ?hg (N := 5) ?hd (cs := #[.int .i64 0, .string (⟨#[]⟩ : ByteArray), .slice none 0 0, .slice none 0 0]) (t := 28) ?hr ?_; (case hd => rfl); (case hg => rfl); (case hr => exact p9z); intro dy hg w8 hbox hb; have z_ := asi6 (Kd.R_below (q0z eO.out) hb) (Kd.R_below (Kd.R_elderB (q0z eP.out) dy (Nat.le_of_eq hg.symm)) hb) (below_step p0z hb) (hbox) ((p21z : w.heap.size ≤ dy)) ((p21z : w.heap.size ≤ dy)); clear eO eP HB; obtain ⟨eO, eP, HB, gY, GW134, GE134⟩ := z_; clear hb hbox hg; obtain ⟨hcz9_0, hcz9_1, hcz9_2, hcz9_3, hfz9_0, hfz9_1, hfz9_2, hfz9_3⟩ := cells4 gY.out; obtain ⟨dl, co10, eo10⟩ := Kd.R_slice eO.out; subst eo10; obtain ⟨Ao11, co11, eo11⟩ := Kd.R_slice eP.out; subst eo11) | ((with_reducible refine gate_callee (f := 21) rfl ?_); refine goesL_ (some 16) rfl rfl Tryz.func21 p12z rfl #[.agg #[.int .i64 t124, .string gl, .slice dl ft.length co10, .slice Ao11 gX.length co11], .agg #[.int .i64 0, .string (⟨#[]⟩ : ByteArray), .slice none 0 0, .slice none 0 0]] rfl p3z ?_; (refine (cS.calls k t124 gl _ _ ft _ _ gX 0 (⟨#[]⟩ : ByteArray) _ _ ([] : List ByteArray) _ _ ([] : List (S28)) true _ ?side1 ?side2 ?side3 ?side4 ?side5 ?side6 ?side7 ?side8 A4.out).mono ?_); (case side1 => refine (Kd.R_reads' (e := 9) (base := w.heap.size) (ok := fun k_ => True) (n := ft.length) (c := co10) ?_).2.2; exact p68z); (case side2 => exact (Kd.R_reads' eO.out).2.1); (case side3 => refine (Kd.R_reads' (e := 28) (base := w.heap.size) (ok := fun k_ => (some k_ ≠ (.slice dl ft.length co10 : Value).ownBlock ∧ k_ ≠ dy)) (n := gX.length) (c := co11) ?_).2.2; exact p66z); (case side4 => exact (Kd.R_reads' eP.out).2.1); (case side5 => exact Kd.C_nil _ _); (case side6 => exact Nat.le_refl _); (case side7 => exact Kd.C_nil _ _); (case side8 => exact Nat.le_refl _); rintro e w12 ⟨rfl, hb⟩; refine ⟨_, rfl, ?_⟩; have z_ := asi4 (Kd.R_below p68z hb) (Kd.R_below p66z hb) (blk_below (g := dy) (o := .cells #[.int .i64 t124, .string gl, .slice dl ft.length co10, .slice Ao11 gX.length co11] 28 (0, 0)) (by (with_reducible repeat (first | refine blk_drewN ?_ _ | refine blk_drew ?_ | refine blk_alloc ?_ _)); refine blk_put (cs := #[.int .i64 t124, .string gl, .slice dl ft.length co10, .slice none 0 0]) ?_ 3 _ rfl; (with_reducible repeat (first | refine blk_drewN ?_ _ | refine blk_drew ?_ | refine blk_alloc ?_ _)); refine blk_put (cs := #[.int .i64 t124, .string gl, .slice none 0 0, .slice none 0 0]) ?_ 2 _ rfl; (with_reducible repeat (first | refine blk_drewN ?_ _ | refine blk_drew ?_ | refine blk_alloc ?_ _)); refine blk_put (cs := #[.int .i64 t124, .string (⟨#[]⟩ : ByteArray), .slice none 0 0, .slice none 0 0]) ?_ 1 _ rfl; (with_reducible repeat (first | refine blk_drewN ?_ _ | refine blk_drew ?_ | refine blk_alloc ?_ _)); refine blk_put (cs := #[.int .i64 0, .string (⟨#[]⟩ : ByteArray), .slice none 0 0, .slice none 0 0]) ?_ 0 _ rfl; (with_reducible repeat (first | refine blk_drewN ?_ _ | refine blk_drew ?_ | refine blk_alloc ?_ _)); exact gY.out) hb) (below_step p123z hb); clear eO eP gY HB; obtain ⟨eO, eP, gY, HB⟩ := z_; (try clear hb hk)))
 go_ret
 exact ⟨p7z, p123z⟩
end Go.Proofs.YtodnggilomanbaaGreatDoor.PAll
