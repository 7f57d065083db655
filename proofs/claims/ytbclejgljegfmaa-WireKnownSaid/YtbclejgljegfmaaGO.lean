-- Written by this repo's program wip/tools/pr.py (over the kit's print) out of the translation. Not trusted: Lean checks it.
import Derived.Test.YtbclejgljegfmaaAp
import Derived.Test.YtbclejgljegfmaaPAllx0
import Derived.Test.YtbclejgljegfmaaHandVar
set_option maxHeartbeats 8000000
set_option maxRecDepth 100000
namespace Go.Proofs.Ytbclejgljegfmaa.PAll
open Go.Proofs.Ytbclejgljegfmaa.Hand
open Go.RowKit Go.Proofs.YtbclejgljegfmaaW.PrintWords Go.Proofs.YtbclejgljegfmaaW.PrintLast Go.Proofs.YtbclejgljegfmaaW.PrintMore
attribute [local go_sem] max2_int min2_int max_two min_two max_three min_three max_four min_four   -- for this text's walks alone
set_option linter.unusedVariables false
set_option linter.unusedSimpArgs false

/-! ### wire_Copy: function 34 -/
def wire_Copy.f (a0_0 : Int) (a0_1 : Int) (a0_2 : Int) (aY : List Int) (ay : List Int) : Option (Int × Int × Int × List Int × List Int) := (aG.f aY).bind fun iD => ((aG.f ay).bind fun iE => (some (a0_0, a0_1, a0_2, iD, iE)))
def wire_Copy.T1 : Bool × List (List Nat × List Nat) := (true, [([], []), ([0], [0]), ([1], [1]), ([], []), ([3], [3]), ([4, 2], [4]), ([0, 1, 2, 3, 4], []), ([6, 2, 5, 0, 1, 2, 3, 4], [2, 6]), ([0, 1, 2, 3, 4, 5, 6, 7], []), ([8, 5, 7, 0, 1, 2, 3, 4, 5, 6, 7], [5, 8])])
def wire_Copy.B1 : List Nat := [0, 1, 3, 0, 8, 31, 31, 127, 255, 511]
theorem wire_Copy.tab1 : rtab .any (opsOf Try.f34 1) = wire_Copy.T1 := p16z
theorem wire_Copy.bits1 : waitsOk wire_Copy.T1.2 wire_Copy.B1 = true := p16z
theorem wire_Copy.calls (a0_0 : Int) (a0_1 : Int) (a0_2 : Int) (A0_3 : Option Addr) (c0_3 : Nat) (aY : List Int) (A0_4 : Option Addr) (c0_4 : Nat) (ay : List Int) (r1 : Int) (r2 : Int) (r3 : Int) (r4 : List Int) (r5 : List Int) (w : World) (hr0_3 : Kd.C (Kd.int .u8) w A0_3 aY.length aY) (hc0_3 : aY.length ≤ c0_3) (hr0_4 : Kd.C (Kd.int .u8) w A0_4 ay.length ay) (hc0_4 : ay.length ≤ c0_4) (h : wire_Copy.f a0_0 a0_1 a0_2 aY ay = some (r1, r2, r3, r4, r5)) :
 Calls Try.prog 34 #[.agg #[.int .i64 a0_0, .int .i64 a0_1, .int .u64 a0_2, .slice A0_3 aY.length c0_3, .slice A0_4 ay.length c0_4]] w fun e w' => ∃ v3_ v4_ : Value, e = .returned (.agg #[.int .i64 r1, .int .i64 r2, .int .u64 r3, v3_, v4_]) ∧ Kd.R (Kd.int .u8) 5 w' w.heap.size (fun k_ => some k_ ≠ (v4_ : Value).ownBlock) v3_ r4 ∧ Kd.R (Kd.int .u8) 5 w' w.heap.size (fun k_ => some k_ ≠ (v3_ : Value).ownBlock) v4_ r5 ∧ Below w.heap.size w w' := by
 have hu33 := Try.underlying33
 have gE := Aside0.mk hr0_3
 have fi := Aside0.mk hc0_3
 clear hr0_3 hc0_3
 have fJ := Aside0.mk hr0_4
 have dY := Aside0.mk hc0_4
 clear hr0_4 hc0_4
 have HB := Aside0.mk (Below.refl w.heap.size w)
 have H : ((aG.f aY).bind fun iD => ((aG.f ay).bind fun iE => (some (a0_0, a0_1, a0_2, iD, iE)))) = some (r1, r2, r3, r4, r5) := h
 clear h
 replace H := Option.bind_eq_some_iff.mp H
 obtain ⟨iD, A20, H⟩ := H
 replace H : ((aG.f ay).bind fun iE => (some (a0_0, a0_1, a0_2, iD, iE))) = some (r1, r2, r3, r4, r5) := H
 have A2 := Aside0.mk A20
 clear A20
 replace H := Option.bind_eq_some_iff.mp H
 obtain ⟨iE, A30, H⟩ := H
 replace H : (some (a0_0, a0_1, a0_2, iD, iE)) = some (r1, r2, r3, r4, r5) := H
 have A3 := Aside0.mk A30
 clear A30
 simp only [Option.some.injEq, Prod.mk.injEq] at H
 obtain ⟨rfl, rfl, rfl, rfl, rfl⟩ := H
 go_enter Try.func34, Try.ntmps34
 try go_wp2_with (first | ((with_reducible refine gate_dst (N := 1) rfl ?_); refine box_event ?hg (N := 1) ?hd (cs := #[.int .i64 a0_0, .int .i64 a0_1, .int .u64 a0_2, .slice A0_3 aY.length c0_3, .slice A0_4 ay.length c0_4]) (t := 33) ?hr ?_; (case hd => rfl); (case hg => rfl); (case hr => exact p22z); intro e9 hg w4 hbox hb; have z_ := asi4 (below_step p0z hb) (hbox) ((p38z : w.heap.size ≤ e9)) ((p38z : w.heap.size ≤ e9)); clear HB; obtain ⟨HB, cZ, GW327, GE327⟩ := z_; clear hb hbox hg) | ((with_reducible refine gate_dst (N := 2) rfl ?_); refine box_event ?hg (N := 2) ?hd (cs := #[.int .i64 0, .int .i64 0, .int .u64 0, .slice none 0 0, .slice none 0 0]) (t := 33) ?hr ?_; (case hd => rfl); (case hg => rfl); (case hr => exact p22z); intro ew hg w5 hbox hb; have z_ := asi7 (blk_below (g := e9) (o := .cells #[.int .i64 a0_0, .int .i64 a0_1, .int .u64 a0_2, .slice A0_3 aY.length c0_3, .slice A0_4 ay.length c0_4] 33 (0, 0)) p159z hb) (below_step p178z hb) (hbox) ((by rw [hg]; exact (below_size p178z) : w.heap.size ≤ ew)) ((by rw [hg]; exact (below_size p178z) : w.heap.size ≤ ew)) ((by rw [hg]; exact Nat.ne_of_lt (blk_lt (g := e9) (o := .cells #[.int .i64 a0_0, .int .i64 a0_1, .int .u64 a0_2, .slice A0_3 aY.length c0_3, .slice A0_4 ay.length c0_4] 33 (0, 0)) p159z) : e9 ≠ ew)) ((by rw [hg]; exact Nat.ne_of_gt (blk_lt (g := e9) (o := .cells #[.int .i64 a0_0, .int .i64 a0_1, .int .u64 a0_2, .slice A0_3 aY.length c0_3, .slice A0_4 ay.length c0_4] 33 (0, 0)) p159z) : ew ≠ e9)); clear cZ HB; obtain ⟨cZ, HB, ej, GW328, GE328, NB327_328, NB328_327⟩ := z_; clear hb hbox hg))
 have n0_ := Aside0.mk (blk_drew cZ.out)
 have n1_ := Aside0.mk (blk_drew ej.out)
 have n2_ := Aside0.mk (below_drew1 HB.out)
 clear cZ
 clear ej
 clear HB
 have cZ := n0_
 have ej := n1_
 have HB := n2_
 clear n0_ n1_ n2_
 refine start_ (n := 10) (S := fun w' => w'.cell? ⟨e9, 0, none⟩ = some (.int .i64 a0_0) ∧ w'.cell? ⟨e9, 1, none⟩ = some (.int .i64 a0_1) ∧ w'.cell? ⟨e9, 2, none⟩ = some (.int .u64 a0_2) ∧ w'.cell? ⟨e9, 3, none⟩ = some (.slice A0_3 aY.length c0_3) ∧ w'.cell? ⟨e9, 4, none⟩ = some (.slice A0_4 ay.length c0_4)) (ds := [7, 9]) (tf 0 10) p16z rfl rfl ⟨(blk_cell cZ.out 0).trans rfl, (blk_cell cZ.out 1).trans rfl, (blk_cell cZ.out 2).trans rfl, (blk_cell cZ.out 3).trans rfl, (blk_cell cZ.out 4).trans rfl⟩ (fun hHeld => ?_); refine with_tabW wire_Copy.tab1 wire_Copy.bits1 (fun HT_ HW_ => ?_)
 generalize w5.drew = w6 at cZ ej HB hHeld ⊢
 refine pure_ (i := 0) (N := some 3) (v := ?_) (a' := ?_) (tf 1 9) rfl rfl (any_of HT_.out p16z) (fun _ _ _ h => h) (Or.inl ⟨by rfl, ?_⟩) ?_ ?_
 rotate_left
 ·intro w'
  go_simp
  with_reducible rfl
 rotate_left
 ·exact p1z
 refine pure_ (i := 3) (N := some 6) (v := ?_) (a' := ?_) (tfs true [1, 2, 1, 6]) rfl rfl (any_of HT_.out p16z) (fun _ _ _ h => h) (Or.inl ⟨by rfl, ?_⟩) ?_ ?_
 rotate_left
 ·intro w'
  go_simp
  with_reducible rfl
 rotate_left
 ·exact p1z
 refine take_ (i := 1) (N := some 4) (v := ?_) (a' := ?_) (tfs true [2, 1, 1, 6]) rfl rfl (take_ofW HT_.out HW_.out p16z) (fun _ _ _ h => h) (Or.inl ⟨by rfl, ?_⟩) hHeld ?_ ?_
 rotate_left
 ·rintro w' ⟨s0, s1, s2, s3, s4⟩
  go_simp
  with_reducible rfl
 rotate_left
 ·exact p1z
 refine take_ (i := 4) (N := some 7) (v := ?_) (a' := ?_) (tfs true [2, 1, 2, 5]) rfl rfl (take_ofW HT_.out HW_.out p16z) (fun _ _ _ h => h) (Or.inl ⟨by rfl, ?_⟩) hHeld ?_ ?_
 rotate_left
 ·rintro w' ⟨s0, s1, s2, s3, s4⟩
  go_simp
  with_reducible rfl
 rotate_left
 ·exact p1z
 refine one_ (i := 2) (N := some 5) (tf 5 5) rfl rfl (one_of HT_.out p16z) (by decide) (fun K hK => ?_)
 refine goes_ Try.func49 p16z rfl #[.slice A0_3 aY.length c0_3] (by rfl) rfl rfl p2z ?_
 with_reducible refine (aG.calls _ _ aY iD _ ?side1 ?side2 A2.out).mono ?_
 (case side1 => exact p100z)
 (case side2 => exact fi.out)
 rintro e w7 ⟨v330, rfl, ho0, hb⟩
 refine ⟨_, rfl, ?_⟩
 have n0_ := Aside0.mk (Kd.R_lower ho0 (below_size p109z))
 have n1_ := Aside0.mk (blk_below (g := e9) (o := .cells #[.int .i64 a0_0, .int .i64 a0_1, .int .u64 a0_2, .slice A0_3 aY.length c0_3, .slice A0_4 ay.length c0_4] 33 (0, 0)) p159z hb)
 have n2_ := Aside0.mk (blk_below (g := ew) (o := .cells #[.int .i64 0, .int .i64 0, .int .u64 0, .slice none 0 0, .slice none 0 0] 33 (0, 0)) (q1z ej.out) hb)
 have n3_ := Aside0.mk (below_step p109z hb)
 clear cZ
 clear ej
 clear HB
 have jN := n0_
 have cZ := n1_
 have ej := n2_
 have HB := n3_
 clear n0_ n1_ n2_ n3_
 (try clear hb)
 (try clear hb2)
 (try clear hk)
 (try clear hi)
 (try clear ho0)
 refine hK.out _ _ ⟨(blk_cell cZ.out 0).trans rfl, (blk_cell cZ.out 1).trans rfl, (blk_cell cZ.out 2).trans rfl, (blk_cell cZ.out 3).trans rfl, (blk_cell cZ.out 4).trans rfl⟩ (fun hHeld => ?_)
 clear hK K
 refine norm_ (a' := ?_) ?_ ?_
 rotate_left
 ·show Act.put _ (some 5) _ = _
  simp only [Act.put, List.setIfInBounds_toArray, List.set_cons_zero, List.set_cons_succ, i64_w, i32_w]
  rfl
 refine pure_ (i := 6) (N := some 9) (v := ?_) (a' := ?_) (tfs true [5, 1, 1, 3]) rfl rfl (any_of HT_.out p16z) (fun _ _ _ h => h) (Or.inl ⟨by rfl, ?_⟩) ?_ ?_
 rotate_left
 ·intro w'
  go_simp
  with_reducible rfl
 rotate_left
 ·exact p1z
 refine one_ (i := 5) (N := some 8) (tf 7 3) rfl rfl (one_of HT_.out p16z) (by decide) (fun K hK => ?_)
 refine goes_ Try.func49 p16z rfl #[.slice A0_4 ay.length c0_4] (by rfl) rfl rfl p2z ?_
 with_reducible refine (aG.calls _ _ ay iE _ ?side1 ?side2 A3.out).mono ?_
 (case side1 => exact p47z)
 (case side2 => exact dY.out)
 rintro e w8 ⟨v333, rfl, ho0, hb⟩
 refine ⟨_, rfl, ?_⟩
 have n0_ := Aside0.mk (Kd.R_elder' (q0z jN.out) (Kd.R_base ho0) hb)
 have n1_ := Aside0.mk (Kd.R_lower (Kd.R_new' ho0 (Kd.R_lt (q0z jN.out))) (below_size p109z))
 have n2_ := Aside0.mk (blk_below (g := e9) (o := .cells #[.int .i64 a0_0, .int .i64 a0_1, .int .u64 a0_2, .slice A0_3 aY.length c0_3, .slice A0_4 ay.length c0_4] 33 (0, 0)) p159z hb)
 have n3_ := Aside0.mk (blk_below (g := ew) (o := .cells #[.int .i64 0, .int .i64 0, .int .u64 0, .slice none 0 0, .slice none 0 0] 33 (0, 0)) (q1z ej.out) hb)
 have n4_ := Aside0.mk (below_step p109z hb)
 clear jN
 clear cZ
 clear ej
 clear HB
 have jN := n0_
 have HO334 := n1_
 have cZ := n2_
 have ej := n3_
 have HB := n4_
 clear n0_ n1_ n2_ n3_ n4_
 (try clear hb)
 (try clear hb2)
 (try clear hk)
 (try clear hi)
 (try clear ho0)
 obtain ⟨Ao9, co9, eo9⟩ := Kd.R_slice jN.out
 (first | subst eo9 | (injection eo9 with f1_ f2_ f3_; have f4_ := f1_.symm; have f5_ := f3_.symm; clear f1_ f2_ f3_; subst f4_; subst f5_))
 obtain ⟨bX, co11, eo11⟩ := Kd.R_slice HO334.out
 (first | subst eo11 | (injection eo11 with f1_ f2_ f3_; have f4_ := f1_.symm; have f5_ := f3_.symm; clear f1_ f2_ f3_; subst f4_; subst f5_))
 refine hK.out _ _ ⟨(blk_cell cZ.out 0).trans rfl, (blk_cell cZ.out 1).trans rfl, (blk_cell cZ.out 2).trans rfl, (blk_cell cZ.out 3).trans rfl, (blk_cell cZ.out 4).trans rfl⟩ (fun hHeld => ?_)
 clear hK K
 refine norm_ (a' := ?_) ?_ ?_
 rotate_left
 ·show Act.put _ (some 8) _ = _
  simp only [Act.put, List.setIfInBounds_toArray, List.set_cons_zero, List.set_cons_succ, i64_w, i32_w]
  rfl
 refine last_ (i := 7) (N := none) (tf 8 2) rfl rfl (one_of HT_.out p16z) (by decide) (fun K hK => ?_)
 have hs10 : w8.cell? ⟨e9, 3, none⟩ = some (.slice A0_3 aY.length c0_3) := (blk_cell cZ.out 3).trans rfl
 have hfs10 := blk_frozen cZ.out 3
 have hns10_1 := NB328_327.out
 have hms10_1 := NB327_328.out
 refine skip_ (w1 := ?_) (by rfl) rfl ?_ ?_
 rotate_left
 ·go_simp
  rfl
 refine hK.out _ _ ?_
 clear hK K
 refine pure_ (i := 8) (N := some 10) (v := ?_) (a' := ?_) (tf 9 1) rfl rfl (any_of HT_.out p16z) (fun _ _ _ h => h) (Or.inl ⟨by rfl, ?_⟩) ?_ ?_
 rotate_left
 ·intro w'
  go_simp
  with_reducible rfl
 rotate_left
 ·exact p1z
 refine last_ (i := 9) (N := none) (tf 10 0) rfl rfl (one_of HT_.out p16z) (by decide) (fun K hK => ?_)
 have hs12 : w8.cell? ⟨e9, 4, none⟩ = some (.slice A0_4 ay.length c0_4) := (blk_cell cZ.out 4).trans rfl
 have hfs12 := blk_frozen cZ.out 4
 have hns12_1 := NB328_327.out
 have hms12_1 := NB327_328.out
 refine skip_ (w1 := ?_) (by rfl) rfl ?_ ?_
 rotate_left
 ·go_simp
  rfl
 refine hK.out _ _ ?_
 clear hK K
 refine done_ (done_of HT_.out p16z) ?_
 have hnb13 := NB327_328.out
 have hnc13 := NB328_327.out
 have hcz14_0 : w8.cell? ⟨e9, 0, none⟩ = some (.int .i64 a0_0) := (blk_cell cZ.out 0).trans rfl
 have hcz14_1 : w8.cell? ⟨e9, 1, none⟩ = some (.int .i64 a0_1) := (blk_cell cZ.out 1).trans rfl
 have hcz14_2 : w8.cell? ⟨e9, 2, none⟩ = some (.int .u64 a0_2) := (blk_cell cZ.out 2).trans rfl
 have hcz14_3 : w8.cell? ⟨e9, 3, none⟩ = some (.slice A0_3 aY.length c0_3) := (blk_cell cZ.out 3).trans rfl
 have hcz14_4 : w8.cell? ⟨e9, 4, none⟩ = some (.slice A0_4 ay.length c0_4) := (blk_cell cZ.out 4).trans rfl
 have hfz14_0 := blk_frozen cZ.out 0
 have hfz14_1 := blk_frozen cZ.out 1
 have hfz14_2 := blk_frozen cZ.out 2
 have hfz14_3 := blk_frozen cZ.out 3
 have hfz14_4 := blk_frozen cZ.out 4
 have hcz15_0 : w8.cell? ⟨ew, 0, none⟩ = some (.int .i64 0) := (blk_cell ej.out 0).trans rfl
 have hcz15_1 : w8.cell? ⟨ew, 1, none⟩ = some (.int .i64 0) := (blk_cell ej.out 1).trans rfl
 have hcz15_2 : w8.cell? ⟨ew, 2, none⟩ = some (.int .u64 0) := (blk_cell ej.out 2).trans rfl
 have hcz15_3 : w8.cell? ⟨ew, 3, none⟩ = some (.slice none 0 0) := (blk_cell ej.out 3).trans rfl
 have hcz15_4 : w8.cell? ⟨ew, 4, none⟩ = some (.slice none 0 0) := (blk_cell ej.out 4).trans rfl
 have hfz15_0 := blk_frozen ej.out 0
 have hfz15_1 := blk_frozen ej.out 1
 have hfz15_2 := blk_frozen ej.out 2
 have hfz15_3 := blk_frozen ej.out 3
 have hfz15_4 := blk_frozen ej.out 4
 try go_wp2
 refine bodyPost_ret (results_cell_row rfl _ _ ew 33 #[.int .i64 a0_0, .int .i64 a0_1, .int .u64 a0_2, .slice Ao9 iD.length co9, .slice bX iE.length co11] (0, 0) _ rfl (by (with_reducible repeat (first | refine blk_drewN ?_ _ | refine blk_drew ?_ | refine blk_alloc ?_ _)); refine blk_put (cs := #[.int .i64 a0_0, .int .i64 a0_1, .int .u64 a0_2, .slice Ao9 iD.length co9, .slice none 0 0]) ?_ 4 _ rfl; (with_reducible repeat (first | refine blk_drewN ?_ _ | refine blk_drew ?_ | refine blk_alloc ?_ _)); refine blk_put (cs := #[.int .i64 a0_0, .int .i64 a0_1, .int .u64 a0_2, .slice none 0 0, .slice none 0 0]) ?_ 3 _ rfl; (with_reducible repeat (first | refine blk_drewN ?_ _ | refine blk_drew ?_ | refine blk_alloc ?_ _)); refine blk_put (cs := #[.int .i64 a0_0, .int .i64 a0_1, .int .u64 0, .slice none 0 0, .slice none 0 0]) ?_ 2 _ rfl; (with_reducible repeat (first | refine blk_drewN ?_ _ | refine blk_drew ?_ | refine blk_alloc ?_ _)); refine blk_put (cs := #[.int .i64 a0_0, .int .i64 0, .int .u64 0, .slice none 0 0, .slice none 0 0]) ?_ 1 _ rfl; (with_reducible repeat (first | refine blk_drewN ?_ _ | refine blk_drew ?_ | refine blk_alloc ?_ _)); refine blk_put (cs := #[.int .i64 0, .int .i64 0, .int .u64 0, .slice none 0 0, .slice none 0 0]) ?_ 0 _ rfl; (with_reducible repeat (first | refine blk_drewN ?_ _ | refine blk_drew ?_ | refine blk_alloc ?_ _)); refine blk_far ?_ NB328_327.out _; (with_reducible repeat (first | refine blk_drewN ?_ _ | refine blk_drew ?_ | refine blk_alloc ?_ _)); refine blk_far ?_ NB328_327.out _; (with_reducible repeat (first | refine blk_drewN ?_ _ | refine blk_drew ?_ | refine blk_alloc ?_ _)); exact ej.out) Try.underlying33 rfl p16z) rfl ?_
 exact ⟨_, _, p6z, by (with_reducible repeat (first | apply Kd.R_alloc | apply Kd.R_drewN | apply Kd.R_drew)); exact Kd.R_mono (Kd.R_far (p := ⟨ew, 4, none⟩) (Kd.R_far (p := ⟨ew, 3, none⟩) (Kd.R_far (p := ⟨ew, 2, none⟩) (Kd.R_far (p := ⟨ew, 1, none⟩) (Kd.R_far (p := ⟨ew, 0, none⟩) (Kd.R_far (p := ⟨e9, 4, none⟩) (Kd.R_far (p := ⟨e9, 3, none⟩) (Kd.R_types (Kd.R_types jN.out cZ.out (by decide)) ej.out (by decide)) (fun _ hk => hk.1.2) (.slice Ao9 iD.length co9)) (fun _ hk => hk.1.2) (.slice bX iE.length co11)) (fun _ hk => hk.2) (.int .i64 a0_0)) (fun _ hk => hk.2) (.int .i64 a0_1)) (fun _ hk => hk.2) (.int .u64 a0_2)) (fun _ hk => hk.2) (.slice Ao9 iD.length co9)) (fun _ hk => hk.2) (.slice bX iE.length co11)) (fun _ hk => hk.1.1.2), by (with_reducible repeat (first | apply Kd.R_alloc | apply Kd.R_drewN | apply Kd.R_drew)); exact Kd.R_mono (Kd.R_far (p := ⟨ew, 4, none⟩) (Kd.R_far (p := ⟨ew, 3, none⟩) (Kd.R_far (p := ⟨ew, 2, none⟩) (Kd.R_far (p := ⟨ew, 1, none⟩) (Kd.R_far (p := ⟨ew, 0, none⟩) (Kd.R_far (p := ⟨e9, 4, none⟩) (Kd.R_far (p := ⟨e9, 3, none⟩) (Kd.R_types (Kd.R_types HO334.out cZ.out (by decide)) ej.out (by decide)) (fun _ hk => hk.1.2) (.slice Ao9 iD.length co9)) (fun _ hk => hk.1.2) (.slice bX iE.length co11)) (fun _ hk => hk.2) (.int .i64 a0_0)) (fun _ hk => hk.2) (.int .i64 a0_1)) (fun _ hk => hk.2) (.int .u64 a0_2)) (fun _ hk => hk.2) (.slice Ao9 iD.length co9)) (fun _ hk => hk.2) (.slice bX iE.length co11)) (fun _ hk => hk.1.1.2), p109z⟩
end Go.Proofs.Ytbclejgljegfmaa.PAll
