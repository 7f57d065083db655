-- Written by this repo's program wip/tools/pr.py (over the kit's print) out of the translation. Not trusted: Lean checks it.
import Derived.Test.YtbclejgljegfmaaAp
import Derived.Test.YtbclejgljegfmaaPAllx0
import Derived.Test.YtbclejgljegfmaaGA
import Derived.Test.YtbclejgljegfmaaGN
import Derived.Test.YtbclejgljegfmaaHandBytes
import Derived.Test.YtbclejgljegfmaaHandWorks
set_option maxHeartbeats 8000000
set_option maxRecDepth 100000
namespace Go.Proofs.Ytbclejgljegfmaa.PAll
open Go.Proofs.Ytbclejgljegfmaa.Hand
open Go.RowKit Go.Proofs.YtbclejgljegfmaaW.PrintWords Go.Proofs.YtbclejgljegfmaaW.PrintLast Go.Proofs.YtbclejgljegfmaaW.PrintMore
attribute [local go_sem] max2_int min2_int max_two min_two max_three min_three max_four min_four   -- for this text's walks alone
attribute [-simp] List.length_take List.length_drop ByteArray.size_extract
set_option linter.unusedVariables false
set_option linter.unusedSimpArgs false

/-! ### ah: function 8 -/
mutual
def ah.j1 : Nat → List (S33) → Option (Bool)
  | 0, _ => none
  | k + 1, x3 => (dM.f x3).bind fun bt518 => ((ao.f k x3).bind fun kD => ((ab.f bt518.1 kD.1).bind fun kE => (if kE = true then (if bt518.2 = kD.2 then ((ac.f).bind fun iS => (some iS)) else (none)) else (none))))
def ah.l0 : Nat → List (S33) → List (S33) → Int → Option (Bool)
  | 0, _, _, _ => none
  | k + 1, x0, x3, x4 => if x4 < (x0.length : Int) then (if x4 < 40 then (if 0 ≤ x4 then (if 0 ≤ (mn (((rd_T33 x0 x4).f3).length : Int) 60) then (if (mn (((rd_T33 x0 x4).f3).length : Int) 60) ≤ (((rd_T33 x0 x4).f3).length : Int) then (if 0 ≤ (mn (((rd_T33 x0 x4).f4).length : Int) 60) then (if (mn (((rd_T33 x0 x4).f4).length : Int) 60) ≤ (((rd_T33 x0 x4).f4).length : Int) then ((cw.f ((rd_T33 x0 x4).f0) ((rd_T33 x0 x4).f1) ((rd_T33 x0 x4).f2) (((rd_T33 x0 x4).f3).take ((mn (((rd_T33 x0 x4).f3).length : Int) 60) : Int).toNat) (((rd_T33 x0 x4).f4).take ((mn (((rd_T33 x0 x4).f4).length : Int) 60) : Int).toNat)).bind fun bw => (if x3.length < 1954687338268 then (ah.l0 k x0 (x3 ++ [(⟨bw.1, bw.2.1, bw.2.2.1, bw.2.2.2.1, bw.2.2.2.2⟩ : S33)]) (wrap64 (x4 + 1))) else (none))) else (none)) else (none)) else (none)) else (none)) else (none)) else (ah.j1 k x3)) else (ah.j1 k x3)
end
def ah.f (k : Nat) (l0 : List (S33)) : Option (Bool) := ah.l0 k l0 ([] : List (S33)) 0
def ah.T6 : Bool × List (List Nat × List Nat) := (true, [([], []), ([0], [0]), ([], []), ([2], [2]), ([3], [3]), ([4], [4]), ([1, 5], [1, 5]), ([], []), ([7], [7]), ([], []), ([9], [9]), ([10], [10]), ([11], [11]), ([8, 12], [8, 12]), ([0, 1, 2, 3, 4, 5, 6, 7, 8, 9, 10], []), ([14, 6, 0, 1, 2, 3, 4, 5, 6, 7, 8, 9, 10], [6, 14]), ([0, 1, 2, 3, 4, 5, 6, 7, 8, 9, 10, 11, 12, 13, 14, 15], []), ([16, 13, 15, 0, 1, 2, 3, 4, 5, 6, 7, 8, 9, 10, 11, 12, 13, 14, 15], [13, 16])])
def ah.B6 : List Nat := [0, 1, 0, 4, 12, 28, 63, 0, 128, 0, 512, 1536, 3584, 8064, 2047, 18431, 65535, 131071]
theorem ah.tab6 : rtab .any (opsOf Try.f8 6) = ah.T6 := p16z
theorem ah.bits6 : waitsOk ah.T6.2 ah.B6 = true := p16z
theorem ah.calls (k : Nat) (A0 : Option Addr) (c0 : Nat) (l0 : List (S33)) (r : Bool) (w : World) (hr0 : Kd.C k33 w A0 l0.length l0) (hc0 : l0.length ≤ c0) (h : ah.f k l0 = some r) :
 Calls Try.prog 8 #[.slice A0 l0.length c0] w fun e w' => e = .returned (.bool r) ∧ Below w.heap.size w w' := by
 have hu33 := Try.underlying33
 have HR0 := Aside0.mk hr0
 have HC0 := Aside0.mk hc0
 clear hr0 hc0
 have HB := Aside0.mk (Below.refl w.heap.size w)
 have H : (ah.l0 k l0 ([] : List (S33)) 0) = some r := h
 clear h
 have HC2 := Aside0.mk H
 clear H
 go_enter Try.func8, Try.ntmps8
 go_upto_block 0 with (fail)
 go_cut [3] (fun v3 wc => ∃ (kq : Nat) (ey : List (S33)), Aside0 (ah.j1 kq ey = some r) ∧ Aside0 (kq ≤ k) ∧ Aside0 (Kd.S k33 33 wc w.heap.size (fun _ => True) v3 ey) ∧ Aside0 (Below w.heap.size w wc))
 case first =>
  have H := HC2.out
  clear HC2
  have H' := Aside0.mk H
  clear H
  go_wp2
  go_loopg [3, 4] k (fun kq v3 v4 w' => ∃ (ey : List (S33)) (aw : Int), v4 = .int .i64 aw ∧ Aside0 (ah.l0 kq l0 ey aw = some r) ∧ Aside0 (kq ≤ k) ∧ Aside0 (Kd.S k33 33 w' w.heap.size (fun _ => True) v3 ey) ∧ Aside0 (Below w.heap.size w w'))
  case atStart => exact ⟨(([] : List (S33))), (0), p21z, H', ⟨Nat.le_refl _⟩, ⟨p101z⟩, ⟨p0z⟩⟩
  case round =>
   clear H'
   obtain ⟨ey, aw, rfl, HA, HK1, cv, HB⟩ := hrel
   cases gk with
   | zero => exact absurd HA.out (by simp [ah.l0])
   | succ k1 =>
    have H := HA.out
    clear HA
    simp only [ah.l0] at H
    by_cases c3 : aw < (l0.length : Int)
    case neg =>
     rw [if_neg c3] at H
     have eh : decide (aw < (l0.length : Int)) = false := decide_eq_false c3
     clear c3
     (first | rw [eh] | (simp only [i64_w, i32_w]; rw [eh]) | skip)
     have H' := Aside0.mk H
     clear H
     go_wp2
     go_meet
     case rel => exact ⟨_, (ey), H', ⟨p241z⟩, ⟨p154z⟩, ⟨p0z⟩⟩
    rw [if_pos c3] at H
    have eh : decide (aw < (l0.length : Int)) = true := decide_eq_true c3
    clear c3
    (first | rw [eh] | (simp only [i64_w, i32_w]; rw [eh]) | skip)
    by_cases c4 : aw < 40
    case neg =>
     rw [if_neg c4] at H
     have gx : decide (aw < 40) = false := decide_eq_false c4
     clear c4
     have H' := Aside0.mk H
     clear H
     go_wp2
     go_meet
     case rel => exact ⟨_, (ey), H', ⟨p241z⟩, ⟨p154z⟩, ⟨p0z⟩⟩
    rw [if_pos c4] at H
    have gx : decide (aw < 40) = true := decide_eq_true c4
    clear c4
    by_cases c5 : 0 ≤ aw
    case neg =>
     rw [if_neg c5] at H
     exact absurd H (by simp)
    rw [if_pos c5] at H
    have gI : decide (0 ≤ aw) = true := decide_eq_true c5
    clear c5
    obtain ⟨ji6, hji6⟩ : ∃ j_ : Int, (mn (((rd_T33 l0 aw).f3).length : Int) 60) = j_ := ⟨_, rfl⟩
    replace H : (if 0 ≤ (ji6) then (if (ji6) ≤ (((rd_T33 l0 aw).f3).length : Int) then (if 0 ≤ (mn (((rd_T33 l0 aw).f4).length : Int) 60) then (if (mn (((rd_T33 l0 aw).f4).length : Int) 60) ≤ (((rd_T33 l0 aw).f4).length : Int) then ((cw.f ((rd_T33 l0 aw).f0) ((rd_T33 l0 aw).f1) ((rd_T33 l0 aw).f2) (((rd_T33 l0 aw).f3).take ((ji6) : Int).toNat) (((rd_T33 l0 aw).f4).take ((mn (((rd_T33 l0 aw).f4).length : Int) 60) : Int).toNat)).bind fun bw => (if ey.length < 1954687338268 then (ah.l0 k1 l0 (ey ++ [(⟨bw.1, bw.2.1, bw.2.2.1, bw.2.2.2.1, bw.2.2.2.2⟩ : S33)]) (wrap64 (aw + 1))) else (none))) else (none)) else (none)) else (none)) else (none)) = some r := by first | (rw [hji6] at H; exact H) | (simp only [hji6] at H ⊢; exact H)
    have hji6_ : (if 60 < (((rd_T33 l0 aw).f3).length : Int) then 60 else (((rd_T33 l0 aw).f3).length : Int)) = ji6 := hji6
    by_cases c7 : 0 ≤ (ji6)
    case neg =>
     rw [if_neg c7] at H
     exact absurd H (by simp)
    rw [if_pos c7] at H
    have fs := eq_true c7
    have c7b1 : decide (0 ≤ (ji6)) = true := decide_eq_true c7
    clear c7
    by_cases c8 : (ji6) ≤ (((rd_T33 l0 aw).f3).length : Int)
    case neg =>
     rw [if_neg c8] at H
     exact absurd H (by simp)
    rw [if_pos c8] at H
    have ij := eq_true c8
    have lz : decide ((ji6) ≤ (((rd_T33 l0 aw).f3).length : Int)) = true := decide_eq_true c8
    clear c8
    obtain ⟨ji9, hji9⟩ : ∃ j_ : Int, (mn (((rd_T33 l0 aw).f4).length : Int) 60) = j_ := ⟨_, rfl⟩
    replace H : (if 0 ≤ (ji9) then (if (ji9) ≤ (((rd_T33 l0 aw).f4).length : Int) then ((cw.f ((rd_T33 l0 aw).f0) ((rd_T33 l0 aw).f1) ((rd_T33 l0 aw).f2) (((rd_T33 l0 aw).f3).take ((ji6) : Int).toNat) (((rd_T33 l0 aw).f4).take ((ji9) : Int).toNat)).bind fun bw => (if ey.length < 1954687338268 then (ah.l0 k1 l0 (ey ++ [(⟨bw.1, bw.2.1, bw.2.2.1, bw.2.2.2.1, bw.2.2.2.2⟩ : S33)]) (wrap64 (aw + 1))) else (none))) else (none)) else (none)) = some r := by first | (rw [hji9] at H; exact H) | (simp only [hji9] at H ⊢; exact H)
    have hji9_ : (if 60 < (((rd_T33 l0 aw).f4).length : Int) then 60 else (((rd_T33 l0 aw).f4).length : Int)) = ji9 := hji9
    by_cases c10 : 0 ≤ (ji9)
    case neg =>
     rw [if_neg c10] at H
     exact absurd H (by simp)
    rw [if_pos c10] at H
    have mj := eq_true c10
    have c10b1 : decide (0 ≤ (ji9)) = true := decide_eq_true c10
    clear c10
    by_cases c11 : (ji9) ≤ (((rd_T33 l0 aw).f4).length : Int)
    case neg =>
     rw [if_neg c11] at H
     exact absurd H (by simp)
    rw [if_pos c11] at H
    have iJ := eq_true c11
    have je : decide ((ji9) ≤ (((rd_T33 l0 aw).f4).length : Int)) = true := decide_eq_true c11
    clear c11
    replace H := Option.bind_eq_some_iff.mp H
    obtain ⟨⟨cg, ck, cp, bE, bI⟩, A120, H⟩ := H
    replace H : (if ey.length < 1954687338268 then (ah.l0 k1 l0 (ey ++ [(⟨cg, ck, cp, bE, bI⟩ : S33)]) (wrap64 (aw + 1))) else (none)) = some r := H
    have A12 := Aside0.mk A120
    clear A120
    by_cases c13 : ey.length < 1954687338268
    case neg =>
     rw [if_neg c13] at H
     exact absurd H (by simp)
    rw [if_pos c13] at H
    have LMc13 := Aside0.mk c13
    clear c13
    obtain ⟨y515, hy515⟩ : ∃ y_ : List (S33), y_ = (ey ++ [(⟨cg, ck, cp, bE, bI⟩ : S33)]) := ⟨_, rfl⟩
    replace H : (ah.l0 k1 l0 y515 (wrap64 (aw + 1))) = some r := by first | (rw [hy515]; with_reducible exact H) | (have H2_ := (Option.bind_some _ _).symm.trans H; rw [hy515]; with_reducible exact H2_) | (have H2_ := (Option.bind_some _ _).symm.trans H; with_reducible exact H2_) | with_reducible exact H | (rw [hy515]; exact H) | exact H
    have Ny515 := Aside0.mk hy515
    clear hy515
    have H' := Aside0.mk H
    clear H
    have p502 : 0 ≤ (aw : Int) := of_decide_eq_true p10z
    have q502 : aw < (l0.length : Int) := of_decide_eq_true p10z
    obtain ⟨ad502, A502_3, c502_3, A502_4, c502_4, e502, hx502_0, hx502_1, hx502_2, hx502_3, hx502_4, hl502_3, hi502_3, hl502_4, hi502_4⟩ := at_T33 HR0.out aw p502 q502
    cases e502
    replace hx502_0 := (HB.out.cell (World.block_lt_of_cell? w _ hx502_0)).trans hx502_0
    replace hx502_1 := (HB.out.cell (World.block_lt_of_cell? w _ hx502_1)).trans hx502_1
    replace hx502_2 := (HB.out.cell (World.block_lt_of_cell? w _ hx502_2)).trans hx502_2
    replace hx502_3 := (HB.out.cell (World.block_lt_of_cell? w _ hx502_3)).trans hx502_3
    replace hx502_4 := (HB.out.cell (World.block_lt_of_cell? w _ hx502_4)).trans hx502_4
    have HR502_3 := Aside0.mk hi502_3
    have HC502_3 := Aside0.mk hl502_3
    clear hi502_3 hl502_3
    have HR502_4 := Aside0.mk hi502_4
    have HC502_4 := Aside0.mk hl502_4
    clear hi502_4 hl502_4
    replace p502 := eq_true p502
    replace q502 := eq_true q502
    try go_wp2_with (first | ((with_reducible refine gate_dst (N := 5) rfl ?_); refine box_event ?hg (N := 5) ?hd (cs := #[.int .i64 0, .int .i64 0, .int .u64 0, .slice none 0 0, .slice none 0 0]) (t := 33) ?hr ?_; (case hd => rfl); (case hg => rfl); (case hr => exact p22z); intro cb hg w14 hbox hb; have z_ := asi5 (Kd.S_below (Kd.S_elderB p154z cb (Nat.le_of_eq hg.symm)) hb) (below_step p0z hb) (hbox) ((p38z : w.heap.size ≤ cb)) ((p38z : w.heap.size ≤ cb)); clear cv HB; obtain ⟨cv, HB, cL, GW503, GE503⟩ := z_; clear hb hbox hg; have hcz15_0 : w14.cell? ⟨cb, 0, none⟩ = some (.int .i64 0) := (blk_cell cL.out 0).trans rfl; have hcz15_1 : w14.cell? ⟨cb, 1, none⟩ = some (.int .i64 0) := (blk_cell cL.out 1).trans rfl; have hcz15_2 : w14.cell? ⟨cb, 2, none⟩ = some (.int .u64 0) := (blk_cell cL.out 2).trans rfl; have hcz15_3 : w14.cell? ⟨cb, 3, none⟩ = some (.slice none 0 0) := (blk_cell cL.out 3).trans rfl; have hcz15_4 : w14.cell? ⟨cb, 4, none⟩ = some (.slice none 0 0) := (blk_cell cL.out 4).trans rfl; have hfz15_0 := blk_frozen cL.out 0; have hfz15_1 := blk_frozen cL.out 1; have hfz15_2 := blk_frozen cL.out 2; have hfz15_3 := blk_frozen cL.out 3; have hfz15_4 := blk_frozen cL.out 4))
    have n0_ : Aside0 (Kd.S k33 33 (((((w14.setCell ⟨cb, 0, none⟩ (.int .i64 ((rd_T33 l0 aw).f0))).setCell ⟨cb, 1, none⟩ (.int .i64 ((rd_T33 l0 aw).f1))).setCell ⟨cb, 2, none⟩ (.int .u64 ((rd_T33 l0 aw).f2))).setCell ⟨cb, 3, none⟩ (.slice A502_3 ((rd_T33 l0 aw).f3).length c502_3)).setCell ⟨cb, 4, none⟩ (.slice A502_4 ((rd_T33 l0 aw).f4).length c502_4)) w.heap.size (fun k_ => k_ ≠ cb) u3 ey) := ⟨by (with_reducible repeat (first | apply Kd.S_alloc | apply Kd.S_drewN | apply Kd.S_drew)); exact Kd.S_mono (Kd.S_far (p := ⟨cb, 4, none⟩) (Kd.S_far (p := ⟨cb, 3, none⟩) (Kd.S_far (p := ⟨cb, 2, none⟩) (Kd.S_far (p := ⟨cb, 1, none⟩) (Kd.S_far (p := ⟨cb, 0, none⟩) (Kd.S_mono cv.out (fun k_ hk => (⟨hk, hk.2⟩ : _ ∧ k_ ≠ cb))) (fun _ hk => hk.2) (.int .i64 ((rd_T33 l0 aw).f0))) (fun _ hk => hk.2) (.int .i64 ((rd_T33 l0 aw).f1))) (fun _ hk => hk.2) (.int .u64 ((rd_T33 l0 aw).f2))) (fun _ hk => hk.2) (.slice A502_3 ((rd_T33 l0 aw).f3).length c502_3)) (fun _ hk => hk.2) (.slice A502_4 ((rd_T33 l0 aw).f4).length c502_4)) (fun _ hk => hk.1.2)⟩
    have n1_ : Aside0 ((((((w14.setCell ⟨cb, 0, none⟩ (.int .i64 ((rd_T33 l0 aw).f0))).setCell ⟨cb, 1, none⟩ (.int .i64 ((rd_T33 l0 aw).f1))).setCell ⟨cb, 2, none⟩ (.int .u64 ((rd_T33 l0 aw).f2))).setCell ⟨cb, 3, none⟩ (.slice A502_3 ((rd_T33 l0 aw).f3).length c502_3)).setCell ⟨cb, 4, none⟩ (.slice A502_4 ((rd_T33 l0 aw).f4).length c502_4)).heap[cb]? = some (.cells #[.int .i64 ((rd_T33 l0 aw).f0), .int .i64 ((rd_T33 l0 aw).f1), .int .u64 ((rd_T33 l0 aw).f2), .slice A502_3 ((rd_T33 l0 aw).f3).length c502_3, .slice A502_4 ((rd_T33 l0 aw).f4).length c502_4] 33 (0, 0))) := ⟨by (with_reducible repeat (first | refine blk_drewN ?_ _ | refine blk_drew ?_ | refine blk_alloc ?_ _)); refine blk_put (cs := #[.int .i64 ((rd_T33 l0 aw).f0), .int .i64 ((rd_T33 l0 aw).f1), .int .u64 ((rd_T33 l0 aw).f2), .slice A502_3 ((rd_T33 l0 aw).f3).length c502_3, .slice none 0 0]) ?_ 4 _ rfl; (with_reducible repeat (first | refine blk_drewN ?_ _ | refine blk_drew ?_ | refine blk_alloc ?_ _)); refine blk_put (cs := #[.int .i64 ((rd_T33 l0 aw).f0), .int .i64 ((rd_T33 l0 aw).f1), .int .u64 ((rd_T33 l0 aw).f2), .slice none 0 0, .slice none 0 0]) ?_ 3 _ rfl; (with_reducible repeat (first | refine blk_drewN ?_ _ | refine blk_drew ?_ | refine blk_alloc ?_ _)); refine blk_put (cs := #[.int .i64 ((rd_T33 l0 aw).f0), .int .i64 ((rd_T33 l0 aw).f1), .int .u64 0, .slice none 0 0, .slice none 0 0]) ?_ 2 _ rfl; (with_reducible repeat (first | refine blk_drewN ?_ _ | refine blk_drew ?_ | refine blk_alloc ?_ _)); refine blk_put (cs := #[.int .i64 ((rd_T33 l0 aw).f0), .int .i64 0, .int .u64 0, .slice none 0 0, .slice none 0 0]) ?_ 1 _ rfl; (with_reducible repeat (first | refine blk_drewN ?_ _ | refine blk_drew ?_ | refine blk_alloc ?_ _)); refine blk_put (cs := #[.int .i64 0, .int .i64 0, .int .u64 0, .slice none 0 0, .slice none 0 0]) ?_ 0 _ rfl; (with_reducible repeat (first | refine blk_drewN ?_ _ | refine blk_drew ?_ | refine blk_alloc ?_ _)); exact cL.out⟩
    have n2_ : Aside0 (Below w.heap.size w (((((w14.setCell ⟨cb, 0, none⟩ (.int .i64 ((rd_T33 l0 aw).f0))).setCell ⟨cb, 1, none⟩ (.int .i64 ((rd_T33 l0 aw).f1))).setCell ⟨cb, 2, none⟩ (.int .u64 ((rd_T33 l0 aw).f2))).setCell ⟨cb, 3, none⟩ (.slice A502_3 ((rd_T33 l0 aw).f3).length c502_3)).setCell ⟨cb, 4, none⟩ (.slice A502_4 ((rd_T33 l0 aw).f4).length c502_4))) := ⟨p68z⟩
    (try clear cv)
    (try clear cL)
    (try clear HB)
    generalize (((((w14.setCell ⟨cb, 0, none⟩ (.int .i64 ((rd_T33 l0 aw).f0))).setCell ⟨cb, 1, none⟩ (.int .i64 ((rd_T33 l0 aw).f1))).setCell ⟨cb, 2, none⟩ (.int .u64 ((rd_T33 l0 aw).f2))).setCell ⟨cb, 3, none⟩ (.slice A502_3 ((rd_T33 l0 aw).f3).length c502_3)).setCell ⟨cb, 4, none⟩ (.slice A502_4 ((rd_T33 l0 aw).f4).length c502_4)) = w16 at n0_ n1_ n2_ ⊢
    have cv := n0_
    have cL := n1_
    have HB := n2_
    clear n0_ n1_ n2_
    have n0_ := Aside0.mk (Kd.S_drew cv.out)
    have n1_ := Aside0.mk (blk_drew cL.out)
    have n2_ := Aside0.mk (below_drew1 HB.out)
    clear cv
    clear cL
    clear HB
    have cv := n0_
    have cL := n1_
    have HB := n2_
    clear n0_ n1_ n2_
    obtain ⟨i018, hi018, _, hsz18, _⟩ := info_parts info5
    obtain ⟨hcut18, hA18, hC18⟩ := print_take_of (P := Try.prog) (Value.int .u8) 0 22 5 .i64 Try.underlying22 hi018 hsz18 A502_3 c502_3 ((rd_T33 l0 aw).f3) (ji6) (of_decide_eq_true p10z) (of_decide_eq_true p10z) HC502_3.out
    have HR504 := Aside0.mk (Kd.C_of_reads (h1 := fun _ => rfl) (hA18 _ (Kd.reads_of_C HR502_3.out)))
    have HC504 := Aside0.mk hC18
    clear hA18 hC18 hi018 hsz18
    obtain ⟨i019, hi019, _, hsz19, _⟩ := info_parts info5
    obtain ⟨hcut19, hA19, hC19⟩ := print_take_of (P := Try.prog) (Value.int .u8) 0 22 5 .i64 Try.underlying22 hi019 hsz19 A502_4 c502_4 ((rd_T33 l0 aw).f4) (ji9) (of_decide_eq_true p10z) (of_decide_eq_true p10z) HC502_4.out
    have HR505 := Aside0.mk (Kd.C_of_reads (h1 := fun _ => rfl) (hA19 _ (Kd.reads_of_C HR502_4.out)))
    have HC505 := Aside0.mk hC19
    clear hA19 hC19 hi019 hsz19
    refine start_ (n := 18) (S := fun w' => w'.cell? ⟨cb, 0, none⟩ = some (.int .i64 ((rd_T33 l0 aw).f0)) ∧ w'.cell? ⟨cb, 1, none⟩ = some (.int .i64 ((rd_T33 l0 aw).f1)) ∧ w'.cell? ⟨cb, 2, none⟩ = some (.int .u64 ((rd_T33 l0 aw).f2)) ∧ w'.cell? ⟨cb, 3, none⟩ = some (.slice A502_3 ((rd_T33 l0 aw).f3).length c502_3) ∧ w'.cell? ⟨cb, 4, none⟩ = some (.slice A502_4 ((rd_T33 l0 aw).f4).length c502_4)) (ds := [15, 17]) (tf 0 18) p16z rfl rfl ⟨(blk_cell cL.out 0).trans rfl, (blk_cell cL.out 1).trans rfl, (blk_cell cL.out 2).trans rfl, (blk_cell cL.out 3).trans rfl, (blk_cell cL.out 4).trans rfl⟩ (fun hHeld => ?_); refine with_tabW ah.tab6 ah.bits6 (fun HT_ HW_ => ?_)
    generalize w16.drew = w17 at cv cL HB HR504 HR505 hHeld ⊢
    refine pure_ (i := 0) (N := some 24) (v := ?_) (a' := ?_) (tf 1 17) rfl rfl (any_of HT_.out p16z) (fun _ _ _ h => h) (Or.inl ⟨by rfl, ?_⟩) ?_ ?_
    rotate_left
    ·intro w'
     go_simp
     with_reducible rfl
    rotate_left
    ·exact p1z
    refine pure_ (i := 2) (N := some 26) (v := ?_) (a' := ?_) (tfs true [1, 1, 1, 15]) rfl rfl (any_of HT_.out p16z) (fun _ _ _ h => h) (Or.inl ⟨by rfl, ?_⟩) ?_ ?_
    rotate_left
    ·intro w'
     go_simp
     with_reducible rfl
    rotate_left
    ·exact p1z
    refine pure_ (i := 7) (N := some 31) (v := ?_) (a' := ?_) (tfs true [1, 1, 1, 4, 1, 10]) rfl rfl (any_of HT_.out p16z) (fun _ _ _ h => h) (Or.inl ⟨by rfl, ?_⟩) ?_ ?_
    rotate_left
    ·intro w'
     go_simp
     with_reducible rfl
    rotate_left
    ·exact p1z
    refine pure_ (i := 9) (N := some 33) (v := ?_) (a' := ?_) (tfs true [1, 1, 1, 4, 1, 1, 1, 8]) rfl rfl (any_of HT_.out p16z) (fun _ _ _ h => h) (Or.inl ⟨by rfl, ?_⟩) ?_ ?_
    rotate_left
    ·intro w'
     go_simp
     with_reducible rfl
    rotate_left
    ·exact p1z
    refine take_ (i := 1) (N := some 25) (v := ?_) (a' := ?_) (tfs true [3, 4, 1, 1, 1, 8]) rfl rfl (take_ofW HT_.out HW_.out p16z) (fun _ _ _ h => h) (Or.inl ⟨by rfl, ?_⟩) hHeld ?_ ?_
    rotate_left
    ·rintro w' ⟨s0, s1, s2, s3, s4⟩
     go_simp
     with_reducible rfl
    rotate_left
    ·exact p1z
    refine take_ (i := 3) (N := some 27) (v := ?_) (a' := ?_) (tfs true [4, 3, 1, 1, 1, 8]) rfl rfl (take_ofW HT_.out HW_.out p16z) (fun _ _ _ h => h) (Or.inl ⟨by rfl, ?_⟩) hHeld ?_ ?_
    rotate_left
    ·rintro w' ⟨s0, s1, s2, s3, s4⟩
     go_simp
     with_reducible rfl
    rotate_left
    ·exact p1z
    refine pure_ (i := 4) (N := some 28) (v := ?_) (a' := ?_) (tfs true [5, 2, 1, 1, 1, 8]) rfl rfl (any_of HT_.out p16z) (fun _ _ _ h => h) (Or.inl ⟨by rfl, ?_⟩) ?_ ?_
    rotate_left
    ·intro w'
     go_simp
     with_reducible rfl
    rotate_left
    ·exact p1z
    refine pure_ (i := 5) (N := some 29) (v := ?_) (a' := ?_) (tfs true [6, 1, 1, 1, 1, 8]) rfl rfl (any_of HT_.out p16z) (fun _ _ _ h => h) (Or.inl ⟨by rfl, ?_⟩) ?_ ?_
    rotate_left
    ·intro w'
     go_simp
     with_reducible rfl
    rotate_left
    ·exact p1z
    refine pure_ (i := 6) (N := some 30) (v := ?_) (a' := ?_) (tfs true [8, 1, 1, 8]) rfl rfl (any_of HT_.out p16z) (fun _ _ _ h => h) (Or.inl ⟨by rfl, ?_⟩) ?_ ?_
    rotate_left
    ·intro w'
     go_simp
     with_reducible rfl
    rotate_left
    ·exact p1z
    refine take_ (i := 8) (N := some 32) (v := ?_) (a' := ?_) (tf 10 8) rfl rfl (take_ofW HT_.out HW_.out p16z) (fun _ _ _ h => h) (Or.inl ⟨by rfl, ?_⟩) hHeld ?_ ?_
    rotate_left
    ·rintro w' ⟨s0, s1, s2, s3, s4⟩
     go_simp
     with_reducible rfl
    rotate_left
    ·exact p1z
    refine take_ (i := 10) (N := some 34) (v := ?_) (a' := ?_) (tf 11 7) rfl rfl (take_ofW HT_.out HW_.out p16z) (fun _ _ _ h => h) (Or.inl ⟨by rfl, ?_⟩) hHeld ?_ ?_
    rotate_left
    ·rintro w' ⟨s0, s1, s2, s3, s4⟩
     go_simp
     with_reducible rfl
    rotate_left
    ·exact p1z
    refine pure_ (i := 11) (N := some 35) (v := ?_) (a' := ?_) (tf 12 6) rfl rfl (any_of HT_.out p16z) (fun _ _ _ h => h) (Or.inl ⟨by rfl, ?_⟩) ?_ ?_
    rotate_left
    ·intro w'
     go_simp
     with_reducible rfl
    rotate_left
    ·exact p1z
    refine pure_ (i := 12) (N := some 36) (v := ?_) (a' := ?_) (tf 13 5) rfl rfl (any_of HT_.out p16z) (fun _ _ _ h => h) (Or.inl ⟨by rfl, ?_⟩) ?_ ?_
    rotate_left
    ·intro w'
     go_simp
     with_reducible rfl
    rotate_left
    ·exact p1z
    refine pure_ (i := 13) (N := some 37) (v := ?_) (a' := ?_) (tf 14 4) rfl rfl (any_of HT_.out p16z) (fun _ _ _ h => h) (Or.inl ⟨by rfl, ?_⟩) ?_ ?_
    rotate_left
    ·intro w'
     go_simp
     with_reducible rfl
    rotate_left
    ·exact p1z
    refine pure_ (i := 14) (N := some 38) (v := ?_) (a' := ?_) (tf 15 3) rfl rfl (any_of HT_.out p16z) (fun _ _ _ h => h) (Or.inl ⟨by rfl, ?_⟩) ?_ ?_
    rotate_left
    ·intro w'
     go_simp
     with_reducible rfl
    rotate_left
    ·exact p1z
    refine last_ (i := 15) (N := none) (tf 16 2) rfl rfl (one_of HT_.out p16z) (by decide) (fun K hK => ?_)
    have hs20 : w17.cell? ⟨cb, 3, none⟩ = some (.slice A502_3 ((rd_T33 l0 aw).f3).length c502_3) := (blk_cell cL.out 3).trans rfl
    have hfs20 := blk_frozen cL.out 3
    refine skip_ (w1 := ?_) (by rfl) rfl ?_ ?_
    rotate_left
    ·go_simp
     rfl
    refine hK.out _ _ ?_
    clear hK K
    refine pure_ (i := 16) (N := some 39) (v := ?_) (a' := ?_) (tf 17 1) rfl rfl (any_of HT_.out p16z) (fun _ _ _ h => h) (Or.inl ⟨by rfl, ?_⟩) ?_ ?_
    rotate_left
    ·intro w'
     go_simp
     with_reducible rfl
    rotate_left
    ·exact p1z
    refine last_ (i := 17) (N := none) (tf 18 0) rfl rfl (one_of HT_.out p16z) (by decide) (fun K hK => ?_)
    have hs21 : w17.cell? ⟨cb, 4, none⟩ = some (.slice A502_4 ((rd_T33 l0 aw).f4).length c502_4) := (blk_cell cL.out 4).trans rfl
    have hfs21 := blk_frozen cL.out 4
    refine skip_ (w1 := ?_) (by rfl) rfl ?_ ?_
    rotate_left
    ·go_simp
     rfl
    refine hK.out _ _ ?_
    clear hK K
    refine done_ (done_of HT_.out p16z) ?_
    have hcz22_0 : w17.cell? ⟨cb, 0, none⟩ = some (.int .i64 ((rd_T33 l0 aw).f0)) := (blk_cell cL.out 0).trans rfl
    have hcz22_1 : w17.cell? ⟨cb, 1, none⟩ = some (.int .i64 ((rd_T33 l0 aw).f1)) := (blk_cell cL.out 1).trans rfl
    have hcz22_2 : w17.cell? ⟨cb, 2, none⟩ = some (.int .u64 ((rd_T33 l0 aw).f2)) := (blk_cell cL.out 2).trans rfl
    have hcz22_3 : w17.cell? ⟨cb, 3, none⟩ = some (.slice A502_3 ((rd_T33 l0 aw).f3).length c502_3) := (blk_cell cL.out 3).trans rfl
    have hcz22_4 : w17.cell? ⟨cb, 4, none⟩ = some (.slice A502_4 ((rd_T33 l0 aw).f4).length c502_4) := (blk_cell cL.out 4).trans rfl
    have hfz22_0 := blk_frozen cL.out 0
    have hfz22_1 := blk_frozen cL.out 1
    have hfz22_2 := blk_frozen cL.out 2
    have hfz22_3 := blk_frozen cL.out 3
    have hfz22_4 := blk_frozen cL.out 4
    try go_wp2_with (first | ((with_reducible refine gate_callee (f := 38) rfl ?_); refine goesL_ (some 42) rfl rfl Try.func38 p16z rfl #[.agg #[.int .i64 ((rd_T33 l0 aw).f0), .int .i64 ((rd_T33 l0 aw).f1), .int .u64 ((rd_T33 l0 aw).f2), .slice A502_3 (((rd_T33 l0 aw).f3).take ((ji6) : Int).toNat).length c502_3, .slice A502_4 (((rd_T33 l0 aw).f4).take ((ji9) : Int).toNat).length c502_4]] rfl (by (try simp only [List.map_toArray, List.map_cons, List.map_nil]); first | done | (rw [show (((rd_T33 l0 aw).f3).take ((ji6) : Int).toNat).length = (ji6).toNat from (by rw [List.length_take]; have h_ : ((ji6) : Int) ≤ (((rd_T33 l0 aw).f3).length : Int) := of_decide_eq_true p10z; omega)] <;> rfl) | (rw [show (((rd_T33 l0 aw).f4).take ((ji9) : Int).toNat).length = (ji9).toNat from (by rw [List.length_take]; have h_ : ((ji9) : Int) ≤ (((rd_T33 l0 aw).f4).length : Int) := of_decide_eq_true p10z; omega)] <;> rfl) | (simp only [hji6, hji9]; rfl) | ((try have hl0_ := (show (((rd_T33 l0 aw).f3).take ((ji6) : Int).toNat).length = (ji6).toNat from (by rw [List.length_take]; have h_ : ((ji6) : Int) ≤ (((rd_T33 l0 aw).f3).length : Int) := of_decide_eq_true p10z; omega))); (try have hl1_ := (show (((rd_T33 l0 aw).f4).take ((ji9) : Int).toNat).length = (ji9).toNat from (by rw [List.length_take]; have h_ : ((ji9) : Int) ≤ (((rd_T33 l0 aw).f4).length : Int) := of_decide_eq_true p10z; omega))); (try simp only [wrap64] at hji6 hji9); simp only [Array.mk.injEq, List.cons.injEq, Value.int.injEq, Value.slice.injEq, and_true, true_and]; omega) | rfl | (simp only [List.length_drop, List.length_take]; rfl)) ?_; (with_reducible refine (cw.calls ((rd_T33 l0 aw).f0) ((rd_T33 l0 aw).f1) ((rd_T33 l0 aw).f2) _ _ (((rd_T33 l0 aw).f3).take ((ji6) : Int).toNat) _ _ (((rd_T33 l0 aw).f4).take ((ji9) : Int).toNat) cg ck cp bE bI _ ?side1 ?side2 ?side3 ?side4 A12.out).mono ?_); (case side1 => exact Kd.C_below HR504.out p68z); (case side2 => exact HC504.out); (case side3 => exact Kd.C_below HR505.out p68z); (case side4 => exact HC505.out); rintro e w23 ⟨v510, v513, rfl, ho0, ho1, hb⟩; refine ⟨_, rfl, ?_⟩; have z_ := asi5 (Kd.S_mono (Kd.S_told (Kd.S_told (Kd.S_old (by (with_reducible repeat (first | apply Kd.S_alloc | apply Kd.S_drewN | apply Kd.S_drew)); exact (Kd.S_mono (Kd.S_far (p := ⟨cb, 4, none⟩) (Kd.S_far (p := ⟨cb, 3, none⟩) (Kd.S_mono cv.out (fun k_ hk => (⟨hk, hk⟩ : _ ∧ k_ ≠ cb))) (fun _ hk => hk.2) (.slice A502_3 (((rd_T33 l0 aw).f3).take ((ji6) : Int).toNat).length c502_3)) (fun _ hk => hk.2) (.slice A502_4 (((rd_T33 l0 aw).f4).take ((ji9) : Int).toNat).length c502_4)) (fun _ h_ => h_.1))) hb) (Kd.R_base ho0)) (Kd.R_base ho1)) (fun _ h_ => h_.1)) (Kd.R_lower ho0 (below_size p68z)) (Kd.R_lower ho1 (below_size p68z)) (blk_below (g := cb) (o := .cells #[.int .i64 ((rd_T33 l0 aw).f0), .int .i64 ((rd_T33 l0 aw).f1), .int .u64 ((rd_T33 l0 aw).f2), .slice A502_3 (((rd_T33 l0 aw).f3).take ((ji6) : Int).toNat).length c502_3, .slice A502_4 (((rd_T33 l0 aw).f4).take ((ji9) : Int).toNat).length c502_4] 33 (0, 0)) (by (with_reducible repeat (first | refine blk_drewN ?_ _ | refine blk_drew ?_ | refine blk_alloc ?_ _)); refine blk_put (cs := #[.int .i64 ((rd_T33 l0 aw).f0), .int .i64 ((rd_T33 l0 aw).f1), .int .u64 ((rd_T33 l0 aw).f2), .slice A502_3 (((rd_T33 l0 aw).f3).take ((ji6) : Int).toNat).length c502_3, .slice A502_4 ((rd_T33 l0 aw).f4).length c502_4]) ?_ 4 _ rfl; (with_reducible repeat (first | refine blk_drewN ?_ _ | refine blk_drew ?_ | refine blk_alloc ?_ _)); refine blk_put (cs := #[.int .i64 ((rd_T33 l0 aw).f0), .int .i64 ((rd_T33 l0 aw).f1), .int .u64 ((rd_T33 l0 aw).f2), .slice A502_3 ((rd_T33 l0 aw).f3).length c502_3, .slice A502_4 ((rd_T33 l0 aw).f4).length c502_4]) ?_ 3 _ rfl; (with_reducible repeat (first | refine blk_drewN ?_ _ | refine blk_drew ?_ | refine blk_alloc ?_ _)); exact cL.out) hb) (below_step p68z hb); clear cv cL HB; obtain ⟨cv, g8, g9, cL, HB⟩ := z_; (try clear hb hk ho0 ho1); obtain ⟨lD, co25, eo25⟩ := Kd.R_slice g8.out; subst eo25; obtain ⟨Ao26, co26, eo26⟩ := Kd.R_slice g9.out; subst eo26) | ((with_reducible refine gate_builtin (b := .append) (xs := #[.tmp 40, .tmp 43]) rfl ?_); at_builtin; refine Kd.S_append k33 (w0 := w) w.heap.size rfl (.tmp 40) (.tmp 43) 37 33 (.agg #[(.int .i64 0), (.int .i64 0), (.int .u64 0), (.slice none 0 0), (.slice none 0 0)]) 72 rfl Try.underlying37 info33 rfl (by decide) (by omega) u3 ey (⟨cg, ck, cp, bE, bI⟩ : S33) [.int .i64 cg, .int .i64 ck, .int .u64 cp, .slice lD bE.length co25, .slice Ao26 bI.length co26] (fun k_ => k_ ≠ cb) (fun k_ => some k_ = (.slice lD bE.length co25 : Value).ownBlock ∨ some k_ = (.slice Ao26 bI.length co26 : Value).ownBlock) rfl rfl ?aP (fun k_ hk_ => hk_.elim (fun h_ => ((Kd.R_mono (ok' := fun k_ => ((fun k_ => k_ ≠ cb)) k_ ∧ some k_ ≠ (u3 : Value).ownBlock) (Kd.R_types (Kd.R_apart' (g8.out) (Kd.S_typed cv.out) (by decide)) cL.out (by decide)) (fun k_ hk => ⟨hk.2, hk.1.2⟩))).1 k_ h_.symm) (fun h_ => ((Kd.R_mono (ok' := fun k_ => ((fun k_ => k_ ≠ cb)) k_ ∧ some k_ ≠ (u3 : Value).ownBlock) (Kd.R_types (Kd.R_apart' (g9.out) (Kd.S_typed cv.out) (by decide)) cL.out (by decide)) (fun k_ hk => ⟨hk.2, hk.1.2⟩))).1 k_ h_.symm)) ?aF ?aO ?aB ?aS ?aL ?_; (case aP => exact k33_mkM _ _ _ (⟨cg, ck, cp, bE, bI⟩ : S33) (Kd.R_mono (Kd.R_tight rfl (Kd.R_mono (ok' := fun k_ => ((fun k_ => k_ ≠ cb)) k_ ∧ some k_ ≠ (u3 : Value).ownBlock) (Kd.R_types (Kd.R_apart' (g8.out) (Kd.S_typed cv.out) (by decide)) cL.out (by decide)) (fun k_ hk => ⟨hk.2, hk.1.2⟩))) (fun _ h_ => Or.inl h_)) (Kd.R_mono (Kd.R_tight rfl (Kd.R_mono (ok' := fun k_ => ((fun k_ => k_ ≠ cb)) k_ ∧ some k_ ≠ (u3 : Value).ownBlock) (Kd.R_types (Kd.R_apart' (g9.out) (Kd.S_typed cv.out) (by decide)) cL.out (by decide)) (fun k_ hk => ⟨hk.2, hk.1.2⟩))) (fun _ h_ => Or.inr (h_)))); (case aB => exact p68z); (case aF => exact (fun k_ hk => Kd.freshB (g := cb) (o := .cells #[.int .i64 ((rd_T33 l0 aw).f0), .int .i64 ((rd_T33 l0 aw).f1), .int .u64 ((rd_T33 l0 aw).f2), .slice A502_3 (((rd_T33 l0 aw).f3).take ((ji6) : Int).toNat).length c502_3, .slice A502_4 (((rd_T33 l0 aw).f4).take ((ji9) : Int).toNat).length c502_4] 33 (0, 0)) (q1z cL.out) k_ hk)); (case aO => exact (by (with_reducible repeat (first | apply Kd.S_alloc | apply Kd.S_drewN | apply Kd.S_drew)); exact Kd.S_mono cv.out (fun k_ hk => ⟨hk.1.1, fun e_ => e_.elim (fun h_ => hk.1.2 h_) (fun h_ => hk.2 h_)⟩))); (case aS => exact (below_size p68z)); (case aL => have := LMc13.out; omega); intro v516 w24 ho hb hg hat; rw [← Ny515.out] at ho; have z_ := asi3 (blk_grown (g := cb) (o := .cells #[.int .i64 ((rd_T33 l0 aw).f0), .int .i64 ((rd_T33 l0 aw).f1), .int .u64 ((rd_T33 l0 aw).f2), .slice A502_3 (((rd_T33 l0 aw).f3).take ((ji6) : Int).toNat).length c502_3, .slice A502_4 (((rd_T33 l0 aw).f4).take ((ji9) : Int).toNat).length c502_4] 33 (0, 0)) (q1z cL.out) hg (Kd.S_away cv.out (fun _ hk => hk.1.1))) (hb) (ho); clear cL HB cv g8 g9; obtain ⟨cL, HB, HO517⟩ := z_; clear ho hb hg hat))
    go_roundg k1
    case measure => have := HK1.out; omega
    case rel => exact ⟨(y515), (wrap64 (aw + 1)), p21z, H', ⟨p217z⟩, ⟨by (with_reducible repeat (first | apply Kd.S_alloc | apply Kd.S_drewN | apply Kd.S_drew)); exact Kd.S_mono HO517.out (fun _ hk => trivial)⟩, ⟨p68z⟩⟩
 case rest =>
  clear HC2
  obtain ⟨kq, ey, HA, HJ1, cv, HB⟩ := hcut
  cases kq with
  | zero => exact absurd HA.out (by simp [ah.j1])
  | succ kj1 =>
   have H := HA.out
   clear HA
   simp only [ah.j1] at H
   replace H := Option.bind_eq_some_iff.mp H
   obtain ⟨⟨fv, cy⟩, A270, H⟩ := H
   replace H : ((ao.f kj1 ey).bind fun kD => ((ab.f fv kD.1).bind fun kE => (if kE = true then (if cy = kD.2 then ((ac.f).bind fun iS => (some iS)) else (none)) else (none)))) = some r := H
   have A27 := Aside0.mk A270
   clear A270
   replace H := Option.bind_eq_some_iff.mp H
   obtain ⟨⟨cA, kW⟩, A280, H⟩ := H
   replace H : ((ab.f fv cA).bind fun kE => (if kE = true then (if cy = kW then ((ac.f).bind fun iS => (some iS)) else (none)) else (none))) = some r := H
   have A28 := Aside0.mk A280
   clear A280
   replace H := Option.bind_eq_some_iff.mp H
   obtain ⟨kE, A290, H⟩ := H
   replace H : (if kE = true then (if cy = kW then ((ac.f).bind fun iS => (some iS)) else (none)) else (none)) = some r := H
   have A29 := Aside0.mk A290
   clear A290
   by_cases c30 : kE = true
   case neg =>
    replace c30 := Bool.eq_false_iff.mpr c30
    subst c30
    have H1 : (none) = some r := p42z
    clear H
    have H := H1
    clear H1
    exact absurd H (by simp)
   subst c30
   have H1 : (if cy = kW then ((ac.f).bind fun iS => (some iS)) else (none)) = some r := p99z
   clear H
   have H := H1
   clear H1
   by_cases c31 : cy = kW
   case neg =>
    rw [if_neg c31] at H
    exact absurd H (by simp)
   rw [if_pos c31] at H
   have kC : (cy == kW) = true := beq_iff_eq.mpr c31
   have c31b1 : (cy != kW) = false := bne_eq_false_iff_eq.mpr c31
   clear c31
   replace H := Option.bind_eq_some_iff.mp H
   obtain ⟨iS, A320, H⟩ := H
   replace H : (some iS) = some r := H
   have A32 := Aside0.mk A320
   clear A320
   obtain rfl := Option.some.inj H
   obtain ⟨lF, co33, eo33⟩ := Kd.S_slice cv.out
   subst eo33
   go_wp2_with (first | ((with_reducible refine gate_callee (f := 39) rfl ?_); refine goesL_ (some 47) rfl rfl Try.func39 p16z rfl #[.slice lF ey.length co33] rfl p2z ?_; (with_reducible refine (dM.calls _ _ ey fv cy _ ?side1 ?side2 A27.out).mono ?_); (case side1 => exact p237z); (case side2 => exact (Kd.S_reads' cv.out).2.1); rintro e w34 ⟨v520, rfl, ho0, hb⟩; refine ⟨_, rfl, ?_⟩; have z_ := asi3 (Kd.S_elder' p154z (Kd.R_base ho0) hb) (Kd.R_lower ho0 (below_size p0z)) (below_step p0z hb); clear cv HB; obtain ⟨cv, iL, HB⟩ := z_; (try clear hb ho0)) | ((with_reducible refine gate_callee (f := 40) rfl ?_); refine goesL_ (some 52) rfl rfl Try.func40 p16z rfl #[.slice lF ey.length co33] rfl p2z ?_; (with_reducible refine (ao.calls kj1 _ _ ey cA kW _ ?side1 ?side2 A28.out).mono ?_); (case side1 => exact p237z); (case side2 => exact (Kd.S_reads' cv.out).2.1); rintro e w35 ⟨v524, rfl, ho0, hb⟩; refine ⟨_, rfl, ?_⟩; have z_ := asi4 (Kd.S_elder' p154z (Kd.R_base ho0) hb) (Kd.R_elder' p213z (Kd.R_base ho0) hb) (Kd.R_lower (Kd.R_new' ho0 (Kd.R_lt p213z)) (below_size p0z)) (below_step p0z hb); clear cv iL HB; obtain ⟨cv, iL, jQ, HB⟩ := z_; (try clear hb ho0); obtain ⟨Ao36, co36, eo36⟩ := Kd.R_slice iL.out; subst eo36; obtain ⟨Ao37, co37, eo37⟩ := Kd.R_slice jQ.out; subst eo37) | ((with_reducible refine gate_callee (f := 14) rfl ?_); refine goesL_ (some 57) rfl rfl Try.func14 p16z rfl #[.slice Ao36 fv.length co36, .slice Ao37 cA.length co37] rfl p2z ?_; (with_reducible refine (ab.calls _ _ fv _ _ cA true _ ?side1 ?side2 ?side3 ?side4 A29.out).mono ?_); (case side1 => repeat (first | exact (Kd.R_reads' iL.out).2.2 | (with_reducible refine Kd.C_alloc ?_ _) | (with_reducible refine Kd.C_drewN ?_ _) | (with_reducible refine Kd.C_drew ?_))); (case side2 => exact (Kd.R_reads' iL.out).2.1); (case side3 => repeat (first | exact (Kd.R_reads' jQ.out).2.2 | (with_reducible refine Kd.C_alloc ?_ _) | (with_reducible refine Kd.C_drewN ?_ _) | (with_reducible refine Kd.C_drew ?_))); (case side4 => exact (Kd.R_reads' jQ.out).2.1); rintro e w' ⟨rfl, ⟨nd, rfl⟩⟩; refine ⟨_, rfl, ?_⟩) | (go_at_call 22; (with_reducible refine (ac.calls  iS _ A32.out).mono ?_); rintro e w38 ⟨rfl, hb⟩; have z_ := asi4 (Kd.S_below p154z hb) (Kd.R_below p213z hb) (Kd.R_below (q0z jQ.out) hb) (below_step p0z hb); clear cv iL jQ HB; obtain ⟨cv, iL, jQ, HB⟩ := z_; (try clear hb)))
   go_ret
   exact ⟨p6z, p0z⟩
end Go.Proofs.Ytbclejgljegfmaa.PAll
