-- Written by this repo's program wip/tools/pr.py (over the kit's print) out of the translation. Not trusted: Lean checks it.
import Derived.Test.YtbclejgljegfmaaAp
import Derived.Test.YtbclejgljegfmaaPAllx0
import Derived.Test.YtbclejgljegfmaaGE
import Derived.Test.YtbclejgljegfmaaHandNext
import Derived.Test.YtbclejgljegfmaaGP
set_option maxHeartbeats 8000000
set_option maxRecDepth 100000
namespace Go.Proofs.Ytbclejgljegfmaa.PAll
open Go.Proofs.Ytbclejgljegfmaa.Hand
open Go.RowKit Go.Proofs.YtbclejgljegfmaaW.PrintWords Go.Proofs.YtbclejgljegfmaaW.PrintLast Go.Proofs.YtbclejgljegfmaaW.PrintMore
attribute [local go_sem] max2_int min2_int max_two min_two max_three min_three max_four min_four   -- for this text's walks alone
set_option linter.unusedVariables false
set_option linter.unusedSimpArgs false

/-! ### aE: function 27 -/
def aE.l0 : Nat → List Int → List (S33) → Option ((List (S33)) × Int)
  | 0, _, _ => none
  | k + 1, x0, x4 => if (x0.length : Int) > 0 then ((aa.f k x0).bind fun i8 => (if i8.2.2.2.2.2.2 = 0 then (if x4.length < 1954687338268 then (if 0 ≤ i8.2.2.2.2.2.1 then (if i8.2.2.2.2.2.1 ≤ (x0.length : Int) then (aE.l0 k (x0.drop (i8.2.2.2.2.2.1 : Int).toNat) (x4 ++ [(⟨i8.1, i8.2.1, i8.2.2.1, i8.2.2.2.1, i8.2.2.2.2.1⟩ : S33)])) else (none)) else (none)) else (none)) else (some (([] : List (S33)), i8.2.2.2.2.2.2)))) else (some (x4, 0))
def aE.f (k : Nat) (l0 : List Int) : Option ((List (S33)) × Int) := if (l0.length : Int) > 1048576 then (some (([] : List (S33)), 5)) else (aE.l0 k l0 ([] : List (S33)))
theorem aE.calls (k : Nat) (P0_ : Nat → Prop) (A0 : Option Addr) (c0 : Nat) (l0 : List Int) (r1 : List (S33)) (r2 : Int) (w : World) (hs0 : Kd.V (Kd.int .u8) 5 w w.heap.size (fun k_ => P0_ k_) (.slice A0 l0.length c0) l0) (h : aE.f k l0 = some (r1, r2)) :
 Calls Try.prog 27 #[.slice A0 l0.length c0] w fun e w' => ∃ v0_ : Value, e = .returned (.tuple #[v0_, .int .i64 r2]) ∧ Kd.S k33 33 w' w.heap.size (fun k_ => (w.heap.size ≤ k_)) v0_ r1 ∧ Below w.heap.size w w' := by
 have hu33 := Try.underlying33
 have HO0 := Aside0.mk (show Kd.V (Kd.int .u8) 5 w w.heap.size (fun k_ => (P0_ k_ ∨ w.heap.size ≤ k_)) (.slice A0 l0.length c0) l0 from Kd.V_mono hs0 (fun k_ hk => .inl hk))
 have HB := Aside0.mk (Below.refl w.heap.size w)
 have H : (if (l0.length : Int) > 1048576 then (some (([] : List (S33)), 5)) else (aE.l0 k l0 ([] : List (S33)))) = some (r1, r2) := h
 clear h
 by_cases c2 : (l0.length : Int) > 1048576
 case pos =>
  rw [if_pos c2] at H
  have ig : decide (1048576 < (l0.length : Int)) = true := decide_eq_true c2
  have kM : decide (1048576 < l0.length) = true := decide_eq_true (by omega)
  clear c2
  simp only [Option.some.injEq, Prod.mk.injEq] at H
  obtain ⟨rfl, rfl⟩ := H
  go_enter Try.func27, Try.ntmps27
  go_wp2
  go_ret2
  exact ⟨_, p6z, p101z, p0z⟩
 rw [if_neg c2] at H
 have ig : decide (1048576 < (l0.length : Int)) = false := decide_eq_false c2
 have kM : decide (1048576 < l0.length) = false := decide_eq_false (by omega)
 clear c2
 have H' := Aside0.mk H
 clear H
 go_enter Try.func27, Try.ntmps27
 go_wp2
 go_loopg [0, 4] k (fun kq v0 v4 w' => ∃ (cH : List Int) (aw : List (S33)), Aside0 (aE.l0 kq cH aw = some (r1, r2)) ∧ Aside0 (kq ≤ k) ∧ Aside0 (Kd.V (Kd.int .u8) 5 w' w.heap.size (fun k_ => (P0_ k_ ∨ w.heap.size ≤ k_) ∧ some k_ ≠ (v4 : Value).ownBlock) v0 cH) ∧ Aside0 (Kd.S k33 33 w' w.heap.size (fun k_ => (w.heap.size ≤ k_)) v4 aw) ∧ Aside0 (Below w.heap.size w w'))
 case atStart => exact ⟨(l0), (([] : List (S33))), H', ⟨Nat.le_refl _⟩, ⟨p239z⟩, ⟨p101z⟩, ⟨p0z⟩⟩
 case round =>
  clear H'
  try clear ig
  try clear kM
  obtain ⟨cH, aw, HA, HK1, du, fK, HB⟩ := hrel
  cases gk with
  | zero => exact absurd HA.out (by simp [aE.l0])
  | succ k1 =>
   have H := HA.out
   clear HA
   simp only [aE.l0] at H
   by_cases c3 : (cH.length : Int) > 0
   case neg =>
    rw [if_neg c3] at H
    have eh : decide (0 < (cH.length : Int)) = false := decide_eq_false c3
    have gh : decide (0 < cH.length) = false := decide_eq_false (by omega)
    clear c3
    simp only [Option.some.injEq, Prod.mk.injEq] at H
    obtain ⟨rfl, rfl⟩ := H
    obtain ⟨lD, co25, eo25⟩ := Kd.V_slice du.out
    subst eo25
    go_wp2
    go_ret2
    exact ⟨_, p6z, p169z, p0z⟩
   rw [if_pos c3] at H
   have eh : decide (0 < (cH.length : Int)) = true := decide_eq_true c3
   have gh : decide (0 < cH.length) = true := decide_eq_true (by omega)
   clear c3
   replace H := Option.bind_eq_some_iff.mp H
   obtain ⟨⟨gm, dX, gJ, fz, fL, fl, jW⟩, A40, H⟩ := H
   replace H : (if jW = 0 then (if aw.length < 1954687338268 then (if 0 ≤ fl then (if fl ≤ (cH.length : Int) then (aE.l0 k1 (cH.drop (fl : Int).toNat) (aw ++ [(⟨gm, dX, gJ, fz, fL⟩ : S33)])) else (none)) else (none)) else (none)) else (some (([] : List (S33)), jW))) = some (r1, r2) := H
   have A4 := Aside0.mk A40
   clear A40
   by_cases c5 : jW = 0
   case neg =>
    rw [if_neg c5] at H
    have gI : (jW == 0) = false := beq_eq_false_iff_ne.mpr c5
    have jv : (jW != 0) = true := bne_iff_ne.mpr c5
    simp only [Option.some.injEq, Prod.mk.injEq] at H
    obtain ⟨rfl, rfl⟩ := H
    obtain ⟨cT, co19, eo19⟩ := Kd.V_slice du.out
    subst eo19
    go_wp2_with (first | ((with_reducible refine gate_callee (f := 25) rfl ?_); refine goesL_ (some 16) rfl rfl Try.func25 p16z rfl #[.slice cT cH.length co19] rfl p2z ?_; (with_reducible refine (aa.calls k1 _ _ cH gm dX gJ fz fL fl jW _ ?side1 ?side2 A4.out).mono ?_); (case side1 => exact p153z); (case side2 => exact (Kd.V_reads' du.out).2.1); rintro e w20 ⟨v259, v262, rfl, ho0, ho1, hb⟩; refine ⟨_, rfl, ?_⟩; have z_ := asi5 (Kd.V_mono (Kd.V_told (Kd.V_told (Kd.V_old p117z hb) (Kd.R_base ho0)) (Kd.R_base ho1)) (fun _ h_ => h_.1)) (Kd.S_mono (Kd.S_told (Kd.S_told (Kd.S_old p169z hb) (Kd.R_base ho0)) (Kd.R_base ho1)) (fun _ h_ => h_.1)) (Kd.R_lower (Kd.R_newM (M := fun k_ => (w.heap.size ≤ k_)) ho0 (below_size p0z) (fun k_ h_ => h_)) (below_size p0z)) (Kd.R_lower (Kd.R_newM (M := fun k_ => (w.heap.size ≤ k_)) ho1 (below_size p0z) (fun k_ h_ => h_)) (below_size p0z)) (below_step p0z hb); clear du fK HB; obtain ⟨du, fK, fM, fm, HB⟩ := z_; (try clear hb ho0 ho1)) | ((with_reducible refine gate_dst (N := 5) rfl ?_); refine box_event ?hg (N := 5) ?hd (cs := #[.int .i64 0, .int .i64 0, .int .u64 0, .slice none 0 0, .slice none 0 0]) (t := 33) ?hr ?_; (case hd => rfl); (case hg => rfl); (case hr => exact p22z); intro bT hg w21 hbox hb; have z_ := asi8 (Kd.V_below (Kd.V_elderB p117z bT (Nat.le_of_eq hg.symm)) hb) (Kd.S_below (Kd.S_elderB p169z bT (Nat.le_of_eq hg.symm)) hb) (Kd.R_below (q0z fM.out) hb) (Kd.R_below p210z hb) (below_step p0z hb) (hbox) ((p38z : w.heap.size ≤ bT)) ((p38z : w.heap.size ≤ bT)); clear du fK fM fm HB; obtain ⟨du, fK, fM, fm, HB, cS, GW266, GE266⟩ := z_; clear hb hbox hg; have hcz22_0 : w21.cell? ⟨bT, 0, none⟩ = some (.int .i64 0) := (blk_cell cS.out 0).trans rfl; have hcz22_1 : w21.cell? ⟨bT, 1, none⟩ = some (.int .i64 0) := (blk_cell cS.out 1).trans rfl; have hcz22_2 : w21.cell? ⟨bT, 2, none⟩ = some (.int .u64 0) := (blk_cell cS.out 2).trans rfl; have hcz22_3 : w21.cell? ⟨bT, 3, none⟩ = some (.slice none 0 0) := (blk_cell cS.out 3).trans rfl; have hcz22_4 : w21.cell? ⟨bT, 4, none⟩ = some (.slice none 0 0) := (blk_cell cS.out 4).trans rfl; have hfz22_0 := blk_frozen cS.out 0; have hfz22_1 := blk_frozen cS.out 1; have hfz22_2 := blk_frozen cS.out 2; have hfz22_3 := blk_frozen cS.out 3; have hfz22_4 := blk_frozen cS.out 4; obtain ⟨cx, co23, eo23⟩ := Kd.R_slice fM.out; subst eo23; obtain ⟨jh, co24, eo24⟩ := Kd.R_slice fm.out; subst eo24))
    go_ret2
    exact ⟨_, p6z, p101z, p104z⟩
   rw [if_pos c5] at H
   have gI : (jW == 0) = true := beq_iff_eq.mpr c5
   have jv : (jW != 0) = false := bne_eq_false_iff_eq.mpr c5
   clear c5
   by_cases c6 : aw.length < 1954687338268
   case neg =>
    rw [if_neg c6] at H
    exact absurd H (by simp)
   rw [if_pos c6] at H
   have LMc6 := Aside0.mk c6
   clear c6
   obtain ⟨y267, hy267⟩ : ∃ y_ : List (S33), y_ = (aw ++ [(⟨gm, dX, gJ, fz, fL⟩ : S33)]) := ⟨_, rfl⟩
   replace H : (if 0 ≤ fl then (if fl ≤ (cH.length : Int) then (aE.l0 k1 (cH.drop (fl : Int).toNat) y267) else (none)) else (none)) = some (r1, r2) := by first | (rw [hy267]; with_reducible exact H) | (have H2_ := (Option.bind_some _ _).symm.trans H; rw [hy267]; with_reducible exact H2_) | (have H2_ := (Option.bind_some _ _).symm.trans H; with_reducible exact H2_) | with_reducible exact H | (rw [hy267]; exact H) | exact H
   have Ny267 := Aside0.mk hy267
   clear hy267
   by_cases c7 : 0 ≤ fl
   case neg =>
    rw [if_neg c7] at H
    exact absurd H (by simp)
   rw [if_pos c7] at H
   have fs := eq_true c7
   have c7b1 : decide (0 ≤ fl) = true := decide_eq_true c7
   clear c7
   by_cases c8 : fl ≤ (cH.length : Int)
   case neg =>
    rw [if_neg c8] at H
    exact absurd H (by simp)
   rw [if_pos c8] at H
   have ij := eq_true c8
   have lz : decide (fl ≤ (cH.length : Int)) = true := decide_eq_true c8
   clear c8
   obtain ⟨y270, hy270⟩ : ∃ y_ : List Int, y_ = (cH.drop (fl : Int).toNat) := ⟨_, rfl⟩
   replace H : (aE.l0 k1 y270 y267) = some (r1, r2) := by first | (rw [hy270]; with_reducible exact H) | (have H2_ := (Option.bind_some _ _).symm.trans H; rw [hy270]; with_reducible exact H2_) | (have H2_ := (Option.bind_some _ _).symm.trans H; with_reducible exact H2_) | with_reducible exact H | (rw [hy270]; exact H) | exact H
   have Ny270 := Aside0.mk hy270
   clear hy270
   have H' := Aside0.mk H
   clear H
   obtain ⟨Ao9, co9, eo9⟩ := Kd.V_slice du.out
   subst eo9
   go_wp2_with (first | ((with_reducible refine gate_callee (f := 25) rfl ?_); refine goesL_ (some 16) rfl rfl Try.func25 p16z rfl #[.slice Ao9 cH.length co9] rfl p2z ?_; (with_reducible refine (aa.calls k1 _ _ cH gm dX gJ fz fL fl jW _ ?side1 ?side2 A4.out).mono ?_); (case side1 => exact p153z); (case side2 => exact (Kd.V_reads' du.out).2.1); rintro e w10 ⟨v259, v262, rfl, ho0, ho1, hb⟩; refine ⟨_, rfl, ?_⟩; have z_ := asi5 (Kd.V_mono (Kd.V_told (Kd.V_told (Kd.V_old p117z hb) (Kd.R_base ho0)) (Kd.R_base ho1)) (fun _ h_ => h_.1)) (Kd.S_mono (Kd.S_told (Kd.S_told (Kd.S_old p169z hb) (Kd.R_base ho0)) (Kd.R_base ho1)) (fun _ h_ => h_.1)) (Kd.R_lower (Kd.R_newM (M := fun k_ => (w.heap.size ≤ k_)) ho0 (below_size p0z) (fun k_ h_ => h_)) (below_size p0z)) (Kd.R_lower (Kd.R_newM (M := fun k_ => (w.heap.size ≤ k_)) ho1 (below_size p0z) (fun k_ h_ => h_)) (below_size p0z)) (below_step p0z hb); clear du fK HB; obtain ⟨du, fK, fM, fm, HB⟩ := z_; (try clear hb hk ho0 ho1)) | ((with_reducible refine gate_dst (N := 5) rfl ?_); refine box_event ?hg (N := 5) ?hd (cs := #[.int .i64 0, .int .i64 0, .int .u64 0, .slice none 0 0, .slice none 0 0]) (t := 33) ?hr ?_; (case hd => rfl); (case hg => rfl); (case hr => exact p22z); intro bT hg w11 hbox hb; have z_ := asi8 (Kd.V_below (Kd.V_elderB p117z bT (Nat.le_of_eq hg.symm)) hb) (Kd.S_below (Kd.S_elderB p169z bT (Nat.le_of_eq hg.symm)) hb) (Kd.R_below (q0z fM.out) hb) (Kd.R_below p210z hb) (below_step p0z hb) (hbox) ((p38z : w.heap.size ≤ bT)) ((p38z : w.heap.size ≤ bT)); clear du fK fM fm HB; obtain ⟨du, fK, fM, fm, HB, cS, GW266, GE266⟩ := z_; clear hb hbox hg; have hcz12_0 : w11.cell? ⟨bT, 0, none⟩ = some (.int .i64 0) := (blk_cell cS.out 0).trans rfl; have hcz12_1 : w11.cell? ⟨bT, 1, none⟩ = some (.int .i64 0) := (blk_cell cS.out 1).trans rfl; have hcz12_2 : w11.cell? ⟨bT, 2, none⟩ = some (.int .u64 0) := (blk_cell cS.out 2).trans rfl; have hcz12_3 : w11.cell? ⟨bT, 3, none⟩ = some (.slice none 0 0) := (blk_cell cS.out 3).trans rfl; have hcz12_4 : w11.cell? ⟨bT, 4, none⟩ = some (.slice none 0 0) := (blk_cell cS.out 4).trans rfl; have hfz12_0 := blk_frozen cS.out 0; have hfz12_1 := blk_frozen cS.out 1; have hfz12_2 := blk_frozen cS.out 2; have hfz12_3 := blk_frozen cS.out 3; have hfz12_4 := blk_frozen cS.out 4; obtain ⟨df, co13, eo13⟩ := Kd.R_slice fM.out; subst eo13; obtain ⟨dc, co14, eo14⟩ := Kd.R_slice fm.out; subst eo14) | ((with_reducible refine gate_store (t := 33) (p := 5) rfl ?_); refine store_event (t := 33) (p := 5) (v := ?vo_w15) (w1 := (((((w11.setCell ⟨bT, 0, none⟩ (.int .i64 gm)).setCell ⟨bT, 1, none⟩ (.int .i64 dX)).setCell ⟨bT, 2, none⟩ (.int .u64 gJ)).setCell ⟨bT, 3, none⟩ (.slice df fz.length co13)).setCell ⟨bT, 4, none⟩ (.slice dc fL.length co14))) ?hg ?ho ?hn ?hr ?_; (case ho => rfl); (case hg => rfl); (case hn => rfl); (case hr => exact p22z); intro w15 hw; have n0_ : Aside0 (Kd.V (Kd.int .u8) 5 w15 w.heap.size (fun k_ => (P0_ k_ ∨ w.heap.size ≤ k_) ∧ some k_ ≠ (u4 : Value).ownBlock ∧ some k_ ≠ (.slice df fz.length co13 : Value).ownBlock ∧ some k_ ≠ (.slice dc fL.length co14 : Value).ownBlock ∧ k_ ≠ bT) (.slice Ao9 cH.length co9) cH) := ⟨(by rw [hw]; exact (by (with_reducible repeat (first | apply Kd.V_alloc | apply Kd.V_drewN | apply Kd.V_drew)); exact Kd.V_mono (Kd.V_far (p := ⟨bT, 4, none⟩) (Kd.V_far (p := ⟨bT, 3, none⟩) (Kd.V_far (p := ⟨bT, 2, none⟩) (Kd.V_far (p := ⟨bT, 1, none⟩) (Kd.V_far (p := ⟨bT, 0, none⟩) (Kd.V_mono du.out (fun k_ hk => (⟨hk, hk.2⟩ : _ ∧ k_ ≠ bT))) (fun _ hk => hk.2) (.int .i64 gm)) (fun _ hk => hk.2) (.int .i64 dX)) (fun _ hk => hk.2) (.int .u64 gJ)) (fun _ hk => hk.2) (.slice df fz.length co13)) (fun _ hk => hk.2) (.slice dc fL.length co14)) (fun _ hk => ⟨hk.1.1.1.1.1, ⟨hk.1.1.1.1.2, ⟨hk.1.1.1.2, ⟨hk.1.1.2, hk.1.2⟩⟩⟩⟩)))⟩; have n1_ : Aside0 (Kd.S k33 33 w15 w.heap.size (fun k_ => (w.heap.size ≤ k_) ∧ some k_ ≠ (.slice df fz.length co13 : Value).ownBlock ∧ some k_ ≠ (.slice dc fL.length co14 : Value).ownBlock ∧ k_ ≠ bT) u4 aw) := ⟨(by rw [hw]; exact (by (with_reducible repeat (first | apply Kd.S_alloc | apply Kd.S_drewN | apply Kd.S_drew)); exact Kd.S_mono (Kd.S_far (p := ⟨bT, 4, none⟩) (Kd.S_far (p := ⟨bT, 3, none⟩) (Kd.S_far (p := ⟨bT, 2, none⟩) (Kd.S_far (p := ⟨bT, 1, none⟩) (Kd.S_far (p := ⟨bT, 0, none⟩) (Kd.S_mono fK.out (fun k_ hk => (⟨hk, hk.2⟩ : _ ∧ k_ ≠ bT))) (fun _ hk => hk.2) (.int .i64 gm)) (fun _ hk => hk.2) (.int .i64 dX)) (fun _ hk => hk.2) (.int .u64 gJ)) (fun _ hk => hk.2) (.slice df fz.length co13)) (fun _ hk => hk.2) (.slice dc fL.length co14)) (fun _ hk => ⟨hk.1.1.1.1, ⟨hk.1.1.1.2, ⟨hk.1.1.2, hk.1.2⟩⟩⟩)))⟩; have n2_ : Aside0 (Kd.R (Kd.int .u8) 5 w15 w.heap.size (fun k_ => (w.heap.size ≤ k_) ∧ some k_ ≠ (.slice dc fL.length co14 : Value).ownBlock) (.slice df fz.length co13) fz) := ⟨(by rw [hw]; exact (by (with_reducible repeat (first | apply Kd.R_alloc | apply Kd.R_drewN | apply Kd.R_drew)); exact Kd.R_mono (Kd.R_far (p := ⟨bT, 4, none⟩) (Kd.R_far (p := ⟨bT, 3, none⟩) (Kd.R_far (p := ⟨bT, 2, none⟩) (Kd.R_far (p := ⟨bT, 1, none⟩) (Kd.R_far (p := ⟨bT, 0, none⟩) (Kd.R_types fM.out cS.out (by decide)) (fun _ hk => hk.2) (.int .i64 gm)) (fun _ hk => hk.2) (.int .i64 dX)) (fun _ hk => hk.2) (.int .u64 gJ)) (fun _ hk => hk.2) (.slice df fz.length co13)) (fun _ hk => hk.2) (.slice dc fL.length co14)) (fun _ hk => ⟨hk.1.1, hk.1.2⟩)))⟩; have n3_ : Aside0 (Kd.R (Kd.int .u8) 5 w15 w.heap.size (fun k_ => (w.heap.size ≤ k_) ∧ some k_ ≠ (.slice df fz.length co13 : Value).ownBlock) (.slice dc fL.length co14) fL) := ⟨(by rw [hw]; exact (by (with_reducible repeat (first | apply Kd.R_alloc | apply Kd.R_drewN | apply Kd.R_drew)); exact Kd.R_mono (Kd.R_far (p := ⟨bT, 4, none⟩) (Kd.R_far (p := ⟨bT, 3, none⟩) (Kd.R_far (p := ⟨bT, 2, none⟩) (Kd.R_far (p := ⟨bT, 1, none⟩) (Kd.R_far (p := ⟨bT, 0, none⟩) (Kd.R_types fm.out cS.out (by decide)) (fun _ hk => hk.2) (.int .i64 gm)) (fun _ hk => hk.2) (.int .i64 dX)) (fun _ hk => hk.2) (.int .u64 gJ)) (fun _ hk => hk.2) (.slice df fz.length co13)) (fun _ hk => hk.2) (.slice dc fL.length co14)) (fun _ hk => ⟨hk.1.1, hk.1.2⟩)))⟩; have n4_ : Aside0 (w15.heap[bT]? = some (.cells #[.int .i64 gm, .int .i64 dX, .int .u64 gJ, .slice df fz.length co13, .slice dc fL.length co14] 33 (0, 0))) := ⟨(by rw [hw]; exact (by (with_reducible repeat (first | refine blk_drewN ?_ _ | refine blk_drew ?_ | refine blk_alloc ?_ _)); refine blk_put (cs := #[.int .i64 gm, .int .i64 dX, .int .u64 gJ, .slice df fz.length co13, .slice none 0 0]) ?_ 4 _ rfl; (with_reducible repeat (first | refine blk_drewN ?_ _ | refine blk_drew ?_ | refine blk_alloc ?_ _)); refine blk_put (cs := #[.int .i64 gm, .int .i64 dX, .int .u64 gJ, .slice none 0 0, .slice none 0 0]) ?_ 3 _ rfl; (with_reducible repeat (first | refine blk_drewN ?_ _ | refine blk_drew ?_ | refine blk_alloc ?_ _)); refine blk_put (cs := #[.int .i64 gm, .int .i64 dX, .int .u64 0, .slice none 0 0, .slice none 0 0]) ?_ 2 _ rfl; (with_reducible repeat (first | refine blk_drewN ?_ _ | refine blk_drew ?_ | refine blk_alloc ?_ _)); refine blk_put (cs := #[.int .i64 gm, .int .i64 0, .int .u64 0, .slice none 0 0, .slice none 0 0]) ?_ 1 _ rfl; (with_reducible repeat (first | refine blk_drewN ?_ _ | refine blk_drew ?_ | refine blk_alloc ?_ _)); refine blk_put (cs := #[.int .i64 0, .int .i64 0, .int .u64 0, .slice none 0 0, .slice none 0 0]) ?_ 0 _ rfl; (with_reducible repeat (first | refine blk_drewN ?_ _ | refine blk_drew ?_ | refine blk_alloc ?_ _)); exact cS.out))⟩; have n5_ : Aside0 (Below w.heap.size w w15) := ⟨(by rw [hw]; exact p104z)⟩; clear hw; clear du; clear fK; clear fM; clear fm; clear cS; clear HB; have du := n0_; have fK := n1_; have fM := n2_; have fm := n3_; have cS := n4_; have HB := n5_; clear n0_ n1_ n2_ n3_ n4_ n5_; have hcz16_0 : w15.cell? ⟨bT, 0, none⟩ = some (.int .i64 gm) := (blk_cell cS.out 0).trans rfl; have hcz16_1 : w15.cell? ⟨bT, 1, none⟩ = some (.int .i64 dX) := (blk_cell cS.out 1).trans rfl; have hcz16_2 : w15.cell? ⟨bT, 2, none⟩ = some (.int .u64 gJ) := (blk_cell cS.out 2).trans rfl; have hcz16_3 : w15.cell? ⟨bT, 3, none⟩ = some (.slice df fz.length co13) := (blk_cell cS.out 3).trans rfl; have hcz16_4 : w15.cell? ⟨bT, 4, none⟩ = some (.slice dc fL.length co14) := (blk_cell cS.out 4).trans rfl; have hfz16_0 := blk_frozen cS.out 0; have hfz16_1 := blk_frozen cS.out 1; have hfz16_2 := blk_frozen cS.out 2; have hfz16_3 := blk_frozen cS.out 3; have hfz16_4 := blk_frozen cS.out 4) | ((with_reducible refine gate_builtin (b := .append) (xs := #[.tmp 23, .tmp 25]) rfl ?_); at_builtin; refine Kd.S_append k33 (w0 := w) w.heap.size rfl (.tmp 23) (.tmp 25) 37 33 (.agg #[(.int .i64 0), (.int .i64 0), (.int .u64 0), (.slice none 0 0), (.slice none 0 0)]) 72 rfl Try.underlying37 info33 rfl (by decide) (by omega) u4 aw (⟨gm, dX, gJ, fz, fL⟩ : S33) [.int .i64 gm, .int .i64 dX, .int .u64 gJ, .slice df fz.length co13, .slice dc fL.length co14] (fun k_ => (w.heap.size ≤ k_) ∧ k_ ≠ bT) (fun k_ => some k_ = (.slice df fz.length co13 : Value).ownBlock ∨ some k_ = (.slice dc fL.length co14 : Value).ownBlock) rfl rfl ?aP (fun k_ hk_ => hk_.elim (fun h_ => ((Kd.R_mono (ok' := fun k_ => ((fun k_ => (w.heap.size ≤ k_) ∧ k_ ≠ bT)) k_ ∧ some k_ ≠ (u4 : Value).ownBlock) (Kd.R_types (Kd.R_apart' (fM.out) (Kd.S_typed fK.out) (by decide)) cS.out (by decide)) (fun k_ hk => ⟨⟨hk.1.1.1, hk.2⟩, hk.1.2⟩))).1 k_ h_.symm) (fun h_ => ((Kd.R_mono (ok' := fun k_ => ((fun k_ => (w.heap.size ≤ k_) ∧ k_ ≠ bT)) k_ ∧ some k_ ≠ (u4 : Value).ownBlock) (Kd.R_types (Kd.R_apart' (fm.out) (Kd.S_typed fK.out) (by decide)) cS.out (by decide)) (fun k_ hk => ⟨⟨hk.1.1.1, hk.2⟩, hk.1.2⟩))).1 k_ h_.symm)) ?aF ?aO ?aB ?aS ?aL ?_; (case aP => exact k33_mkM _ _ _ (⟨gm, dX, gJ, fz, fL⟩ : S33) (Kd.R_mono (Kd.R_tight rfl (Kd.R_mono (ok' := fun k_ => ((fun k_ => (w.heap.size ≤ k_) ∧ k_ ≠ bT)) k_ ∧ some k_ ≠ (u4 : Value).ownBlock) (Kd.R_types (Kd.R_apart' (fM.out) (Kd.S_typed fK.out) (by decide)) cS.out (by decide)) (fun k_ hk => ⟨⟨hk.1.1.1, hk.2⟩, hk.1.2⟩))) (fun _ h_ => Or.inl h_)) (Kd.R_mono (Kd.R_tight rfl (Kd.R_mono (ok' := fun k_ => ((fun k_ => (w.heap.size ≤ k_) ∧ k_ ≠ bT)) k_ ∧ some k_ ≠ (u4 : Value).ownBlock) (Kd.R_types (Kd.R_apart' (fm.out) (Kd.S_typed fK.out) (by decide)) cS.out (by decide)) (fun k_ hk => ⟨⟨hk.1.1.1, hk.2⟩, hk.1.2⟩))) (fun _ h_ => Or.inr (h_)))); (case aB => exact p104z); (case aF => exact (fun k_ hk => ⟨(Nat.le_trans (below_size p104z) hk), Kd.freshB (g := bT) (o := .cells #[.int .i64 gm, .int .i64 dX, .int .u64 gJ, .slice df fz.length co13, .slice dc fL.length co14] 33 (0, 0)) (q1z cS.out) k_ hk⟩)); (case aO => exact (by (with_reducible repeat (first | apply Kd.S_alloc | apply Kd.S_drewN | apply Kd.S_drew)); exact Kd.S_mono fK.out (fun k_ hk => ⟨⟨hk.1, hk.2.2.2⟩, fun e_ => e_.elim (fun h_ => hk.2.1 h_) (fun h_ => hk.2.2.1 h_)⟩))); (case aS => exact (below_size p104z)); (case aL => have := LMc6.out; omega); intro v268 w17 ho hb hg hat; rw [← Ny267.out] at ho; have z_ := asi4 (Kd.V_afterv (ok := (fun k_ => (P0_ k_ ∨ w.heap.size ≤ k_) ∧ some k_ ≠ (.slice df fz.length co13 : Value).ownBlock ∧ some k_ ≠ (.slice dc fL.length co14 : Value).ownBlock ∧ k_ ≠ bT)) p220z hg hat) (blk_grown (g := bT) (o := .cells #[.int .i64 gm, .int .i64 dX, .int .u64 gJ, .slice df fz.length co13, .slice dc fL.length co14] 33 (0, 0)) (q1z cS.out) hg (Kd.S_away fK.out (fun _ hk => hk.2.2.2))) (hb) (ho); clear du cS HB fK fM fm; obtain ⟨du, cS, HB, HO269⟩ := z_; clear ho hb hg hat; have q18 : (fl : Int) ≤ ((cH.length : Int) : Int) := of_decide_eq_true p10z; obtain ⟨i018, hi018, _, hsz18, _⟩ := info_parts info5; have hroom18 : cH.length ≤ co9 := (Kd.V_reads' du.out).2.1; have hC18 : Kd.F (Kd.int .u8) _ _ Ao9 cH.length cH := (Kd.V_at (base := w.heap.size) du.out).2.2; have q018 : (0 : Int) ≤ (fl : Int) := of_decide_eq_true p10z; have hcut18 := cut_from (P := Try.prog) 22 5 .i64 Try.underlying22 hi018 1 hsz18 Ao9 cH.length co9 fl q018 q18; have hr18 := Kd.F_cut (m := (fl : Int).toNat) (c := co9) hC18 (by omega) hroom18; obtain ⟨A18, hA18⟩ : ∃ A1, A1 = (if co9 = (fl : Int).toNat then Ao9 else (Ao9 : Option Addr).map (·.add ((fl : Int).toNat * 1))) := ⟨_, rfl⟩; obtain ⟨c18, hc18⟩ : ∃ c1, c1 = co9 - (fl : Int).toNat := ⟨_, rfl⟩; have hy18 : y270.length = cH.length - (fl : Int).toNat := (by rw [Ny270.out, List.length_drop] <;> omega); rw [show (cH).drop (fl : Int).toNat = y270 from Ny270.out.symm] at hr18; replace hr18 : Kd.F (Kd.int .u8) _ _ A18 y270.length y270 := (by rw [hA18]; exact hr18); rw [← hy18, ← hA18, ← hc18] at hcut18; have HO274 := Aside0.mk (show Kd.V (Kd.int .u8) 5 _ w.heap.size _ (.slice A18 y270.length c18) y270 from Kd.V_mk (by rw [hy18, hc18]; exact Nat.sub_le_sub_right hroom18 _) hr18); have HC274 := Aside0.mk (show y270.length ≤ c18 from by rw [hy18, hc18]; exact Nat.sub_le_sub_right hroom18 _); clear hr18 hC18 hroom18 hi018 hsz18 hc18; have KY18 := Aside0.mk hy18; have KA18 := Aside0.mk hA18; clear hy18 hA18; replace q18 := eq_true q18))
   go_roundg k1
   case measure => have := HK1.out; omega
   case rel => exact ⟨(y270), (y267), H', ⟨p217z⟩, ⟨by (with_reducible repeat (first | apply Kd.V_alloc | apply Kd.V_drewN | apply Kd.V_drew)); exact Kd.V_mono HO274.out (fun _ hk => ⟨hk.1.1, hk.2⟩)⟩, ⟨by (with_reducible repeat (first | apply Kd.S_alloc | apply Kd.S_drewN | apply Kd.S_drew)); exact Kd.S_mono HO269.out (fun _ hk => hk.1)⟩, ⟨p104z⟩⟩
end Go.Proofs.Ytbclejgljegfmaa.PAll
