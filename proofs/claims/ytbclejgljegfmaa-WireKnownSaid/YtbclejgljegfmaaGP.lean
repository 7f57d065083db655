-- Written by this repo's program wip/tools/pr.py (over the kit's print) out of the translation. Not trusted: Lean checks it.
import Derived.Test.YtbclejgljegfmaaAp
import Derived.Test.YtbclejgljegfmaaPAllx0
import Derived.Test.YtbclejgljegfmaaHandNext
set_option maxHeartbeats 8000000
set_option maxRecDepth 100000
namespace Go.Proofs.Ytbclejgljegfmaa.PAll
open Go.Proofs.Ytbclejgljegfmaa.Hand
open Go.RowKit Go.Proofs.YtbclejgljegfmaaW.PrintWords Go.Proofs.YtbclejgljegfmaaW.PrintLast Go.Proofs.YtbclejgljegfmaaW.PrintMore
attribute [local go_sem] max2_int min2_int max_two min_two max_three min_three max_four min_four   -- for this text's walks alone
set_option linter.unusedVariables false
set_option linter.unusedSimpArgs false

/-! ### aN: function 26 -/
def aN.l0 : Nat → List Int → List (S33) → Option ((List (S33)) × Int)
  | 0, _, _ => none
  | k + 1, x0, x2 => if (x0.length : Int) > 0 then ((wire_Next.f x0).bind fun i7 => (if i7.2.2.2.2.2.2 = 0 then (if x2.length < 1954687338268 then (if 0 ≤ i7.2.2.2.2.2.1 then (if i7.2.2.2.2.2.1 ≤ (x0.length : Int) then (aN.l0 k (x0.drop (i7.2.2.2.2.2.1 : Int).toNat) (x2 ++ [(⟨i7.1, i7.2.1, i7.2.2.1, i7.2.2.2.1, i7.2.2.2.2.1⟩ : S33)])) else (none)) else (none)) else (none)) else (some (([] : List (S33)), i7.2.2.2.2.2.2)))) else (some (x2, 0))
def aN.f (k : Nat) (l0 : List Int) : Option ((List (S33)) × Int) := if (l0.length : Int) > 1048576 then (some (([] : List (S33)), 5)) else (aN.l0 k l0 ([] : List (S33)))
def aN.T7 : Bool × List (List Nat × List Nat) := (true, [([], []), ([], []), ([1], [1]), ([0, 2], [0, 2]), ([], []), ([], []), ([4, 5], [4, 5]), ([3, 3, 0, 1, 2, 3], [0, 3]), ([6, 7, 0, 1, 2, 3, 4, 5, 6, 7], [4, 6])])
def aN.B7 : List Nat := [0, 0, 2, 7, 0, 0, 48, 15, 255]
theorem aN.tab7 : rtab .any (opsOf Try.f26 7) = aN.T7 := p16z
theorem aN.bits7 : waitsOk aN.T7.2 aN.B7 = true := p16z
theorem aN.calls (k : Nat) (P0_ : Nat → Prop) (A0 : Option Addr) (c0 : Nat) (l0 : List Int) (r1 : List (S33)) (r2 : Int) (w : World) (hs0 : Kd.V (Kd.int .u8) 5 w w.heap.size (fun k_ => P0_ k_) (.slice A0 l0.length c0) l0) (h : aN.f k l0 = some (r1, r2)) :
 Calls Try.prog 26 #[.slice A0 l0.length c0] w fun e w' => ∃ v0_ : Value, e = .returned (.tuple #[v0_, .int .i64 r2]) ∧ Kd.S k33 33 w' w.heap.size (fun k_ => (w.heap.size ≤ k_)) v0_ r1 ∧ Below w.heap.size w w' := by
 have hu33 := Try.underlying33
 have HO0 := Aside0.mk (show Kd.V (Kd.int .u8) 5 w w.heap.size (fun k_ => (P0_ k_ ∨ w.heap.size ≤ k_)) (.slice A0 l0.length c0) l0 from Kd.V_mono hs0 (fun k_ hk => .inl hk))
 have HB := Aside0.mk (Below.refl w.heap.size w)
 have H : (if (l0.length : Int) > 1048576 then (some (([] : List (S33)), 5)) else (aN.l0 k l0 ([] : List (S33)))) = some (r1, r2) := h
 clear h
 by_cases c2 : (l0.length : Int) > 1048576
 case pos =>
  rw [if_pos c2] at H
  have ig : decide (1048576 < (l0.length : Int)) = true := decide_eq_true c2
  have kM : decide (1048576 < l0.length) = true := decide_eq_true (by omega)
  clear c2
  simp only [Option.some.injEq, Prod.mk.injEq] at H
  obtain ⟨rfl, rfl⟩ := H
  go_enter Try.func26, Try.ntmps26
  go_wp2
  go_ret2
  exact ⟨_, p6z, p101z, p0z⟩
 rw [if_neg c2] at H
 have ig : decide (1048576 < (l0.length : Int)) = false := decide_eq_false c2
 have kM : decide (1048576 < l0.length) = false := decide_eq_false (by omega)
 clear c2
 have H' := Aside0.mk H
 clear H
 go_enter Try.func26, Try.ntmps26
 go_wp2
 go_loopg [0, 2] k (fun kq v0 v2 w' => ∃ (cH : List Int) (jU : List (S33)), Aside0 (aN.l0 kq cH jU = some (r1, r2)) ∧ Aside0 (kq ≤ k) ∧ Aside0 (Kd.V (Kd.int .u8) 5 w' w.heap.size (fun k_ => (P0_ k_ ∨ w.heap.size ≤ k_) ∧ some k_ ≠ (v2 : Value).ownBlock) v0 cH) ∧ Aside0 (Kd.S k33 33 w' w.heap.size (fun k_ => (w.heap.size ≤ k_)) v2 jU) ∧ Aside0 (Below w.heap.size w w'))
 case atStart => exact ⟨(l0), (([] : List (S33))), H', ⟨Nat.le_refl _⟩, ⟨p239z⟩, ⟨p101z⟩, ⟨p0z⟩⟩
 case round =>
  clear H'
  try clear ig
  try clear kM
  obtain ⟨cH, jU, HA, HK1, du, bK, HB⟩ := hrel
  cases gk with
  | zero => exact absurd HA.out (by simp [aN.l0])
  | succ k1 =>
   have H := HA.out
   clear HA
   simp only [aN.l0] at H
   by_cases c3 : (cH.length : Int) > 0
   case neg =>
    rw [if_neg c3] at H
    have eh : decide (0 < (cH.length : Int)) = false := decide_eq_false c3
    have gh : decide (0 < cH.length) = false := decide_eq_false (by omega)
    clear c3
    simp only [Option.some.injEq, Prod.mk.injEq] at H
    obtain ⟨rfl, rfl⟩ := H
    obtain ⟨lD, co25, eo25⟩ := Kd.V_slice du.out
    subst eo25
    go_wp2
    go_ret2
    exact ⟨_, p6z, p168z, p0z⟩
   rw [if_pos c3] at H
   have eh : decide (0 < (cH.length : Int)) = true := decide_eq_true c3
   have gh : decide (0 < cH.length) = true := decide_eq_true (by omega)
   clear c3
   replace H := Option.bind_eq_some_iff.mp H
   obtain ⟨⟨fk, ft, fy, eK, eO, fU, jV⟩, A40, H⟩ := H
   replace H : (if jV = 0 then (if jU.length < 1954687338268 then (if 0 ≤ fU then (if fU ≤ (cH.length : Int) then (aN.l0 k1 (cH.drop (fU : Int).toNat) (jU ++ [(⟨fk, ft, fy, eK, eO⟩ : S33)])) else (none)) else (none)) else (none)) else (some (([] : List (S33)), jV))) = some (r1, r2) := H
   have A4 := Aside0.mk A40
   clear A40
   by_cases c5 : jV = 0
   case neg =>
    rw [if_neg c5] at H
    have gI : (jV == 0) = false := beq_eq_false_iff_ne.mpr c5
    have jv : (jV != 0) = true := bne_iff_ne.mpr c5
    simp only [Option.some.injEq, Prod.mk.injEq] at H
    obtain ⟨rfl, rfl⟩ := H
    obtain ⟨cT, co19, eo19⟩ := Kd.V_slice du.out
    subst eo19
    go_wp2_with (first | ((with_reducible refine gate_callee (f := 24) rfl ?_); refine goesL_ (some 15) rfl rfl Try.func24 p16z rfl #[.slice cT cH.length co19] rfl p2z ?_; (with_reducible refine (wire_Next.calls _ _ cH fk ft fy eK eO fU jV _ ?side1 ?side2 A4.out).mono ?_); (case side1 => exact p153z); (case side2 => exact (Kd.V_reads' du.out).2.1); rintro e w20 ⟨v239, v242, rfl, ho0, ho1, hb⟩; refine ⟨_, rfl, ?_⟩; have z_ := asi5 (Kd.V_mono (Kd.V_told (Kd.V_told (Kd.V_old p117z hb) (Kd.R_base ho0)) (Kd.R_base ho1)) (fun _ h_ => h_.1)) (Kd.S_mono (Kd.S_told (Kd.S_told (Kd.S_old p168z hb) (Kd.R_base ho0)) (Kd.R_base ho1)) (fun _ h_ => h_.1)) (Kd.R_lower (Kd.R_newM (M := fun k_ => (w.heap.size ≤ k_)) ho0 (below_size p0z) (fun k_ h_ => h_)) (below_size p0z)) (Kd.R_lower (Kd.R_newM (M := fun k_ => (w.heap.size ≤ k_)) ho1 (below_size p0z) (fun k_ h_ => h_)) (below_size p0z)) (below_step p0z hb); clear du bK HB; obtain ⟨du, bK, eQ, eR, HB⟩ := z_; (try clear hb ho0 ho1)) | ((with_reducible refine gate_dst (N := 4) rfl ?_); refine box_event ?hg (N := 4) ?hd (cs := #[.int .i64 0, .int .i64 0, .int .u64 0, .slice none 0 0, .slice none 0 0]) (t := 33) ?hr ?_; (case hd => rfl); (case hg => rfl); (case hr => exact p22z); intro bi hg w21 hbox hb; have z_ := asi8 (Kd.V_below (Kd.V_elderB p117z bi (Nat.le_of_eq hg.symm)) hb) (Kd.S_below (Kd.S_elderB p168z bi (Nat.le_of_eq hg.symm)) hb) (Kd.R_below (q0z eQ.out) hb) (Kd.R_below (q0z eR.out) hb) (below_step p0z hb) (hbox) ((p38z : w.heap.size ≤ bi)) ((p38z : w.heap.size ≤ bi)); clear du bK eQ eR HB; obtain ⟨du, bK, eQ, eR, HB, bP, GW246, ld⟩ := z_; clear hb hbox hg; have hcz22_0 : w21.cell? ⟨bi, 0, none⟩ = some (.int .i64 0) := (blk_cell bP.out 0).trans rfl; have hcz22_1 : w21.cell? ⟨bi, 1, none⟩ = some (.int .i64 0) := (blk_cell bP.out 1).trans rfl; have hcz22_2 : w21.cell? ⟨bi, 2, none⟩ = some (.int .u64 0) := (blk_cell bP.out 2).trans rfl; have hcz22_3 : w21.cell? ⟨bi, 3, none⟩ = some (.slice none 0 0) := (blk_cell bP.out 3).trans rfl; have hcz22_4 : w21.cell? ⟨bi, 4, none⟩ = some (.slice none 0 0) := (blk_cell bP.out 4).trans rfl; have hfz22_0 := blk_frozen bP.out 0; have hfz22_1 := blk_frozen bP.out 1; have hfz22_2 := blk_frozen bP.out 2; have hfz22_3 := blk_frozen bP.out 3; have hfz22_4 := blk_frozen bP.out 4; obtain ⟨cx, co23, eo23⟩ := Kd.R_slice eQ.out; subst eo23; obtain ⟨jh, co24, eo24⟩ := Kd.R_slice eR.out; subst eo24))
    go_ret2
    exact ⟨_, p6z, p101z, p78z⟩
   rw [if_pos c5] at H
   have gI : (jV == 0) = true := beq_iff_eq.mpr c5
   have jv : (jV != 0) = false := bne_eq_false_iff_eq.mpr c5
   clear c5
   by_cases c6 : jU.length < 1954687338268
   case neg =>
    rw [if_neg c6] at H
    exact absurd H (by simp)
   rw [if_pos c6] at H
   have LMc6 := Aside0.mk c6
   clear c6
   obtain ⟨y247, hy247⟩ : ∃ y_ : List (S33), y_ = (jU ++ [(⟨fk, ft, fy, eK, eO⟩ : S33)]) := ⟨_, rfl⟩
   replace H : (if 0 ≤ fU then (if fU ≤ (cH.length : Int) then (aN.l0 k1 (cH.drop (fU : Int).toNat) y247) else (none)) else (none)) = some (r1, r2) := by first | (rw [hy247]; with_reducible exact H) | (have H2_ := (Option.bind_some _ _).symm.trans H; rw [hy247]; with_reducible exact H2_) | (have H2_ := (Option.bind_some _ _).symm.trans H; with_reducible exact H2_) | with_reducible exact H | (rw [hy247]; exact H) | exact H
   have Ny247 := Aside0.mk hy247
   clear hy247
   by_cases c7 : 0 ≤ fU
   case neg =>
    rw [if_neg c7] at H
    exact absurd H (by simp)
   rw [if_pos c7] at H
   have fs := eq_true c7
   have c7b1 : decide (0 ≤ fU) = true := decide_eq_true c7
   clear c7
   by_cases c8 : fU ≤ (cH.length : Int)
   case neg =>
    rw [if_neg c8] at H
    exact absurd H (by simp)
   rw [if_pos c8] at H
   have ij := eq_true c8
   have lz : decide (fU ≤ (cH.length : Int)) = true := decide_eq_true c8
   clear c8
   obtain ⟨y250, hy250⟩ : ∃ y_ : List Int, y_ = (cH.drop (fU : Int).toNat) := ⟨_, rfl⟩
   replace H : (aN.l0 k1 y250 y247) = some (r1, r2) := by first | (rw [hy250]; with_reducible exact H) | (have H2_ := (Option.bind_some _ _).symm.trans H; rw [hy250]; with_reducible exact H2_) | (have H2_ := (Option.bind_some _ _).symm.trans H; with_reducible exact H2_) | with_reducible exact H | (rw [hy250]; exact H) | exact H
   have Ny250 := Aside0.mk hy250
   clear hy250
   have H' := Aside0.mk H
   clear H
   obtain ⟨Ao9, co9, eo9⟩ := Kd.V_slice du.out
   subst eo9
   try go_wp2_with (first | ((with_reducible refine gate_callee (f := 24) rfl ?_); refine goesL_ (some 15) rfl rfl Try.func24 p16z rfl #[.slice Ao9 cH.length co9] rfl p2z ?_; (with_reducible refine (wire_Next.calls _ _ cH fk ft fy eK eO fU jV _ ?side1 ?side2 A4.out).mono ?_); (case side1 => exact p153z); (case side2 => exact (Kd.V_reads' du.out).2.1); rintro e w10 ⟨v239, v242, rfl, ho0, ho1, hb⟩; refine ⟨_, rfl, ?_⟩; have z_ := asi5 (Kd.V_mono (Kd.V_told (Kd.V_told (Kd.V_old p117z hb) (Kd.R_base ho0)) (Kd.R_base ho1)) (fun _ h_ => h_.1)) (Kd.S_mono (Kd.S_told (Kd.S_told (Kd.S_old p168z hb) (Kd.R_base ho0)) (Kd.R_base ho1)) (fun _ h_ => h_.1)) (Kd.R_lower (Kd.R_newM (M := fun k_ => (w.heap.size ≤ k_)) ho0 (below_size p0z) (fun k_ h_ => h_)) (below_size p0z)) (Kd.R_lower (Kd.R_newM (M := fun k_ => (w.heap.size ≤ k_)) ho1 (below_size p0z) (fun k_ h_ => h_)) (below_size p0z)) (below_step p0z hb); clear du bK HB; obtain ⟨du, bK, eQ, eR, HB⟩ := z_; (try clear hb ho0 ho1)) | ((with_reducible refine gate_dst (N := 4) rfl ?_); refine box_event ?hg (N := 4) ?hd (cs := #[.int .i64 0, .int .i64 0, .int .u64 0, .slice none 0 0, .slice none 0 0]) (t := 33) ?hr ?_; (case hd => rfl); (case hg => rfl); (case hr => exact p22z); intro bi hg w11 hbox hb; have z_ := asi8 (Kd.V_below (Kd.V_elderB p117z bi (Nat.le_of_eq hg.symm)) hb) (Kd.S_below (Kd.S_elderB p168z bi (Nat.le_of_eq hg.symm)) hb) (Kd.R_below (q0z eQ.out) hb) (Kd.R_below (q0z eR.out) hb) (below_step p0z hb) (hbox) ((p38z : w.heap.size ≤ bi)) ((p38z : w.heap.size ≤ bi)); clear du bK eQ eR HB; obtain ⟨du, bK, eQ, eR, HB, bP, GW246, ld⟩ := z_; clear hb hbox hg; have hcz12_0 : w11.cell? ⟨bi, 0, none⟩ = some (.int .i64 0) := (blk_cell bP.out 0).trans rfl; have hcz12_1 : w11.cell? ⟨bi, 1, none⟩ = some (.int .i64 0) := (blk_cell bP.out 1).trans rfl; have hcz12_2 : w11.cell? ⟨bi, 2, none⟩ = some (.int .u64 0) := (blk_cell bP.out 2).trans rfl; have hcz12_3 : w11.cell? ⟨bi, 3, none⟩ = some (.slice none 0 0) := (blk_cell bP.out 3).trans rfl; have hcz12_4 : w11.cell? ⟨bi, 4, none⟩ = some (.slice none 0 0) := (blk_cell bP.out 4).trans rfl; have hfz12_0 := blk_frozen bP.out 0; have hfz12_1 := blk_frozen bP.out 1; have hfz12_2 := blk_frozen bP.out 2; have hfz12_3 := blk_frozen bP.out 3; have hfz12_4 := blk_frozen bP.out 4; obtain ⟨df, co13, eo13⟩ := Kd.R_slice eQ.out; subst eo13; obtain ⟨dc, co14, eo14⟩ := Kd.R_slice eR.out; subst eo14))
   have n0_ : Aside0 (Kd.V (Kd.int .u8) 5 (((((w11.setCell ⟨bi, 0, none⟩ (.int .i64 fk)).setCell ⟨bi, 1, none⟩ (.int .i64 ft)).setCell ⟨bi, 2, none⟩ (.int .u64 fy)).setCell ⟨bi, 3, none⟩ (.slice df eK.length co13)).setCell ⟨bi, 4, none⟩ (.slice dc eO.length co14)) w.heap.size (fun k_ => (P0_ k_ ∨ w.heap.size ≤ k_) ∧ some k_ ≠ (u2 : Value).ownBlock ∧ some k_ ≠ (.slice df eK.length co13 : Value).ownBlock ∧ some k_ ≠ (.slice dc eO.length co14 : Value).ownBlock ∧ k_ ≠ bi) (.slice Ao9 cH.length co9) cH) := ⟨by (with_reducible repeat (first | apply Kd.V_alloc | apply Kd.V_drewN | apply Kd.V_drew)); exact Kd.V_mono (Kd.V_far (p := ⟨bi, 4, none⟩) (Kd.V_far (p := ⟨bi, 3, none⟩) (Kd.V_far (p := ⟨bi, 2, none⟩) (Kd.V_far (p := ⟨bi, 1, none⟩) (Kd.V_far (p := ⟨bi, 0, none⟩) (Kd.V_mono du.out (fun k_ hk => (⟨hk, hk.2⟩ : _ ∧ k_ ≠ bi))) (fun _ hk => hk.2) (.int .i64 fk)) (fun _ hk => hk.2) (.int .i64 ft)) (fun _ hk => hk.2) (.int .u64 fy)) (fun _ hk => hk.2) (.slice df eK.length co13)) (fun _ hk => hk.2) (.slice dc eO.length co14)) (fun _ hk => ⟨hk.1.1.1.1.1, ⟨hk.1.1.1.1.2, ⟨hk.1.1.1.2, ⟨hk.1.1.2, hk.1.2⟩⟩⟩⟩)⟩
   have n1_ : Aside0 (Kd.S k33 33 (((((w11.setCell ⟨bi, 0, none⟩ (.int .i64 fk)).setCell ⟨bi, 1, none⟩ (.int .i64 ft)).setCell ⟨bi, 2, none⟩ (.int .u64 fy)).setCell ⟨bi, 3, none⟩ (.slice df eK.length co13)).setCell ⟨bi, 4, none⟩ (.slice dc eO.length co14)) w.heap.size (fun k_ => (w.heap.size ≤ k_) ∧ some k_ ≠ (.slice df eK.length co13 : Value).ownBlock ∧ some k_ ≠ (.slice dc eO.length co14 : Value).ownBlock ∧ k_ ≠ bi) u2 jU) := ⟨by (with_reducible repeat (first | apply Kd.S_alloc | apply Kd.S_drewN | apply Kd.S_drew)); exact Kd.S_mono (Kd.S_far (p := ⟨bi, 4, none⟩) (Kd.S_far (p := ⟨bi, 3, none⟩) (Kd.S_far (p := ⟨bi, 2, none⟩) (Kd.S_far (p := ⟨bi, 1, none⟩) (Kd.S_far (p := ⟨bi, 0, none⟩) (Kd.S_mono bK.out (fun k_ hk => (⟨hk, hk.2⟩ : _ ∧ k_ ≠ bi))) (fun _ hk => hk.2) (.int .i64 fk)) (fun _ hk => hk.2) (.int .i64 ft)) (fun _ hk => hk.2) (.int .u64 fy)) (fun _ hk => hk.2) (.slice df eK.length co13)) (fun _ hk => hk.2) (.slice dc eO.length co14)) (fun _ hk => ⟨hk.1.1.1.1, ⟨hk.1.1.1.2, ⟨hk.1.1.2, hk.1.2⟩⟩⟩)⟩
   have n2_ : Aside0 (Kd.R (Kd.int .u8) 5 (((((w11.setCell ⟨bi, 0, none⟩ (.int .i64 fk)).setCell ⟨bi, 1, none⟩ (.int .i64 ft)).setCell ⟨bi, 2, none⟩ (.int .u64 fy)).setCell ⟨bi, 3, none⟩ (.slice df eK.length co13)).setCell ⟨bi, 4, none⟩ (.slice dc eO.length co14)) w.heap.size (fun k_ => (w.heap.size ≤ k_) ∧ some k_ ≠ (.slice dc eO.length co14 : Value).ownBlock) (.slice df eK.length co13) eK) := ⟨by (with_reducible repeat (first | apply Kd.R_alloc | apply Kd.R_drewN | apply Kd.R_drew)); exact Kd.R_mono (Kd.R_far (p := ⟨bi, 4, none⟩) (Kd.R_far (p := ⟨bi, 3, none⟩) (Kd.R_far (p := ⟨bi, 2, none⟩) (Kd.R_far (p := ⟨bi, 1, none⟩) (Kd.R_far (p := ⟨bi, 0, none⟩) (Kd.R_types eQ.out bP.out (by decide)) (fun _ hk => hk.2) (.int .i64 fk)) (fun _ hk => hk.2) (.int .i64 ft)) (fun _ hk => hk.2) (.int .u64 fy)) (fun _ hk => hk.2) (.slice df eK.length co13)) (fun _ hk => hk.2) (.slice dc eO.length co14)) (fun _ hk => ⟨hk.1.1, hk.1.2⟩)⟩
   have n3_ : Aside0 (Kd.R (Kd.int .u8) 5 (((((w11.setCell ⟨bi, 0, none⟩ (.int .i64 fk)).setCell ⟨bi, 1, none⟩ (.int .i64 ft)).setCell ⟨bi, 2, none⟩ (.int .u64 fy)).setCell ⟨bi, 3, none⟩ (.slice df eK.length co13)).setCell ⟨bi, 4, none⟩ (.slice dc eO.length co14)) w.heap.size (fun k_ => (w.heap.size ≤ k_) ∧ some k_ ≠ (.slice df eK.length co13 : Value).ownBlock) (.slice dc eO.length co14) eO) := ⟨by (with_reducible repeat (first | apply Kd.R_alloc | apply Kd.R_drewN | apply Kd.R_drew)); exact Kd.R_mono (Kd.R_far (p := ⟨bi, 4, none⟩) (Kd.R_far (p := ⟨bi, 3, none⟩) (Kd.R_far (p := ⟨bi, 2, none⟩) (Kd.R_far (p := ⟨bi, 1, none⟩) (Kd.R_far (p := ⟨bi, 0, none⟩) (Kd.R_types eR.out bP.out (by decide)) (fun _ hk => hk.2) (.int .i64 fk)) (fun _ hk => hk.2) (.int .i64 ft)) (fun _ hk => hk.2) (.int .u64 fy)) (fun _ hk => hk.2) (.slice df eK.length co13)) (fun _ hk => hk.2) (.slice dc eO.length co14)) (fun _ hk => ⟨hk.1.1, hk.1.2⟩)⟩
   have n4_ : Aside0 ((((((w11.setCell ⟨bi, 0, none⟩ (.int .i64 fk)).setCell ⟨bi, 1, none⟩ (.int .i64 ft)).setCell ⟨bi, 2, none⟩ (.int .u64 fy)).setCell ⟨bi, 3, none⟩ (.slice df eK.length co13)).setCell ⟨bi, 4, none⟩ (.slice dc eO.length co14)).heap[bi]? = some (.cells #[.int .i64 fk, .int .i64 ft, .int .u64 fy, .slice df eK.length co13, .slice dc eO.length co14] 33 (0, 0))) := ⟨by (with_reducible repeat (first | refine blk_drewN ?_ _ | refine blk_drew ?_ | refine blk_alloc ?_ _)); refine blk_put (cs := #[.int .i64 fk, .int .i64 ft, .int .u64 fy, .slice df eK.length co13, .slice none 0 0]) ?_ 4 _ rfl; (with_reducible repeat (first | refine blk_drewN ?_ _ | refine blk_drew ?_ | refine blk_alloc ?_ _)); refine blk_put (cs := #[.int .i64 fk, .int .i64 ft, .int .u64 fy, .slice none 0 0, .slice none 0 0]) ?_ 3 _ rfl; (with_reducible repeat (first | refine blk_drewN ?_ _ | refine blk_drew ?_ | refine blk_alloc ?_ _)); refine blk_put (cs := #[.int .i64 fk, .int .i64 ft, .int .u64 0, .slice none 0 0, .slice none 0 0]) ?_ 2 _ rfl; (with_reducible repeat (first | refine blk_drewN ?_ _ | refine blk_drew ?_ | refine blk_alloc ?_ _)); refine blk_put (cs := #[.int .i64 fk, .int .i64 0, .int .u64 0, .slice none 0 0, .slice none 0 0]) ?_ 1 _ rfl; (with_reducible repeat (first | refine blk_drewN ?_ _ | refine blk_drew ?_ | refine blk_alloc ?_ _)); refine blk_put (cs := #[.int .i64 0, .int .i64 0, .int .u64 0, .slice none 0 0, .slice none 0 0]) ?_ 0 _ rfl; (with_reducible repeat (first | refine blk_drewN ?_ _ | refine blk_drew ?_ | refine blk_alloc ?_ _)); exact bP.out⟩
   have n5_ : Aside0 (Below w.heap.size w (((((w11.setCell ⟨bi, 0, none⟩ (.int .i64 fk)).setCell ⟨bi, 1, none⟩ (.int .i64 ft)).setCell ⟨bi, 2, none⟩ (.int .u64 fy)).setCell ⟨bi, 3, none⟩ (.slice df eK.length co13)).setCell ⟨bi, 4, none⟩ (.slice dc eO.length co14))) := ⟨p78z⟩
   (try clear du)
   (try clear bK)
   (try clear eQ)
   (try clear eR)
   (try clear bP)
   (try clear HB)
   generalize (((((w11.setCell ⟨bi, 0, none⟩ (.int .i64 fk)).setCell ⟨bi, 1, none⟩ (.int .i64 ft)).setCell ⟨bi, 2, none⟩ (.int .u64 fy)).setCell ⟨bi, 3, none⟩ (.slice df eK.length co13)).setCell ⟨bi, 4, none⟩ (.slice dc eO.length co14)) = w15 at n0_ n1_ n2_ n3_ n4_ n5_ ⊢
   have du := n0_
   have bK := n1_
   have eQ := n2_
   have eR := n3_
   have bP := n4_
   have HB := n5_
   clear n0_ n1_ n2_ n3_ n4_ n5_
   have n0_ := Aside0.mk (Kd.V_drew du.out)
   have n1_ := Aside0.mk (Kd.S_drew bK.out)
   have n2_ := Aside0.mk (Kd.R_drew eQ.out)
   have n3_ := Aside0.mk (Kd.R_drew eR.out)
   have n4_ := Aside0.mk (blk_drew bP.out)
   have n5_ := Aside0.mk (below_drew1 HB.out)
   clear du
   clear bK
   clear eQ
   clear eR
   clear bP
   clear HB
   have du := n0_
   have bK := n1_
   have eQ := n2_
   have eR := n3_
   have bP := n4_
   have HB := n5_
   clear n0_ n1_ n2_ n3_ n4_ n5_
   have q17 : (fU : Int) ≤ ((cH.length : Int) : Int) := of_decide_eq_true p10z
   obtain ⟨i017, hi017, _, hsz17, _⟩ := info_parts info5
   have hroom17 : cH.length ≤ co9 := (Kd.V_reads' du.out).2.1
   have hC17 : Kd.F (Kd.int .u8) _ _ Ao9 cH.length cH := (Kd.V_at (base := w.heap.size) du.out).2.2
   have q017 : (0 : Int) ≤ (fU : Int) := of_decide_eq_true p10z
   have hcut17 := cut_from (P := Try.prog) 22 5 .i64 Try.underlying22 hi017 1 hsz17 Ao9 cH.length co9 fU q017 q17
   have hr17 := Kd.F_cut (m := (fU : Int).toNat) (c := co9) hC17 (by omega) hroom17
   obtain ⟨A17, hA17⟩ : ∃ A1, A1 = (if co9 = (fU : Int).toNat then Ao9 else (Ao9 : Option Addr).map (·.add ((fU : Int).toNat * 1))) := ⟨_, rfl⟩
   obtain ⟨c17, hc17⟩ : ∃ c1, c1 = co9 - (fU : Int).toNat := ⟨_, rfl⟩
   have hy17 : y250.length = cH.length - (fU : Int).toNat := (by rw [Ny250.out, List.length_drop] <;> omega)
   rw [show (cH).drop (fU : Int).toNat = y250 from Ny250.out.symm] at hr17
   replace hr17 : Kd.F (Kd.int .u8) _ _ A17 y250.length y250 := (by rw [hA17]; exact hr17)
   rw [← hy17, ← hA17, ← hc17] at hcut17
   have kf := Aside0.mk (show Kd.V (Kd.int .u8) 5 _ w.heap.size _ (.slice A17 y250.length c17) y250 from Kd.V_mk (by rw [hy17, hc17]; exact Nat.sub_le_sub_right hroom17 _) hr17)
   have HC254 := Aside0.mk (show y250.length ≤ c17 from by rw [hy17, hc17]; exact Nat.sub_le_sub_right hroom17 _)
   clear hr17 hC17 hroom17 hi017 hsz17 hc17
   have KY17 := Aside0.mk hy17
   have KA17 := Aside0.mk hA17
   clear hy17 hA17
   replace q17 := eq_true q17
   refine start_ (n := 9) (S := fun w' => w'.cell? ⟨bi, 0, none⟩ = some (.int .i64 fk) ∧ w'.cell? ⟨bi, 1, none⟩ = some (.int .i64 ft) ∧ w'.cell? ⟨bi, 2, none⟩ = some (.int .u64 fy) ∧ w'.cell? ⟨bi, 3, none⟩ = some (.slice df eK.length co13) ∧ w'.cell? ⟨bi, 4, none⟩ = some (.slice dc eO.length co14)) (ds := []) (tf 0 9) p16z rfl rfl ⟨(blk_cell bP.out 0).trans rfl, (blk_cell bP.out 1).trans rfl, (blk_cell bP.out 2).trans rfl, (blk_cell bP.out 3).trans rfl, (blk_cell bP.out 4).trans rfl⟩ (fun hHeld => ?_); refine with_tabW aN.tab7 aN.bits7 (fun HT_ HW_ => ?_)
   generalize w15.drew = w16 at du bK eQ eR bP HB kf hHeld ⊢
   refine pure_ (i := 0) (N := some 22) (v := ?_) (a' := ?_) (tf 1 8) rfl rfl (any_of HT_.out p16z) (fun _ _ _ h => h) (Or.inl ⟨by rfl, ?_⟩) ?_ ?_
   rotate_left
   ·intro w'
    go_simp
    with_reducible rfl
   rotate_left
   ·exact p1z
   refine pure_ (i := 4) (N := some 26) (v := ?_) (a' := ?_) (tfs true [1, 3, 1, 4]) rfl rfl (any_of HT_.out p16z) (fun _ _ _ h => h) (Or.inl ⟨by rfl, ?_⟩) ?_ ?_
   rotate_left
   ·intro w'
    go_simp
    with_reducible rfl
   rotate_left
   ·exact p1z
   refine pure_ (i := 5) (N := some 27) (v := ?_) (a' := ?_) (tfs true [1, 3, 2, 3]) rfl rfl (any_of HT_.out p16z) (fun _ _ _ h => h) (Or.inl ⟨by rfl, ?_⟩) ?_ ?_
   rotate_left
   ·intro w'
    go_simp
    with_reducible rfl
   rotate_left
   ·exact p1z
   refine pure_ (i := 6) (N := some 28) (v := ?_) (a' := ?_) (tfs true [1, 3, 3, 2]) rfl rfl (any_of HT_.out p16z) (fun _ _ _ h => h) (Or.inl ⟨by rfl, ?_⟩) ?_ ?_
   rotate_left
   ·intro w'
    go_simp
    with_reducible rfl
   rotate_left
   ·exact p1z
   refine take_ (i := 1) (N := some 23) (v := ?_) (a' := ?_) (tfs true [2, 2, 3, 2]) rfl rfl (take_ofW HT_.out HW_.out p16z) (fun _ _ _ h => h) (Or.inl ⟨by rfl, ?_⟩) hHeld ?_ ?_
   rotate_left
   ·rintro w' ⟨s0, s1, s2, s3, s4⟩
    go_simp
    with_reducible rfl
   rotate_left
   ·exact p1z
   refine one_ (i := 2) (N := some 24) (tfs true [3, 1, 3, 2]) rfl rfl (one_of HT_.out p16z) (by decide) (fun K hK => ?_)
   refine value_ (w1 := ?_) (v := ?_) (by rfl) rfl ?_ ?_
   rotate_left 2
   ·go_simp
    constructor
    ·rfl
    ·rfl
   refine hK.out _ _ ⟨(blk_cell (blk_alloc bP.out _) 0).trans rfl, (blk_cell (blk_alloc bP.out _) 1).trans rfl, (blk_cell (blk_alloc bP.out _) 2).trans rfl, (blk_cell (blk_alloc bP.out _) 3).trans rfl, (blk_cell (blk_alloc bP.out _) 4).trans rfl⟩ (fun hHeld => ?_)
   clear hK K
   refine norm_ (a' := ?_) ?_ ?_
   rotate_left
   ·show Act.put _ (some 24) _ = _
    simp only [Act.put, List.setIfInBounds_toArray, List.set_cons_zero, List.set_cons_succ, i64_w, i32_w]
    rfl
   refine one_ (i := 3) (N := some 25) (tf 7 2) rfl rfl (one_of HT_.out p16z) (by decide) (fun K hK => ?_)
   refine Kd.S_append_step k33 (w0 := w) w.heap.size (by rfl) (.tmp 22) (.tmp 24) 37 33 (.agg #[(.int .i64 0), (.int .i64 0), (.int .u64 0), (.slice none 0 0), (.slice none 0 0)]) 72 rfl Try.underlying37 info33 rfl (by decide) (by omega) u2 jU (⟨fk, ft, fy, eK, eO⟩ : S33) [.int .i64 fk, .int .i64 ft, .int .u64 fy, .slice df eK.length co13, .slice dc eO.length co14] (fun k_ => (w.heap.size ≤ k_) ∧ k_ ≠ bi) (fun k_ => some k_ = (.slice df eK.length co13 : Value).ownBlock ∨ some k_ = (.slice dc eO.length co14 : Value).ownBlock) rfl rfl ?aP (fun k_ hk_ => hk_.elim (fun h_ => ((Kd.R_mono (ok' := fun k_ => ((fun k_ => (w.heap.size ≤ k_) ∧ k_ ≠ bi)) k_ ∧ some k_ ≠ (u2 : Value).ownBlock) (Kd.R_types (Kd.R_apart' (eQ.out) (Kd.S_typed bK.out) (by decide)) bP.out (by decide)) (fun k_ hk => ⟨⟨hk.1.1.1, hk.2⟩, hk.1.2⟩))).1 k_ h_.symm) (fun h_ => ((Kd.R_mono (ok' := fun k_ => ((fun k_ => (w.heap.size ≤ k_) ∧ k_ ≠ bi)) k_ ∧ some k_ ≠ (u2 : Value).ownBlock) (Kd.R_types (Kd.R_apart' (eR.out) (Kd.S_typed bK.out) (by decide)) bP.out (by decide)) (fun k_ hk => ⟨⟨hk.1.1.1, hk.2⟩, hk.1.2⟩))).1 k_ h_.symm)) ?aF ?aO ?aB ?aS ?aL ?_
   (case aP => exact k33_mkM _ _ _ (⟨fk, ft, fy, eK, eO⟩ : S33) (Kd.R_mono (Kd.R_tight rfl (Kd.R_mono (ok' := fun k_ => ((fun k_ => (w.heap.size ≤ k_) ∧ k_ ≠ bi)) k_ ∧ some k_ ≠ (u2 : Value).ownBlock) (Kd.R_types (Kd.R_apart' (eQ.out) (Kd.S_typed bK.out) (by decide)) bP.out (by decide)) (fun k_ hk => ⟨⟨hk.1.1.1, hk.2⟩, hk.1.2⟩))) (fun _ h_ => Or.inl h_)) (Kd.R_mono (Kd.R_tight rfl (Kd.R_mono (ok' := fun k_ => ((fun k_ => (w.heap.size ≤ k_) ∧ k_ ≠ bi)) k_ ∧ some k_ ≠ (u2 : Value).ownBlock) (Kd.R_types (Kd.R_apart' (eR.out) (Kd.S_typed bK.out) (by decide)) bP.out (by decide)) (fun k_ hk => ⟨⟨hk.1.1.1, hk.2⟩, hk.1.2⟩))) (fun _ h_ => Or.inr (h_))))
   (case aB => exact p78z)
   (case aF => exact (fun k_ hk => ⟨(Nat.le_trans (below_size p78z) hk), Kd.freshB (g := bi) (o := .cells #[.int .i64 fk, .int .i64 ft, .int .u64 fy, .slice df eK.length co13, .slice dc eO.length co14] 33 (0, 0)) (q1z bP.out) k_ hk⟩))
   (case aO => exact (by (with_reducible repeat (first | apply Kd.S_alloc | apply Kd.S_drewN | apply Kd.S_drew)); exact Kd.S_mono bK.out (fun k_ hk => ⟨⟨hk.1, hk.2.2.2⟩, fun e_ => e_.elim (fun h_ => hk.2.1 h_) (fun h_ => hk.2.2.1 h_)⟩)))
   (case aS => exact (below_size p78z))
   (case aL => have := LMc6.out; omega)
   intro v248 w18 ho hb hg hat
   rw [← Ny247.out] at ho
   have n0_ := Aside0.mk (Kd.V_afterv (ok := (fun k_ => (P0_ k_ ∨ w.heap.size ≤ k_) ∧ some k_ ≠ (.slice df eK.length co13 : Value).ownBlock ∧ some k_ ≠ (.slice dc eO.length co14 : Value).ownBlock ∧ k_ ≠ bi)) p220z hg hat)
   have n1_ := Aside0.mk (blk_grown (g := bi) (o := .cells #[.int .i64 fk, .int .i64 ft, .int .u64 fy, .slice df eK.length co13, .slice dc eO.length co14] 33 (0, 0)) (q1z bP.out) hg (Kd.S_away bK.out (fun _ hk => hk.2.2.2)))
   have n2_ := Aside0.mk (Kd.V_afterv (ok := (fun k_ => (P0_ k_ ∨ w.heap.size ≤ k_) ∧ some k_ ≠ (.slice df eK.length co13 : Value).ownBlock ∧ some k_ ≠ (.slice dc eO.length co14 : Value).ownBlock ∧ k_ ≠ bi)) (by (with_reducible repeat (first | apply Kd.V_alloc | apply Kd.V_drewN | apply Kd.V_drew)); exact Kd.V_mono kf.out (fun _ hk => ⟨⟨hk.1, ⟨hk.2.2.1, ⟨hk.2.2.2.1, hk.2.2.2.2⟩⟩⟩, hk.2.1⟩)) hg hat)
   have n3_ := Aside0.mk (hb)
   have n4_ := Aside0.mk (ho)
   clear du
   clear bP
   clear kf
   clear HB
   clear bK
   clear eQ
   clear eR
   have du := n0_
   have bP := n1_
   have kf := n2_
   have HB := n3_
   have jH := n4_
   clear n0_ n1_ n2_ n3_ n4_
   clear ho hb hg hat
   refine hK.out _ _ ⟨(blk_cell bP.out 0).trans rfl, (blk_cell bP.out 1).trans rfl, (blk_cell bP.out 2).trans rfl, (blk_cell bP.out 3).trans rfl, (blk_cell bP.out 4).trans rfl⟩ (fun hHeld => ?_)
   clear hK K
   refine norm_ (a' := ?_) ?_ ?_
   rotate_left
   ·show Act.put _ (some 25) _ = _
    simp only [Act.put, List.setIfInBounds_toArray, List.set_cons_zero, List.set_cons_succ, i64_w, i32_w]
    rfl
   refine pure_ (i := 7) (N := some 2) (v := ?_) (a' := ?_) (tf 8 1) rfl rfl (any_of HT_.out p16z) (fun _ _ _ h => h) (Or.inl ⟨by rfl, ?_⟩) ?_ ?_
   rotate_left
   ·intro w'
    go_simp
    with_reducible rfl
   rotate_left
   ·exact p1z
   refine pure_ (i := 8) (N := some 0) (v := ?_) (a' := ?_) (tf 9 0) rfl rfl (any_of HT_.out p16z) (fun _ _ _ h => h) (Or.inl ⟨by rfl, ?_⟩) ?_ ?_
   rotate_left
   ·intro w'
    go_simp
    with_reducible rfl
   rotate_left
   ·exact p1z
   refine done_ (done_of HT_.out p16z) ?_
   try go_wp2
   go_roundg k1
   case measure => have := HK1.out; omega
   case rel => exact ⟨(y250), (y247), H', ⟨p217z⟩, ⟨by (with_reducible repeat (first | apply Kd.V_alloc | apply Kd.V_drewN | apply Kd.V_drew)); exact Kd.V_mono kf.out (fun _ hk => ⟨hk.1.1, hk.2⟩)⟩, ⟨by (with_reducible repeat (first | apply Kd.S_alloc | apply Kd.S_drewN | apply Kd.S_drew)); exact Kd.S_mono jH.out (fun _ hk => hk.1)⟩, ⟨p78z⟩⟩
end Go.Proofs.Ytbclejgljegfmaa.PAll
