-- Written by this repo's program wip/tools/pr.py (over the kit's print) out of the translation. Not trusted: Lean checks it.
import Derived.Test.YtbclejgljegfmaaPAllx0
import Derived.Test.YtbclejgljegfmaaGA
import Derived.Test.YtbclejgljegfmaaGN
import Derived.Test.YtbclejgljegfmaaHandBytes
import Derived.Test.YtbclejgljegfmaaHandWorks
namespace Go.Proofs.Ytbclejgljegfmaa.PAll
open Go.Proofs.Ytbclejgljegfmaa.Hand
open Go.RowKit Go.Proofs.YtbclejgljegfmaaW.PrintWords Go.Proofs.YtbclejgljegfmaaW.PrintLast Go.Proofs.YtbclejgljegfmaaW.PrintMore
attribute [local go_sem] max2_int min2_int max_two min_two max_three min_three max_four min_four   -- for this text's walks alone
attribute [-simp] List.length_take List.length_drop ByteArray.size_extract
set_option linter.unusedVariables false
set_option linter.unusedSimpArgs false

/-! ### signetrylaw01_WireJoins: function 8 -/
mutual
def signetrylaw01_WireJoins.j1 : Nat → List (S33) → Option (Bool)
  | 0, _ => none
  | k + 1, x3 => (wire_Bytes.f x3).bind fun bt518 => ((signetryref01_Bytes.f k x3).bind fun bt522 => ((signetryref00_EqBytes.f bt518.1 bt522.1).bind fun t526 => (if t526 = true then (if bt518.2 = bt522.2 then ((signetrylaw01_works.f).bind fun t527 => (some t527)) else (none)) else (none))))
def signetrylaw01_WireJoins.l0 : Nat → List (S33) → List (S33) → Int → Option (Bool)
  | 0, _, _, _ => none
  | k + 1, x0, x3, x4 => if x4 < (x0.length : Int) then (if x4 < 40 then (if 0 ≤ x4 then (if 0 ≤ (mn (((rd_T33 x0 x4).f3).length : Int) 60) then (if (mn (((rd_T33 x0 x4).f3).length : Int) 60) ≤ (((rd_T33 x0 x4).f3).length : Int) then (if 0 ≤ (mn (((rd_T33 x0 x4).f4).length : Int) 60) then (if (mn (((rd_T33 x0 x4).f4).length : Int) 60) ≤ (((rd_T33 x0 x4).f4).length : Int) then ((signetryref01_Copy.f ((rd_T33 x0 x4).f0) ((rd_T33 x0 x4).f1) ((rd_T33 x0 x4).f2) (((rd_T33 x0 x4).f3).take ((mn (((rd_T33 x0 x4).f3).length : Int) 60) : Int).toNat) (((rd_T33 x0 x4).f4).take ((mn (((rd_T33 x0 x4).f4).length : Int) 60) : Int).toNat)).bind fun bt506 => (if x3.length < 1954687338268 then (signetrylaw01_WireJoins.l0 k x0 (x3 ++ [(⟨bt506.1, bt506.2.1, bt506.2.2.1, bt506.2.2.2.1, bt506.2.2.2.2⟩ : S33)]) (wrap64 (x4 + 1))) else (none))) else (none)) else (none)) else (none)) else (none)) else (none)) else (signetrylaw01_WireJoins.j1 k x3)) else (signetrylaw01_WireJoins.j1 k x3)
end
def signetrylaw01_WireJoins.f (k : Nat) (l0 : List (S33)) : Option (Bool) := signetrylaw01_WireJoins.l0 k l0 ([] : List (S33)) 0
theorem signetrylaw01_WireJoins.mono_l : ∀ k, (∀ y0, LeO (signetrylaw01_WireJoins.j1 k y0) (signetrylaw01_WireJoins.j1 (k + 1) y0)) ∧ (∀ y0 y1 y2, LeO (signetrylaw01_WireJoins.l0 k y0 y1 y2) (signetrylaw01_WireJoins.l0 (k + 1) y0 y1 y2))
  | 0 => ⟨fun _ r h => by simp [signetrylaw01_WireJoins.j1] at h, fun _ _ _ r h => by simp [signetrylaw01_WireJoins.l0] at h⟩
  | k + 1 => by
    obtain ⟨ih0, ih1⟩ := signetrylaw01_WireJoins.mono_l k
    refine ⟨?_, ?_⟩
    · intro y0
      unfold signetrylaw01_WireJoins.j1
      repeat' first
      | (with_reducible exact ih0 _)
      | (with_reducible exact ih1 _ _ _)
      | (with_reducible exact signetryref01_Bytes.mono _ _)
      | (with_reducible exact LeO.refl _)
      | (with_reducible exact LeO.none _)
      | (with_reducible refine LeO.ite ?_ ?_)
      | (with_reducible refine LeO.bind ?_ (fun _ => ?_))
      | exact ih0 _
      | exact ih1 _ _ _
      | exact signetryref01_Bytes.mono _ _
      | exact LeO.none _
      | refine LeO.ite ?_ ?_
      | refine LeO.bind ?_ (fun _ => ?_)
    · intro y0 y1 y2
      unfold signetrylaw01_WireJoins.l0
      repeat' first
      | (with_reducible exact ih0 _)
      | (with_reducible exact ih1 _ _ _)
      | (with_reducible exact signetryref01_Bytes.mono _ _)
      | (with_reducible exact LeO.refl _)
      | (with_reducible exact LeO.none _)
      | (with_reducible refine LeO.ite ?_ ?_)
      | (with_reducible refine LeO.bind ?_ (fun _ => ?_))
      | exact ih0 _
      | exact ih1 _ _ _
      | exact signetryref01_Bytes.mono _ _
      | exact LeO.none _
      | refine LeO.ite ?_ ?_
      | refine LeO.bind ?_ (fun _ => ?_)
theorem signetrylaw01_WireJoins.mono : ∀ a0 k, LeO (signetrylaw01_WireJoins.f k a0) (signetrylaw01_WireJoins.f (k + 1) a0) := by
  intro a0 k
  obtain ⟨ih0, ih1⟩ := signetrylaw01_WireJoins.mono_l k
  unfold signetrylaw01_WireJoins.f
  repeat' first
      | (with_reducible exact ih0 _)
      | (with_reducible exact ih1 _ _ _)
      | (with_reducible exact signetryref01_Bytes.mono _ _)
      | (with_reducible exact LeO.refl _)
      | (with_reducible exact LeO.none _)
      | (with_reducible refine LeO.ite ?_ ?_)
      | (with_reducible refine LeO.bind ?_ (fun _ => ?_))
      | exact ih0 _
      | exact ih1 _ _ _
      | exact signetryref01_Bytes.mono _ _
      | exact LeO.none _
      | refine LeO.ite ?_ ?_
      | refine LeO.bind ?_ (fun _ => ?_)
def signetrylaw01_WireJoins.T6 : Bool × List (List Nat × List Nat) := (true, [([], []), ([0], [0]), ([], []), ([2], [2]), ([3], [3]), ([4], [4]), ([1, 5], [1, 5]), ([], []), ([7], [7]), ([], []), ([9], [9]), ([10], [10]), ([11], [11]), ([8, 12], [8, 12]), ([0, 1, 2, 3, 4, 5, 6, 7, 8, 9, 10], []), ([14, 6, 0, 1, 2, 3, 4, 5, 6, 7, 8, 9, 10], [6, 14]), ([0, 1, 2, 3, 4, 5, 6, 7, 8, 9, 10, 11, 12, 13, 14, 15], []), ([16, 13, 15, 0, 1, 2, 3, 4, 5, 6, 7, 8, 9, 10, 11, 12, 13, 14, 15], [13, 16])])
def signetrylaw01_WireJoins.B6 : List Nat := [0, 1, 0, 4, 12, 28, 63, 0, 128, 0, 512, 1536, 3584, 8064, 2047, 18431, 65535, 131071]
theorem signetrylaw01_WireJoins.tab6 : rtab .any (opsOf Try.f8 6) = signetrylaw01_WireJoins.T6 := by kernel_rfl
theorem signetrylaw01_WireJoins.bits6 : waitsOk signetrylaw01_WireJoins.T6.2 signetrylaw01_WireJoins.B6 = true := by kernel_rfl
set_option maxHeartbeats 8000000 in
set_option maxRecDepth 100000 in
theorem signetrylaw01_WireJoins.calls (k : Nat) (A0 : Option Addr) (c0 : Nat) (l0 : List (S33)) (r : Bool) (w : World) (hr0 : Kd.C k33 w A0 l0.length l0) (hc0 : l0.length ≤ c0) (h : signetrylaw01_WireJoins.f k l0 = some r) :
    Calls Try.prog 8 #[.slice A0 l0.length c0] w fun e w' => e = .returned (.bool r) ∧ Below w.heap.size w w' := by
  have hu33 := Try.underlying33
  have HR0 := Aside0.mk hr0
  have HC0 := Aside0.mk hc0
  clear hr0 hc0
  have HB := Aside0.mk (Below.refl w.heap.size w)
  have H : (signetrylaw01_WireJoins.l0 k l0 ([] : List (S33)) 0) = some r := h
  clear h
  have HC2 := Aside0.mk H
  clear H
  go_enter Try.func8, Try.ntmps8
  go_upto_block 0 with (fail)
  go_cut [3] (fun v3 wc => ∃ (kq : Nat) (x3_1 : List (S33)), Aside0 (signetrylaw01_WireJoins.j1 kq x3_1 = some r) ∧ Aside0 (kq ≤ k) ∧ Aside0 (Kd.S k33 33 wc w.heap.size (fun _ => True) v3 x3_1) ∧ Aside0 (Below w.heap.size w wc))
  case first =>
    have H := HC2.out
    clear HC2
    have H' := Aside0.mk H
    clear H
    go_wp2
    go_loopg [3, 4] k (fun kq v3 v4 w' => ∃ (x3_1 : List (S33)) (x4_1 : Int), v4 = .int .i64 x4_1 ∧ Aside0 (signetrylaw01_WireJoins.l0 kq l0 x3_1 x4_1 = some r) ∧ Aside0 (kq ≤ k) ∧ Aside0 (Kd.S k33 33 w' w.heap.size (fun _ => True) v3 x3_1) ∧ Aside0 (Below w.heap.size w w'))
    case atStart => exact ⟨(([] : List (S33))), (0), (by first | rfl | (simp; done) | (simp [*]; done)), H', ⟨Nat.le_refl _⟩, ⟨by first | exact Kd.S_nil _ _ _ _ _ | exact Kd.N_nil _ _ _ _ _ | exact Kd.V_nil _ _ _ _ _ | exact Kd.Q_nil _ _ _ _ _ | exact Kd.R_nil _ _ _ _ _⟩, ⟨by repeat (first | (with_reducible first | exact HB.out | apply below_alloc | apply pw_below_drewN | apply below_drew1) | exact HB.out)⟩⟩
    case round =>
      clear H'
      try clear p2
      obtain ⟨x3_1, x4_1, rfl, HA, HK1, HO_3, HB⟩ := hrel
      cases gk with
      | zero => exact absurd HA.out (by simp [signetrylaw01_WireJoins.l0])
      | succ k1 =>
        have H := HA.out
        clear HA
        simp only [signetrylaw01_WireJoins.l0] at H
        by_cases c3 : x4_1 < (l0.length : Int)
        · rw [if_pos c3] at H
          have c3b0 : decide (x4_1 < (l0.length : Int)) = true := decide_eq_true c3
          clear c3
          (first | rw [c3b0] | (simp only [i64_w, i32_w]; rw [c3b0]) | skip)
          by_cases c4 : x4_1 < 40
          · rw [if_pos c4] at H
            have c4b0 : decide (x4_1 < 40) = true := decide_eq_true c4
            clear c4
            by_cases c5 : 0 ≤ x4_1
            · rw [if_pos c5] at H
              have c5b0 : decide (0 ≤ x4_1) = true := decide_eq_true c5
              clear c5
              obtain ⟨ji6, hji6⟩ : ∃ j_ : Int, (mn (((rd_T33 l0 x4_1).f3).length : Int) 60) = j_ := ⟨_, rfl⟩
              replace H : (if 0 ≤ (ji6) then (if (ji6) ≤ (((rd_T33 l0 x4_1).f3).length : Int) then (if 0 ≤ (mn (((rd_T33 l0 x4_1).f4).length : Int) 60) then (if (mn (((rd_T33 l0 x4_1).f4).length : Int) 60) ≤ (((rd_T33 l0 x4_1).f4).length : Int) then ((signetryref01_Copy.f ((rd_T33 l0 x4_1).f0) ((rd_T33 l0 x4_1).f1) ((rd_T33 l0 x4_1).f2) (((rd_T33 l0 x4_1).f3).take ((ji6) : Int).toNat) (((rd_T33 l0 x4_1).f4).take ((mn (((rd_T33 l0 x4_1).f4).length : Int) 60) : Int).toNat)).bind fun bt506 => (if x3_1.length < 1954687338268 then (signetrylaw01_WireJoins.l0 k1 l0 (x3_1 ++ [(⟨bt506.1, bt506.2.1, bt506.2.2.1, bt506.2.2.2.1, bt506.2.2.2.2⟩ : S33)]) (wrap64 (x4_1 + 1))) else (none))) else (none)) else (none)) else (none)) else (none)) = some r := by first | (rw [hji6] at H; exact H) | (simp only [hji6] at H ⊢; exact H)
              have hji6_ : (if 60 < (((rd_T33 l0 x4_1).f3).length : Int) then 60 else (((rd_T33 l0 x4_1).f3).length : Int)) = ji6 := hji6
              by_cases c7 : 0 ≤ (ji6)
              · rw [if_pos c7] at H
                have c7b0 := eq_true c7
                have c7b1 : decide (0 ≤ (ji6)) = true := decide_eq_true c7
                clear c7
                by_cases c8 : (ji6) ≤ (((rd_T33 l0 x4_1).f3).length : Int)
                · rw [if_pos c8] at H
                  have c8b0 := eq_true c8
                  have c8b1 : decide ((ji6) ≤ (((rd_T33 l0 x4_1).f3).length : Int)) = true := decide_eq_true c8
                  clear c8
                  obtain ⟨ji9, hji9⟩ : ∃ j_ : Int, (mn (((rd_T33 l0 x4_1).f4).length : Int) 60) = j_ := ⟨_, rfl⟩
                  replace H : (if 0 ≤ (ji9) then (if (ji9) ≤ (((rd_T33 l0 x4_1).f4).length : Int) then ((signetryref01_Copy.f ((rd_T33 l0 x4_1).f0) ((rd_T33 l0 x4_1).f1) ((rd_T33 l0 x4_1).f2) (((rd_T33 l0 x4_1).f3).take ((ji6) : Int).toNat) (((rd_T33 l0 x4_1).f4).take ((ji9) : Int).toNat)).bind fun bt506 => (if x3_1.length < 1954687338268 then (signetrylaw01_WireJoins.l0 k1 l0 (x3_1 ++ [(⟨bt506.1, bt506.2.1, bt506.2.2.1, bt506.2.2.2.1, bt506.2.2.2.2⟩ : S33)]) (wrap64 (x4_1 + 1))) else (none))) else (none)) else (none)) = some r := by first | (rw [hji9] at H; exact H) | (simp only [hji9] at H ⊢; exact H)
                  have hji9_ : (if 60 < (((rd_T33 l0 x4_1).f4).length : Int) then 60 else (((rd_T33 l0 x4_1).f4).length : Int)) = ji9 := hji9
                  by_cases c10 : 0 ≤ (ji9)
                  · rw [if_pos c10] at H
                    have c10b0 := eq_true c10
                    have c10b1 : decide (0 ≤ (ji9)) = true := decide_eq_true c10
                    clear c10
                    by_cases c11 : (ji9) ≤ (((rd_T33 l0 x4_1).f4).length : Int)
                    · rw [if_pos c11] at H
                      have c11b0 := eq_true c11
                      have c11b1 : decide ((ji9) ≤ (((rd_T33 l0 x4_1).f4).length : Int)) = true := decide_eq_true c11
                      clear c11
                      replace H := Option.bind_eq_some_iff.mp H
                      obtain ⟨⟨t506, t507, t508, t509, t512⟩, A120, H⟩ := H
                      replace H : (if x3_1.length < 1954687338268 then (signetrylaw01_WireJoins.l0 k1 l0 (x3_1 ++ [(⟨t506, t507, t508, t509, t512⟩ : S33)]) (wrap64 (x4_1 + 1))) else (none)) = some r := H
                      have A12 := Aside0.mk A120
                      clear A120
                      by_cases c13 : x3_1.length < 1954687338268
                      · rw [if_pos c13] at H
                        have LMc13 := Aside0.mk c13
                        clear c13
                        obtain ⟨y515, hy515⟩ : ∃ y_ : List (S33), y_ = (x3_1 ++ [(⟨t506, t507, t508, t509, t512⟩ : S33)]) := ⟨_, rfl⟩
                        replace H : (signetrylaw01_WireJoins.l0 k1 l0 y515 (wrap64 (x4_1 + 1))) = some r := by first | (rw [hy515]; with_reducible exact H) | (have H2_ := (Option.bind_some _ _).symm.trans H; rw [hy515]; with_reducible exact H2_) | (have H2_ := (Option.bind_some _ _).symm.trans H; with_reducible exact H2_) | with_reducible exact H | (rw [hy515]; exact H) | exact H
                        have Ny515 := Aside0.mk hy515
                        clear hy515
                        have H' := Aside0.mk H
                        clear H
                        have p502 : 0 ≤ (x4_1 : Int) := of_decide_eq_true (by first | (with_reducible assumption) | assumption)
                        have q502 : x4_1 < (l0.length : Int) := of_decide_eq_true (by first | (with_reducible assumption) | assumption)
                        obtain ⟨ad502, A502_3, c502_3, A502_4, c502_4, e502, hx502_0, hx502_1, hx502_2, hx502_3, hx502_4, hl502_3, hi502_3, hl502_4, hi502_4⟩ := at_T33 HR0.out x4_1 p502 q502
                        cases e502
                        replace hx502_0 := (HB.out.cell (World.block_lt_of_cell? w _ hx502_0)).trans hx502_0
                        replace hx502_1 := (HB.out.cell (World.block_lt_of_cell? w _ hx502_1)).trans hx502_1
                        replace hx502_2 := (HB.out.cell (World.block_lt_of_cell? w _ hx502_2)).trans hx502_2
                        replace hx502_3 := (HB.out.cell (World.block_lt_of_cell? w _ hx502_3)).trans hx502_3
                        replace hx502_4 := (HB.out.cell (World.block_lt_of_cell? w _ hx502_4)).trans hx502_4
                        have HR502_3 := Aside0.mk hi502_3
                        have HC502_3 := Aside0.mk hl502_3
                        clear hi502_3 hl502_3
                        have HR502_4 := Aside0.mk hi502_4
                        have HC502_4 := Aside0.mk hl502_4
                        clear hi502_4 hl502_4
                        replace p502 := eq_true p502
                        replace q502 := eq_true q502
                        try go_wp2_with (first | ((with_reducible refine gate_dst (N := 5) rfl ?_); refine box_event ?hg (N := 5) ?hd (cs := #[.int .i64 0, .int .i64 0, .int .u64 0, .slice none 0 0, .slice none 0 0]) (t := 33) ?hr ?_; (case hd => rfl); (case hg => rfl); (case hr => first | (go_simp; done) | (go_simp; rfl)); intro gb503 hg w14 hbox hb; have n0_ := Aside0.mk (Kd.S_below (Kd.S_elderB (by (with_reducible repeat (first | apply Kd.S_alloc | apply Kd.S_drewN | apply Kd.S_drew)); exact HO_3.out) gb503 (Nat.le_of_eq hg.symm)) hb); have n1_ := Aside0.mk (below_step (by repeat (first | (with_reducible first | exact HB.out | apply below_alloc | apply pw_below_drewN | apply below_drew1) | exact HB.out)) hb); have n2_ := Aside0.mk (hbox); have n3_ := Aside0.mk ((by rw [hg]; exact (below_size (by repeat (first | (with_reducible first | exact HB.out | apply below_alloc | apply pw_below_drewN | apply below_drew1) | exact HB.out))) : w.heap.size ≤ gb503)); have n4_ := Aside0.mk ((by rw [hg]; exact (below_size (by repeat (first | (with_reducible first | exact HB.out | apply below_alloc | apply pw_below_drewN | apply below_drew1) | exact HB.out))) : w.heap.size ≤ gb503)); clear HO_3; clear HB; have HO_3 := n0_; have HB := n1_; have BK503 := n2_; have GW503 := n3_; have GE503 := n4_; clear n0_ n1_ n2_ n3_ n4_; clear hb hbox hg; have hcz15_0 : w14.cell? ⟨gb503, 0, none⟩ = some (.int .i64 0) := (blk_cell BK503.out 0).trans rfl; have hcz15_1 : w14.cell? ⟨gb503, 1, none⟩ = some (.int .i64 0) := (blk_cell BK503.out 1).trans rfl; have hcz15_2 : w14.cell? ⟨gb503, 2, none⟩ = some (.int .u64 0) := (blk_cell BK503.out 2).trans rfl; have hcz15_3 : w14.cell? ⟨gb503, 3, none⟩ = some (.slice none 0 0) := (blk_cell BK503.out 3).trans rfl; have hcz15_4 : w14.cell? ⟨gb503, 4, none⟩ = some (.slice none 0 0) := (blk_cell BK503.out 4).trans rfl; have hfz15_0 := blk_frozen BK503.out 0; have hfz15_1 := blk_frozen BK503.out 1; have hfz15_2 := blk_frozen BK503.out 2; have hfz15_3 := blk_frozen BK503.out 3; have hfz15_4 := blk_frozen BK503.out 4))
                        have n0_ : Aside0 (Kd.S k33 33 (((((w14.setCell ⟨gb503, 0, none⟩ (.int .i64 ((rd_T33 l0 x4_1).f0))).setCell ⟨gb503, 1, none⟩ (.int .i64 ((rd_T33 l0 x4_1).f1))).setCell ⟨gb503, 2, none⟩ (.int .u64 ((rd_T33 l0 x4_1).f2))).setCell ⟨gb503, 3, none⟩ (.slice A502_3 ((rd_T33 l0 x4_1).f3).length c502_3)).setCell ⟨gb503, 4, none⟩ (.slice A502_4 ((rd_T33 l0 x4_1).f4).length c502_4)) w.heap.size (fun k_ => k_ ≠ gb503) u3 x3_1) := ⟨by (with_reducible repeat (first | apply Kd.S_alloc | apply Kd.S_drewN | apply Kd.S_drew)); exact Kd.S_mono (Kd.S_far (p := ⟨gb503, 4, none⟩) (Kd.S_far (p := ⟨gb503, 3, none⟩) (Kd.S_far (p := ⟨gb503, 2, none⟩) (Kd.S_far (p := ⟨gb503, 1, none⟩) (Kd.S_far (p := ⟨gb503, 0, none⟩) (Kd.S_mono HO_3.out (fun k_ hk => (⟨hk, hk.2⟩ : _ ∧ k_ ≠ gb503))) (fun _ hk => hk.2) (.int .i64 ((rd_T33 l0 x4_1).f0))) (fun _ hk => hk.2) (.int .i64 ((rd_T33 l0 x4_1).f1))) (fun _ hk => hk.2) (.int .u64 ((rd_T33 l0 x4_1).f2))) (fun _ hk => hk.2) (.slice A502_3 ((rd_T33 l0 x4_1).f3).length c502_3)) (fun _ hk => hk.2) (.slice A502_4 ((rd_T33 l0 x4_1).f4).length c502_4)) (fun _ hk => hk.1.2)⟩
                        have n1_ : Aside0 ((((((w14.setCell ⟨gb503, 0, none⟩ (.int .i64 ((rd_T33 l0 x4_1).f0))).setCell ⟨gb503, 1, none⟩ (.int .i64 ((rd_T33 l0 x4_1).f1))).setCell ⟨gb503, 2, none⟩ (.int .u64 ((rd_T33 l0 x4_1).f2))).setCell ⟨gb503, 3, none⟩ (.slice A502_3 ((rd_T33 l0 x4_1).f3).length c502_3)).setCell ⟨gb503, 4, none⟩ (.slice A502_4 ((rd_T33 l0 x4_1).f4).length c502_4)).heap[gb503]? = some (.cells #[.int .i64 ((rd_T33 l0 x4_1).f0), .int .i64 ((rd_T33 l0 x4_1).f1), .int .u64 ((rd_T33 l0 x4_1).f2), .slice A502_3 ((rd_T33 l0 x4_1).f3).length c502_3, .slice A502_4 ((rd_T33 l0 x4_1).f4).length c502_4] 33 (0, 0))) := ⟨by (with_reducible repeat (first | refine blk_drewN ?_ _ | refine blk_drew ?_ | refine blk_alloc ?_ _)); refine blk_put (cs := #[.int .i64 ((rd_T33 l0 x4_1).f0), .int .i64 ((rd_T33 l0 x4_1).f1), .int .u64 ((rd_T33 l0 x4_1).f2), .slice A502_3 ((rd_T33 l0 x4_1).f3).length c502_3, .slice none 0 0]) ?_ 4 _ rfl; (with_reducible repeat (first | refine blk_drewN ?_ _ | refine blk_drew ?_ | refine blk_alloc ?_ _)); refine blk_put (cs := #[.int .i64 ((rd_T33 l0 x4_1).f0), .int .i64 ((rd_T33 l0 x4_1).f1), .int .u64 ((rd_T33 l0 x4_1).f2), .slice none 0 0, .slice none 0 0]) ?_ 3 _ rfl; (with_reducible repeat (first | refine blk_drewN ?_ _ | refine blk_drew ?_ | refine blk_alloc ?_ _)); refine blk_put (cs := #[.int .i64 ((rd_T33 l0 x4_1).f0), .int .i64 ((rd_T33 l0 x4_1).f1), .int .u64 0, .slice none 0 0, .slice none 0 0]) ?_ 2 _ rfl; (with_reducible repeat (first | refine blk_drewN ?_ _ | refine blk_drew ?_ | refine blk_alloc ?_ _)); refine blk_put (cs := #[.int .i64 ((rd_T33 l0 x4_1).f0), .int .i64 0, .int .u64 0, .slice none 0 0, .slice none 0 0]) ?_ 1 _ rfl; (with_reducible repeat (first | refine blk_drewN ?_ _ | refine blk_drew ?_ | refine blk_alloc ?_ _)); refine blk_put (cs := #[.int .i64 0, .int .i64 0, .int .u64 0, .slice none 0 0, .slice none 0 0]) ?_ 0 _ rfl; (with_reducible repeat (first | refine blk_drewN ?_ _ | refine blk_drew ?_ | refine blk_alloc ?_ _)); exact BK503.out⟩
                        have n2_ : Aside0 (Below w.heap.size w (((((w14.setCell ⟨gb503, 0, none⟩ (.int .i64 ((rd_T33 l0 x4_1).f0))).setCell ⟨gb503, 1, none⟩ (.int .i64 ((rd_T33 l0 x4_1).f1))).setCell ⟨gb503, 2, none⟩ (.int .u64 ((rd_T33 l0 x4_1).f2))).setCell ⟨gb503, 3, none⟩ (.slice A502_3 ((rd_T33 l0 x4_1).f3).length c502_3)).setCell ⟨gb503, 4, none⟩ (.slice A502_4 ((rd_T33 l0 x4_1).f4).length c502_4))) := ⟨by repeat (first | (with_reducible first | exact HB.out | apply below_alloc | apply pw_below_drewN | apply below_drew1 | refine below_set ?_ GE503.out) | exact HB.out)⟩
                        (try clear HO_3)
                        (try clear BK503)
                        (try clear HB)
                        generalize (((((w14.setCell ⟨gb503, 0, none⟩ (.int .i64 ((rd_T33 l0 x4_1).f0))).setCell ⟨gb503, 1, none⟩ (.int .i64 ((rd_T33 l0 x4_1).f1))).setCell ⟨gb503, 2, none⟩ (.int .u64 ((rd_T33 l0 x4_1).f2))).setCell ⟨gb503, 3, none⟩ (.slice A502_3 ((rd_T33 l0 x4_1).f3).length c502_3)).setCell ⟨gb503, 4, none⟩ (.slice A502_4 ((rd_T33 l0 x4_1).f4).length c502_4)) = w16 at n0_ n1_ n2_ ⊢
                        have HO_3 := n0_
                        have BK503 := n1_
                        have HB := n2_
                        clear n0_ n1_ n2_
                        have n0_ := Aside0.mk (Kd.S_drew HO_3.out)
                        have n1_ := Aside0.mk (blk_drew BK503.out)
                        have n2_ := Aside0.mk (below_drew1 HB.out)
                        clear HO_3
                        clear BK503
                        clear HB
                        have HO_3 := n0_
                        have BK503 := n1_
                        have HB := n2_
                        clear n0_ n1_ n2_
                        obtain ⟨i018, hi018, _, hsz18, _⟩ := info_parts info5
                        obtain ⟨hcut18, hA18, hC18⟩ := print_take_of (P := Try.prog) (Value.int .u8) 0 22 5 .i64 Try.underlying22 hi018 hsz18 A502_3 c502_3 ((rd_T33 l0 x4_1).f3) (ji6) (of_decide_eq_true (by first | (with_reducible assumption) | assumption)) (of_decide_eq_true (by first | (with_reducible assumption) | assumption)) HC502_3.out
                        have HR504 := Aside0.mk (Kd.C_of_reads (h1 := fun _ => rfl) (hA18 _ (Kd.reads_of_C HR502_3.out)))
                        have HC504 := Aside0.mk hC18
                        clear hA18 hC18 hi018 hsz18
                        obtain ⟨i019, hi019, _, hsz19, _⟩ := info_parts info5
                        obtain ⟨hcut19, hA19, hC19⟩ := print_take_of (P := Try.prog) (Value.int .u8) 0 22 5 .i64 Try.underlying22 hi019 hsz19 A502_4 c502_4 ((rd_T33 l0 x4_1).f4) (ji9) (of_decide_eq_true (by first | (with_reducible assumption) | assumption)) (of_decide_eq_true (by first | (with_reducible assumption) | assumption)) HC502_4.out
                        have HR505 := Aside0.mk (Kd.C_of_reads (h1 := fun _ => rfl) (hA19 _ (Kd.reads_of_C HR502_4.out)))
                        have HC505 := Aside0.mk hC19
                        clear hA19 hC19 hi019 hsz19
                        refine start_ (n := 18) (S := fun w' => w'.cell? ⟨gb503, 0, none⟩ = some (.int .i64 ((rd_T33 l0 x4_1).f0)) ∧ w'.cell? ⟨gb503, 1, none⟩ = some (.int .i64 ((rd_T33 l0 x4_1).f1)) ∧ w'.cell? ⟨gb503, 2, none⟩ = some (.int .u64 ((rd_T33 l0 x4_1).f2)) ∧ w'.cell? ⟨gb503, 3, none⟩ = some (.slice A502_3 ((rd_T33 l0 x4_1).f3).length c502_3) ∧ w'.cell? ⟨gb503, 4, none⟩ = some (.slice A502_4 ((rd_T33 l0 x4_1).f4).length c502_4)) (ds := [15, 17]) #[false, false, false, false, false, false, false, false, false, false, false, false, false, false, false, false, false, false] (by kernel_rfl) rfl rfl ⟨(blk_cell BK503.out 0).trans rfl, (blk_cell BK503.out 1).trans rfl, (blk_cell BK503.out 2).trans rfl, (blk_cell BK503.out 3).trans rfl, (blk_cell BK503.out 4).trans rfl⟩ (fun hHeld => ?_); refine with_tabW signetrylaw01_WireJoins.tab6 signetrylaw01_WireJoins.bits6 (fun HT_ HW_ => ?_)
                        generalize w16.drew = w17 at HO_3 BK503 HB HR504 HR505 hHeld ⊢
                        refine pure_ (i := 0) (N := some 24) (v := ?_) (a' := ?_) #[true, false, false, false, false, false, false, false, false, false, false, false, false, false, false, false, false, false] rfl rfl (any_of HT_.out (by kernel_rfl)) (fun _ _ _ h => h) (Or.inl ⟨by rfl, ?_⟩) ?_ ?_
                        rotate_left
                        · intro w'
                          go_simp
                          with_reducible rfl
                        rotate_left
                        · simp only [Act.put, List.setIfInBounds_toArray, List.set_cons_zero, List.set_cons_succ, i64_w, i32_w]
                          rfl
                        refine pure_ (i := 2) (N := some 26) (v := ?_) (a' := ?_) #[true, false, true, false, false, false, false, false, false, false, false, false, false, false, false, false, false, false] rfl rfl (any_of HT_.out (by kernel_rfl)) (fun _ _ _ h => h) (Or.inl ⟨by rfl, ?_⟩) ?_ ?_
                        rotate_left
                        · intro w'
                          go_simp
                          with_reducible rfl
                        rotate_left
                        · simp only [Act.put, List.setIfInBounds_toArray, List.set_cons_zero, List.set_cons_succ, i64_w, i32_w]
                          rfl
                        refine pure_ (i := 7) (N := some 31) (v := ?_) (a' := ?_) #[true, false, true, false, false, false, false, true, false, false, false, false, false, false, false, false, false, false] rfl rfl (any_of HT_.out (by kernel_rfl)) (fun _ _ _ h => h) (Or.inl ⟨by rfl, ?_⟩) ?_ ?_
                        rotate_left
                        · intro w'
                          go_simp
                          with_reducible rfl
                        rotate_left
                        · simp only [Act.put, List.setIfInBounds_toArray, List.set_cons_zero, List.set_cons_succ, i64_w, i32_w]
                          rfl
                        refine pure_ (i := 9) (N := some 33) (v := ?_) (a' := ?_) #[true, false, true, false, false, false, false, true, false, true, false, false, false, false, false, false, false, false] rfl rfl (any_of HT_.out (by kernel_rfl)) (fun _ _ _ h => h) (Or.inl ⟨by rfl, ?_⟩) ?_ ?_
                        rotate_left
                        · intro w'
                          go_simp
                          with_reducible rfl
                        rotate_left
                        · simp only [Act.put, List.setIfInBounds_toArray, List.set_cons_zero, List.set_cons_succ, i64_w, i32_w]
                          rfl
                        refine take_ (i := 1) (N := some 25) (v := ?_) (a' := ?_) #[true, true, true, false, false, false, false, true, false, true, false, false, false, false, false, false, false, false] rfl rfl (take_ofW HT_.out HW_.out (by kernel_rfl)) (fun _ _ _ h => h) (Or.inl ⟨by rfl, ?_⟩) hHeld ?_ ?_
                        rotate_left
                        · rintro w' ⟨s0, s1, s2, s3, s4⟩
                          go_simp
                          with_reducible rfl
                        rotate_left
                        · simp only [Act.put, List.setIfInBounds_toArray, List.set_cons_zero, List.set_cons_succ, i64_w, i32_w]
                          rfl
                        refine take_ (i := 3) (N := some 27) (v := ?_) (a' := ?_) #[true, true, true, true, false, false, false, true, false, true, false, false, false, false, false, false, false, false] rfl rfl (take_ofW HT_.out HW_.out (by kernel_rfl)) (fun _ _ _ h => h) (Or.inl ⟨by rfl, ?_⟩) hHeld ?_ ?_
                        rotate_left
                        · rintro w' ⟨s0, s1, s2, s3, s4⟩
                          go_simp
                          with_reducible rfl
                        rotate_left
                        · simp only [Act.put, List.setIfInBounds_toArray, List.set_cons_zero, List.set_cons_succ, i64_w, i32_w]
                          rfl
                        refine pure_ (i := 4) (N := some 28) (v := ?_) (a' := ?_) #[true, true, true, true, true, false, false, true, false, true, false, false, false, false, false, false, false, false] rfl rfl (any_of HT_.out (by kernel_rfl)) (fun _ _ _ h => h) (Or.inl ⟨by rfl, ?_⟩) ?_ ?_
                        rotate_left
                        · intro w'
                          go_simp
                          with_reducible rfl
                        rotate_left
                        · simp only [Act.put, List.setIfInBounds_toArray, List.set_cons_zero, List.set_cons_succ, i64_w, i32_w]
                          rfl
                        refine pure_ (i := 5) (N := some 29) (v := ?_) (a' := ?_) #[true, true, true, true, true, true, false, true, false, true, false, false, false, false, false, false, false, false] rfl rfl (any_of HT_.out (by kernel_rfl)) (fun _ _ _ h => h) (Or.inl ⟨by rfl, ?_⟩) ?_ ?_
                        rotate_left
                        · intro w'
                          go_simp
                          with_reducible rfl
                        rotate_left
                        · simp only [Act.put, List.setIfInBounds_toArray, List.set_cons_zero, List.set_cons_succ, i64_w, i32_w]
                          rfl
                        refine pure_ (i := 6) (N := some 30) (v := ?_) (a' := ?_) #[true, true, true, true, true, true, true, true, false, true, false, false, false, false, false, false, false, false] rfl rfl (any_of HT_.out (by kernel_rfl)) (fun _ _ _ h => h) (Or.inl ⟨by rfl, ?_⟩) ?_ ?_
                        rotate_left
                        · intro w'
                          go_simp
                          with_reducible rfl
                        rotate_left
                        · simp only [Act.put, List.setIfInBounds_toArray, List.set_cons_zero, List.set_cons_succ, i64_w, i32_w]
                          rfl
                        refine take_ (i := 8) (N := some 32) (v := ?_) (a' := ?_) #[true, true, true, true, true, true, true, true, true, true, false, false, false, false, false, false, false, false] rfl rfl (take_ofW HT_.out HW_.out (by kernel_rfl)) (fun _ _ _ h => h) (Or.inl ⟨by rfl, ?_⟩) hHeld ?_ ?_
                        rotate_left
                        · rintro w' ⟨s0, s1, s2, s3, s4⟩
                          go_simp
                          with_reducible rfl
                        rotate_left
                        · simp only [Act.put, List.setIfInBounds_toArray, List.set_cons_zero, List.set_cons_succ, i64_w, i32_w]
                          rfl
                        refine take_ (i := 10) (N := some 34) (v := ?_) (a' := ?_) #[true, true, true, true, true, true, true, true, true, true, true, false, false, false, false, false, false, false] rfl rfl (take_ofW HT_.out HW_.out (by kernel_rfl)) (fun _ _ _ h => h) (Or.inl ⟨by rfl, ?_⟩) hHeld ?_ ?_
                        rotate_left
                        · rintro w' ⟨s0, s1, s2, s3, s4⟩
                          go_simp
                          with_reducible rfl
                        rotate_left
                        · simp only [Act.put, List.setIfInBounds_toArray, List.set_cons_zero, List.set_cons_succ, i64_w, i32_w]
                          rfl
                        refine pure_ (i := 11) (N := some 35) (v := ?_) (a' := ?_) #[true, true, true, true, true, true, true, true, true, true, true, true, false, false, false, false, false, false] rfl rfl (any_of HT_.out (by kernel_rfl)) (fun _ _ _ h => h) (Or.inl ⟨by rfl, ?_⟩) ?_ ?_
                        rotate_left
                        · intro w'
                          go_simp
                          with_reducible rfl
                        rotate_left
                        · simp only [Act.put, List.setIfInBounds_toArray, List.set_cons_zero, List.set_cons_succ, i64_w, i32_w]
                          rfl
                        refine pure_ (i := 12) (N := some 36) (v := ?_) (a' := ?_) #[true, true, true, true, true, true, true, true, true, true, true, true, true, false, false, false, false, false] rfl rfl (any_of HT_.out (by kernel_rfl)) (fun _ _ _ h => h) (Or.inl ⟨by rfl, ?_⟩) ?_ ?_
                        rotate_left
                        · intro w'
                          go_simp
                          with_reducible rfl
                        rotate_left
                        · simp only [Act.put, List.setIfInBounds_toArray, List.set_cons_zero, List.set_cons_succ, i64_w, i32_w]
                          rfl
                        refine pure_ (i := 13) (N := some 37) (v := ?_) (a' := ?_) #[true, true, true, true, true, true, true, true, true, true, true, true, true, true, false, false, false, false] rfl rfl (any_of HT_.out (by kernel_rfl)) (fun _ _ _ h => h) (Or.inl ⟨by rfl, ?_⟩) ?_ ?_
                        rotate_left
                        · intro w'
                          go_simp
                          with_reducible rfl
                        rotate_left
                        · simp only [Act.put, List.setIfInBounds_toArray, List.set_cons_zero, List.set_cons_succ, i64_w, i32_w]
                          rfl
                        refine pure_ (i := 14) (N := some 38) (v := ?_) (a' := ?_) #[true, true, true, true, true, true, true, true, true, true, true, true, true, true, true, false, false, false] rfl rfl (any_of HT_.out (by kernel_rfl)) (fun _ _ _ h => h) (Or.inl ⟨by rfl, ?_⟩) ?_ ?_
                        rotate_left
                        · intro w'
                          go_simp
                          with_reducible rfl
                        rotate_left
                        · simp only [Act.put, List.setIfInBounds_toArray, List.set_cons_zero, List.set_cons_succ, i64_w, i32_w]
                          rfl
                        refine last_ (i := 15) (N := none) #[true, true, true, true, true, true, true, true, true, true, true, true, true, true, true, true, false, false] rfl rfl (one_of HT_.out (by kernel_rfl)) (by decide) (fun K hK => ?_)
                        have hs20 : w17.cell? ⟨gb503, 3, none⟩ = some (.slice A502_3 ((rd_T33 l0 x4_1).f3).length c502_3) := (blk_cell BK503.out 3).trans rfl
                        have hfs20 := blk_frozen BK503.out 3
                        refine skip_ (w1 := ?_) (by rfl) rfl ?_ ?_
                        rotate_left
                        · go_simp
                          rfl
                        refine hK.out _ _ ?_
                        clear hK K
                        refine pure_ (i := 16) (N := some 39) (v := ?_) (a' := ?_) #[true, true, true, true, true, true, true, true, true, true, true, true, true, true, true, true, true, false] rfl rfl (any_of HT_.out (by kernel_rfl)) (fun _ _ _ h => h) (Or.inl ⟨by rfl, ?_⟩) ?_ ?_
                        rotate_left
                        · intro w'
                          go_simp
                          with_reducible rfl
                        rotate_left
                        · simp only [Act.put, List.setIfInBounds_toArray, List.set_cons_zero, List.set_cons_succ, i64_w, i32_w]
                          rfl
                        refine last_ (i := 17) (N := none) #[true, true, true, true, true, true, true, true, true, true, true, true, true, true, true, true, true, true] rfl rfl (one_of HT_.out (by kernel_rfl)) (by decide) (fun K hK => ?_)
                        have hs21 : w17.cell? ⟨gb503, 4, none⟩ = some (.slice A502_4 ((rd_T33 l0 x4_1).f4).length c502_4) := (blk_cell BK503.out 4).trans rfl
                        have hfs21 := blk_frozen BK503.out 4
                        refine skip_ (w1 := ?_) (by rfl) rfl ?_ ?_
                        rotate_left
                        · go_simp
                          rfl
                        refine hK.out _ _ ?_
                        clear hK K
                        refine done_ (done_of HT_.out (by kernel_rfl)) ?_
                        have hcz22_0 : w17.cell? ⟨gb503, 0, none⟩ = some (.int .i64 ((rd_T33 l0 x4_1).f0)) := (blk_cell BK503.out 0).trans rfl
                        have hcz22_1 : w17.cell? ⟨gb503, 1, none⟩ = some (.int .i64 ((rd_T33 l0 x4_1).f1)) := (blk_cell BK503.out 1).trans rfl
                        have hcz22_2 : w17.cell? ⟨gb503, 2, none⟩ = some (.int .u64 ((rd_T33 l0 x4_1).f2)) := (blk_cell BK503.out 2).trans rfl
                        have hcz22_3 : w17.cell? ⟨gb503, 3, none⟩ = some (.slice A502_3 ((rd_T33 l0 x4_1).f3).length c502_3) := (blk_cell BK503.out 3).trans rfl
                        have hcz22_4 : w17.cell? ⟨gb503, 4, none⟩ = some (.slice A502_4 ((rd_T33 l0 x4_1).f4).length c502_4) := (blk_cell BK503.out 4).trans rfl
                        have hfz22_0 := blk_frozen BK503.out 0
                        have hfz22_1 := blk_frozen BK503.out 1
                        have hfz22_2 := blk_frozen BK503.out 2
                        have hfz22_3 := blk_frozen BK503.out 3
                        have hfz22_4 := blk_frozen BK503.out 4
                        try go_wp2_with (first | ((with_reducible refine gate_callee (f := 38) rfl ?_); refine goesL_ (some 42) rfl rfl Try.func38 (by kernel_rfl) rfl #[.agg #[.int .i64 ((rd_T33 l0 x4_1).f0), .int .i64 ((rd_T33 l0 x4_1).f1), .int .u64 ((rd_T33 l0 x4_1).f2), .slice A502_3 (((rd_T33 l0 x4_1).f3).take ((ji6) : Int).toNat).length c502_3, .slice A502_4 (((rd_T33 l0 x4_1).f4).take ((ji9) : Int).toNat).length c502_4]] rfl (by (try simp only [List.map_toArray, List.map_cons, List.map_nil]); first | done | (rw [show (((rd_T33 l0 x4_1).f3).take ((ji6) : Int).toNat).length = (ji6).toNat from (by rw [List.length_take]; have h_ : ((ji6) : Int) ≤ (((rd_T33 l0 x4_1).f3).length : Int) := of_decide_eq_true (by first | (with_reducible assumption) | assumption); omega)] <;> rfl) | (rw [show (((rd_T33 l0 x4_1).f4).take ((ji9) : Int).toNat).length = (ji9).toNat from (by rw [List.length_take]; have h_ : ((ji9) : Int) ≤ (((rd_T33 l0 x4_1).f4).length : Int) := of_decide_eq_true (by first | (with_reducible assumption) | assumption); omega)] <;> rfl) | (simp only [hji6, hji9]; rfl) | ((try have hl0_ := (show (((rd_T33 l0 x4_1).f3).take ((ji6) : Int).toNat).length = (ji6).toNat from (by rw [List.length_take]; have h_ : ((ji6) : Int) ≤ (((rd_T33 l0 x4_1).f3).length : Int) := of_decide_eq_true (by first | (with_reducible assumption) | assumption); omega))); (try have hl1_ := (show (((rd_T33 l0 x4_1).f4).take ((ji9) : Int).toNat).length = (ji9).toNat from (by rw [List.length_take]; have h_ : ((ji9) : Int) ≤ (((rd_T33 l0 x4_1).f4).length : Int) := of_decide_eq_true (by first | (with_reducible assumption) | assumption); omega))); (try simp only [wrap64] at hji6 hji9); simp only [Array.mk.injEq, List.cons.injEq, Value.int.injEq, Value.slice.injEq, and_true, true_and]; omega) | rfl | (simp only [List.length_drop, List.length_take]; rfl)) ?_; (with_reducible refine (signetryref01_Copy.calls ((rd_T33 l0 x4_1).f0) ((rd_T33 l0 x4_1).f1) ((rd_T33 l0 x4_1).f2) _ _ (((rd_T33 l0 x4_1).f3).take ((ji6) : Int).toNat) _ _ (((rd_T33 l0 x4_1).f4).take ((ji9) : Int).toNat) t506 t507 t508 t509 t512 _ ?side1 ?side2 ?side3 ?side4 A12.out).mono ?_); (case side1 => exact Kd.C_below HR504.out (by repeat (first | (with_reducible first | exact HB.out | apply below_alloc | apply pw_below_drewN | apply below_drew1 | refine below_set ?_ GE503.out) | exact HB.out))); (case side2 => exact HC504.out); (case side3 => exact Kd.C_below HR505.out (by repeat (first | (with_reducible first | exact HB.out | apply below_alloc | apply pw_below_drewN | apply below_drew1 | refine below_set ?_ GE503.out) | exact HB.out))); (case side4 => exact HC505.out); rintro e w23 ⟨v510, v513, rfl, ho0, ho1, hb⟩; refine ⟨_, rfl, ?_⟩; have n0_ := Aside0.mk (Kd.S_mono (Kd.S_told (Kd.S_told (Kd.S_old (by (with_reducible repeat (first | apply Kd.S_alloc | apply Kd.S_drewN | apply Kd.S_drew)); exact (Kd.S_mono (Kd.S_far (p := ⟨gb503, 4, none⟩) (Kd.S_far (p := ⟨gb503, 3, none⟩) (Kd.S_mono HO_3.out (fun k_ hk => (⟨hk, hk⟩ : _ ∧ k_ ≠ gb503))) (fun _ hk => hk.2) (.slice A502_3 (((rd_T33 l0 x4_1).f3).take ((ji6) : Int).toNat).length c502_3)) (fun _ hk => hk.2) (.slice A502_4 (((rd_T33 l0 x4_1).f4).take ((ji9) : Int).toNat).length c502_4)) (fun _ h_ => h_.1))) hb) (Kd.R_base ho0)) (Kd.R_base ho1)) (fun _ h_ => h_.1)); have n1_ := Aside0.mk (Kd.R_lower ho0 (below_size (by repeat (first | (with_reducible first | exact HB.out | apply below_alloc | apply pw_below_drewN | apply below_drew1 | refine below_set ?_ GE503.out) | exact HB.out)))); have n2_ := Aside0.mk (Kd.R_lower ho1 (below_size (by repeat (first | (with_reducible first | exact HB.out | apply below_alloc | apply pw_below_drewN | apply below_drew1 | refine below_set ?_ GE503.out) | exact HB.out)))); have n3_ := Aside0.mk (blk_below (g := gb503) (o := .cells #[.int .i64 ((rd_T33 l0 x4_1).f0), .int .i64 ((rd_T33 l0 x4_1).f1), .int .u64 ((rd_T33 l0 x4_1).f2), .slice A502_3 (((rd_T33 l0 x4_1).f3).take ((ji6) : Int).toNat).length c502_3, .slice A502_4 (((rd_T33 l0 x4_1).f4).take ((ji9) : Int).toNat).length c502_4] 33 (0, 0)) (by (with_reducible repeat (first | refine blk_drewN ?_ _ | refine blk_drew ?_ | refine blk_alloc ?_ _)); refine blk_put (cs := #[.int .i64 ((rd_T33 l0 x4_1).f0), .int .i64 ((rd_T33 l0 x4_1).f1), .int .u64 ((rd_T33 l0 x4_1).f2), .slice A502_3 (((rd_T33 l0 x4_1).f3).take ((ji6) : Int).toNat).length c502_3, .slice A502_4 ((rd_T33 l0 x4_1).f4).length c502_4]) ?_ 4 _ rfl; (with_reducible repeat (first | refine blk_drewN ?_ _ | refine blk_drew ?_ | refine blk_alloc ?_ _)); refine blk_put (cs := #[.int .i64 ((rd_T33 l0 x4_1).f0), .int .i64 ((rd_T33 l0 x4_1).f1), .int .u64 ((rd_T33 l0 x4_1).f2), .slice A502_3 ((rd_T33 l0 x4_1).f3).length c502_3, .slice A502_4 ((rd_T33 l0 x4_1).f4).length c502_4]) ?_ 3 _ rfl; (with_reducible repeat (first | refine blk_drewN ?_ _ | refine blk_drew ?_ | refine blk_alloc ?_ _)); exact BK503.out) hb); have n4_ := Aside0.mk (below_step (by repeat (first | (with_reducible first | exact HB.out | apply below_alloc | apply pw_below_drewN | apply below_drew1 | refine below_set ?_ GE503.out) | exact HB.out)) hb); clear HO_3; clear BK503; clear HB; have HO_3 := n0_; have HO511 := n1_; have HO514 := n2_; have BK503 := n3_; have HB := n4_; clear n0_ n1_ n2_ n3_ n4_; (try clear hb); (try clear hb2); (try clear hk); (try clear hi); (try clear ho0); (try clear ho1); obtain ⟨Ao25, co25, eo25⟩ := Kd.R_slice HO511.out; subst eo25; obtain ⟨Ao26, co26, eo26⟩ := Kd.R_slice HO514.out; subst eo26) | ((with_reducible refine gate_builtin (b := .append) (xs := #[.tmp 40, .tmp 43]) rfl ?_); at_builtin; refine Kd.S_append k33 (w0 := w) w.heap.size rfl (.tmp 40) (.tmp 43) 37 33 (.agg #[(.int .i64 0), (.int .i64 0), (.int .u64 0), (.slice none 0 0), (.slice none 0 0)]) 72 rfl Try.underlying37 info33 rfl (by decide) (by omega) u3 x3_1 (⟨t506, t507, t508, t509, t512⟩ : S33) [.int .i64 t506, .int .i64 t507, .int .u64 t508, .slice Ao25 t509.length co25, .slice Ao26 t512.length co26] (fun k_ => k_ ≠ gb503) (fun k_ => some k_ = (.slice Ao25 t509.length co25 : Value).ownBlock ∨ some k_ = (.slice Ao26 t512.length co26 : Value).ownBlock) rfl rfl ?aP (fun k_ hk_ => hk_.elim (fun h_ => ((Kd.R_mono (ok' := fun k_ => ((fun k_ => k_ ≠ gb503)) k_ ∧ some k_ ≠ (u3 : Value).ownBlock) (Kd.R_types (Kd.R_apart' (HO511.out) (Kd.S_typed HO_3.out) (by decide)) BK503.out (by decide)) (fun k_ hk => ⟨hk.2, hk.1.2⟩))).1 k_ h_.symm) (fun h_ => ((Kd.R_mono (ok' := fun k_ => ((fun k_ => k_ ≠ gb503)) k_ ∧ some k_ ≠ (u3 : Value).ownBlock) (Kd.R_types (Kd.R_apart' (HO514.out) (Kd.S_typed HO_3.out) (by decide)) BK503.out (by decide)) (fun k_ hk => ⟨hk.2, hk.1.2⟩))).1 k_ h_.symm)) ?aF ?aO ?aB ?aS ?aL ?_; (case aP => exact k33_mkM _ _ _ (⟨t506, t507, t508, t509, t512⟩ : S33) (Kd.R_mono (Kd.R_tight rfl (Kd.R_mono (ok' := fun k_ => ((fun k_ => k_ ≠ gb503)) k_ ∧ some k_ ≠ (u3 : Value).ownBlock) (Kd.R_types (Kd.R_apart' (HO511.out) (Kd.S_typed HO_3.out) (by decide)) BK503.out (by decide)) (fun k_ hk => ⟨hk.2, hk.1.2⟩))) (fun _ h_ => Or.inl h_)) (Kd.R_mono (Kd.R_tight rfl (Kd.R_mono (ok' := fun k_ => ((fun k_ => k_ ≠ gb503)) k_ ∧ some k_ ≠ (u3 : Value).ownBlock) (Kd.R_types (Kd.R_apart' (HO514.out) (Kd.S_typed HO_3.out) (by decide)) BK503.out (by decide)) (fun k_ hk => ⟨hk.2, hk.1.2⟩))) (fun _ h_ => Or.inr (h_)))); (case aB => exact (by repeat (first | (with_reducible first | exact HB.out | apply below_alloc | apply pw_below_drewN | apply below_drew1 | refine below_set ?_ GE503.out) | exact HB.out))); (case aF => exact (fun k_ hk => Kd.freshB (g := gb503) (o := .cells #[.int .i64 ((rd_T33 l0 x4_1).f0), .int .i64 ((rd_T33 l0 x4_1).f1), .int .u64 ((rd_T33 l0 x4_1).f2), .slice A502_3 (((rd_T33 l0 x4_1).f3).take ((ji6) : Int).toNat).length c502_3, .slice A502_4 (((rd_T33 l0 x4_1).f4).take ((ji9) : Int).toNat).length c502_4] 33 (0, 0)) (by (with_reducible repeat (first | refine blk_drewN ?_ _ | refine blk_drew ?_ | refine blk_alloc ?_ _)); exact BK503.out) k_ hk)); (case aO => exact (by (with_reducible repeat (first | apply Kd.S_alloc | apply Kd.S_drewN | apply Kd.S_drew)); exact Kd.S_mono HO_3.out (fun k_ hk => ⟨hk.1.1, fun e_ => e_.elim (fun h_ => hk.1.2 h_) (fun h_ => hk.2 h_)⟩))); (case aS => exact (below_size (by repeat (first | (with_reducible first | exact HB.out | apply below_alloc | apply pw_below_drewN | apply below_drew1 | refine below_set ?_ GE503.out) | exact HB.out)))); (case aL => have := LMc13.out; omega); intro v516 w24 ho hb hg hat; rw [← Ny515.out] at ho; have n0_ := Aside0.mk (blk_grown (g := gb503) (o := .cells #[.int .i64 ((rd_T33 l0 x4_1).f0), .int .i64 ((rd_T33 l0 x4_1).f1), .int .u64 ((rd_T33 l0 x4_1).f2), .slice A502_3 (((rd_T33 l0 x4_1).f3).take ((ji6) : Int).toNat).length c502_3, .slice A502_4 (((rd_T33 l0 x4_1).f4).take ((ji9) : Int).toNat).length c502_4] 33 (0, 0)) (by (with_reducible repeat (first | refine blk_drewN ?_ _ | refine blk_drew ?_ | refine blk_alloc ?_ _)); exact BK503.out) hg (Kd.S_away HO_3.out (fun _ hk => hk.1.1))); have n1_ := Aside0.mk (hb); have n2_ := Aside0.mk (ho); clear BK503; clear HB; clear HO_3; clear HO511; clear HO514; have BK503 := n0_; have HB := n1_; have HO517 := n2_; clear n0_ n1_ n2_; clear ho hb hg hat))
                        go_roundg k1
                        case measure => have := HK1.out; omega
                        case rel => exact ⟨(y515), (wrap64 (x4_1 + 1)), (by first | rfl | (simp; done) | (simp [*]; done)), H', ⟨by have := HK1.out; omega⟩, ⟨by (with_reducible repeat (first | apply Kd.S_alloc | apply Kd.S_drewN | apply Kd.S_drew)); exact Kd.S_mono HO517.out (fun _ hk => trivial)⟩, ⟨by repeat (first | (with_reducible first | exact HB.out | apply below_alloc | apply pw_below_drewN | apply below_drew1 | refine below_set ?_ GE503.out) | exact HB.out)⟩⟩
                      · rw [if_neg c13] at H
                        exact absurd H (by simp)
                    · rw [if_neg c11] at H
                      exact absurd H (by simp)
                  · rw [if_neg c10] at H
                    exact absurd H (by simp)
                · rw [if_neg c8] at H
                  exact absurd H (by simp)
              · rw [if_neg c7] at H
                exact absurd H (by simp)
            · rw [if_neg c5] at H
              exact absurd H (by simp)
          · rw [if_neg c4] at H
            have c4b0 : decide (x4_1 < 40) = false := decide_eq_false c4
            clear c4
            have H' := Aside0.mk H
            clear H
            go_wp2
            go_meet
            case rel => exact ⟨_, (x3_1), H', ⟨by have := HK1.out; first | omega | exact Nat.le_refl _⟩, ⟨by (with_reducible repeat (first | apply Kd.S_alloc | apply Kd.S_drewN | apply Kd.S_drew)); exact HO_3.out⟩, ⟨by repeat (first | (with_reducible first | exact HB.out | apply below_alloc | apply pw_below_drewN | apply below_drew1) | exact HB.out)⟩⟩
        · rw [if_neg c3] at H
          have c3b0 : decide (x4_1 < (l0.length : Int)) = false := decide_eq_false c3
          clear c3
          (first | rw [c3b0] | (simp only [i64_w, i32_w]; rw [c3b0]) | skip)
          have H' := Aside0.mk H
          clear H
          go_wp2
          go_meet
          case rel => exact ⟨_, (x3_1), H', ⟨by have := HK1.out; first | omega | exact Nat.le_refl _⟩, ⟨by (with_reducible repeat (first | apply Kd.S_alloc | apply Kd.S_drewN | apply Kd.S_drew)); exact HO_3.out⟩, ⟨by repeat (first | (with_reducible first | exact HB.out | apply below_alloc | apply pw_below_drewN | apply below_drew1) | exact HB.out)⟩⟩
  case rest =>
    clear HC2
    try clear c1
    try clear p2
    try clear c3
    try clear c3b0
    try clear c4
    try clear c4b0
    try clear c5
    try clear c5b0
    try clear p5
    try clear q5
    try clear hx5
    try clear p6
    try clear c7
    try clear c7b0
    try clear c7b1
    try clear c8
    try clear c8b0
    try clear c8b1
    try clear c10
    try clear c10b0
    try clear c10b1
    try clear c11
    try clear c11b0
    try clear c11b1
    try clear c13
    try clear hcz15_0
    try clear hcz15_1
    try clear hcz15_2
    try clear hcz15_3
    try clear hcz15_4
    try clear hcz22_0
    try clear hcz22_1
    try clear hcz22_2
    try clear hcz22_3
    try clear hcz22_4
    try clear hfz15_0
    try clear hfz15_1
    try clear hfz15_2
    try clear hfz15_3
    try clear hfz15_4
    try clear hfz22_0
    try clear hfz22_1
    try clear hfz22_2
    try clear hfz22_3
    try clear hfz22_4
    try clear hx502_0
    try clear hx502_1
    try clear hx502_2
    try clear hx502_3
    try clear hx502_4
    try clear p2
    try clear p502
    try clear q502
    obtain ⟨kq, x3_1, HA, HJ1, HO_3, HB⟩ := hcut
    cases kq with
    | zero => exact absurd HA.out (by simp [signetrylaw01_WireJoins.j1])
    | succ kj1 =>
      have H := HA.out
      clear HA
      simp only [signetrylaw01_WireJoins.j1] at H
      replace H := Option.bind_eq_some_iff.mp H
      obtain ⟨⟨t518, t519⟩, A270, H⟩ := H
      replace H : ((signetryref01_Bytes.f kj1 x3_1).bind fun bt522 => ((signetryref00_EqBytes.f t518 bt522.1).bind fun t526 => (if t526 = true then (if t519 = bt522.2 then ((signetrylaw01_works.f).bind fun t527 => (some t527)) else (none)) else (none)))) = some r := H
      have A27 := Aside0.mk A270
      clear A270
      replace H := Option.bind_eq_some_iff.mp H
      obtain ⟨⟨t522, t523⟩, A280, H⟩ := H
      replace H : ((signetryref00_EqBytes.f t518 t522).bind fun t526 => (if t526 = true then (if t519 = t523 then ((signetrylaw01_works.f).bind fun t527 => (some t527)) else (none)) else (none))) = some r := H
      have A28 := Aside0.mk A280
      clear A280
      replace H := Option.bind_eq_some_iff.mp H
      obtain ⟨t526, A290, H⟩ := H
      replace H : (if t526 = true then (if t519 = t523 then ((signetrylaw01_works.f).bind fun t527 => (some t527)) else (none)) else (none)) = some r := H
      have A29 := Aside0.mk A290
      clear A290
      by_cases c30 : t526 = true
      · subst c30
        have H1 : (if t519 = t523 then ((signetrylaw01_works.f).bind fun t527 => (some t527)) else (none)) = some r := by rw [if_pos rfl] at H; exact H
        clear H
        have H := H1
        clear H1
        by_cases c31 : t519 = t523
        · rw [if_pos c31] at H
          have c31b0 : (t519 == t523) = true := beq_iff_eq.mpr c31
          have c31b1 : (t519 != t523) = false := bne_eq_false_iff_eq.mpr c31
          clear c31
          replace H := Option.bind_eq_some_iff.mp H
          obtain ⟨t527, A320, H⟩ := H
          replace H : (some t527) = some r := H
          have A32 := Aside0.mk A320
          clear A320
          obtain rfl := Option.some.inj H
          obtain ⟨Ao33, co33, eo33⟩ := Kd.S_slice HO_3.out
          subst eo33
          go_wp2_with (first | ((with_reducible refine gate_callee (f := 39) rfl ?_); refine goesL_ (some 47) rfl rfl Try.func39 (by kernel_rfl) rfl #[.slice Ao33 x3_1.length co33] rfl (by (try simp only [List.map_toArray, List.map_cons, List.map_nil]); first | done | rfl | (simp only [List.length_drop, List.length_take]; rfl)) ?_; (with_reducible refine (wire_Bytes.calls _ _ x3_1 t518 t519 _ ?side1 ?side2 A27.out).mono ?_); (case side1 => repeat (first | exact (Kd.S_reads' HO_3.out).2.2 | (with_reducible refine Kd.C_alloc ?_ _) | (with_reducible refine Kd.C_drewN ?_ _) | (with_reducible refine Kd.C_drew ?_))); (case side2 => exact (Kd.S_reads' HO_3.out).2.1); rintro e w34 ⟨v520, rfl, ho0, hb⟩; refine ⟨_, rfl, ?_⟩; have n0_ := Aside0.mk (Kd.S_elder' (by (with_reducible repeat (first | apply Kd.S_alloc | apply Kd.S_drewN | apply Kd.S_drew)); exact HO_3.out) (Kd.R_base ho0) hb); have n1_ := Aside0.mk (Kd.R_lower ho0 (below_size (by repeat (first | (with_reducible first | exact HB.out | apply below_alloc | apply pw_below_drewN | apply below_drew1) | exact HB.out)))); have n2_ := Aside0.mk (below_step (by repeat (first | (with_reducible first | exact HB.out | apply below_alloc | apply pw_below_drewN | apply below_drew1) | exact HB.out)) hb); clear HO_3; clear HB; have HO_3 := n0_; have HO521 := n1_; have HB := n2_; clear n0_ n1_ n2_; (try clear hb); (try clear hb2); (try clear hk); (try clear hi); (try clear ho0)) | ((with_reducible refine gate_callee (f := 40) rfl ?_); refine goesL_ (some 52) rfl rfl Try.func40 (by kernel_rfl) rfl #[.slice Ao33 x3_1.length co33] rfl (by (try simp only [List.map_toArray, List.map_cons, List.map_nil]); first | done | rfl | (simp only [List.length_drop, List.length_take]; rfl)) ?_; (with_reducible refine (signetryref01_Bytes.calls kj1 _ _ x3_1 t522 t523 _ ?side1 ?side2 A28.out).mono ?_); (case side1 => repeat (first | exact (Kd.S_reads' HO_3.out).2.2 | (with_reducible refine Kd.C_alloc ?_ _) | (with_reducible refine Kd.C_drewN ?_ _) | (with_reducible refine Kd.C_drew ?_))); (case side2 => exact (Kd.S_reads' HO_3.out).2.1); rintro e w35 ⟨v524, rfl, ho0, hb⟩; refine ⟨_, rfl, ?_⟩; have n0_ := Aside0.mk (Kd.S_elder' (by (with_reducible repeat (first | apply Kd.S_alloc | apply Kd.S_drewN | apply Kd.S_drew)); exact HO_3.out) (Kd.R_base ho0) hb); have n1_ := Aside0.mk (Kd.R_elder' (by (with_reducible repeat (first | apply Kd.R_alloc | apply Kd.R_drewN | apply Kd.R_drew)); exact HO521.out) (Kd.R_base ho0) hb); have n2_ := Aside0.mk (Kd.R_lower (Kd.R_new' ho0 (Kd.R_lt (by (with_reducible repeat (first | apply Kd.R_alloc | apply Kd.R_drewN | apply Kd.R_drew)); exact HO521.out))) (below_size (by repeat (first | (with_reducible first | exact HB.out | apply below_alloc | apply pw_below_drewN | apply below_drew1) | exact HB.out)))); have n3_ := Aside0.mk (below_step (by repeat (first | (with_reducible first | exact HB.out | apply below_alloc | apply pw_below_drewN | apply below_drew1) | exact HB.out)) hb); clear HO_3; clear HO521; clear HB; have HO_3 := n0_; have HO521 := n1_; have HO525 := n2_; have HB := n3_; clear n0_ n1_ n2_ n3_; (try clear hb); (try clear hb2); (try clear hk); (try clear hi); (try clear ho0); obtain ⟨Ao36, co36, eo36⟩ := Kd.R_slice HO521.out; subst eo36; obtain ⟨Ao37, co37, eo37⟩ := Kd.R_slice HO525.out; subst eo37) | ((with_reducible refine gate_callee (f := 14) rfl ?_); refine goesL_ (some 57) rfl rfl Try.func14 (by kernel_rfl) rfl #[.slice Ao36 t518.length co36, .slice Ao37 t522.length co37] rfl (by (try simp only [List.map_toArray, List.map_cons, List.map_nil]); first | done | rfl | (simp only [List.length_drop, List.length_take]; rfl)) ?_; (with_reducible refine (signetryref00_EqBytes.calls _ _ t518 _ _ t522 true _ ?side1 ?side2 ?side3 ?side4 A29.out).mono ?_); (case side1 => repeat (first | exact (Kd.R_reads' HO521.out).2.2 | (with_reducible refine Kd.C_alloc ?_ _) | (with_reducible refine Kd.C_drewN ?_ _) | (with_reducible refine Kd.C_drew ?_))); (case side2 => exact (Kd.R_reads' HO521.out).2.1); (case side3 => repeat (first | exact (Kd.R_reads' HO525.out).2.2 | (with_reducible refine Kd.C_alloc ?_ _) | (with_reducible refine Kd.C_drewN ?_ _) | (with_reducible refine Kd.C_drew ?_))); (case side4 => exact (Kd.R_reads' HO525.out).2.1); rintro e w' ⟨rfl, ⟨nd, rfl⟩⟩; refine ⟨_, rfl, ?_⟩) | (go_at_call 22; (with_reducible refine (signetrylaw01_works.calls  t527 _ A32.out).mono ?_); rintro e w38 ⟨rfl, hb⟩; have n0_ := Aside0.mk (Kd.S_below (by (with_reducible repeat (first | apply Kd.S_alloc | apply Kd.S_drewN | apply Kd.S_drew)); exact HO_3.out) hb); have n1_ := Aside0.mk (Kd.R_below (by (with_reducible repeat (first | apply Kd.R_alloc | apply Kd.R_drewN | apply Kd.R_drew)); exact HO521.out) hb); have n2_ := Aside0.mk (Kd.R_below (by (with_reducible repeat (first | apply Kd.R_alloc | apply Kd.R_drewN | apply Kd.R_drew)); exact HO525.out) hb); have n3_ := Aside0.mk (below_step (by repeat (first | (with_reducible first | exact HB.out | apply below_alloc | apply pw_below_drewN | apply below_drew1) | exact HB.out)) hb); clear HO_3; clear HO521; clear HO525; clear HB; have HO_3 := n0_; have HO521 := n1_; have HO525 := n2_; have HB := n3_; clear n0_ n1_ n2_ n3_; (try clear hb); (try clear hb2); (try clear hk); (try clear hi)))
          go_ret
          exact ⟨by first | rfl | (simp [errW_none, errW_some] <;> rfl) | (simp [*, errW_none, errW_some] <;> rfl), by repeat (first | (with_reducible first | exact HB.out | apply below_alloc | apply pw_below_drewN | apply below_drew1) | exact HB.out)⟩
        · rw [if_neg c31] at H
          exact absurd H (by simp)
      · replace c30 := Bool.eq_false_iff.mpr c30
        subst c30
        have H1 : (none) = some r := by rw [if_neg (show ¬ (false = true) by decide)] at H; exact H
        clear H
        have H := H1
        clear H1
        exact absurd H (by simp)
end Go.Proofs.Ytbclejgljegfmaa.PAll
