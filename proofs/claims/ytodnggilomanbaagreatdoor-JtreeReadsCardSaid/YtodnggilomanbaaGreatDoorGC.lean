-- Written by this repo's program wip/tools/pr.py (over the kit's print) out of the translation. Not trusted: Lean checks it.
import Derived.Test.YtodnggilomanbaaGreatDoorAp
import Derived.Test.YtodnggilomanbaaGreatDoorGR
set_option maxHeartbeats 8000000
set_option maxRecDepth 100000
namespace Go.Proofs.YtodnggilomanbaaGreatDoor.PAll
open Go.RowKit Go.Proofs.YtodnggilomanbaaGreatDoorW.PrintWords Go.Proofs.YtodnggilomanbaaGreatDoorW.PrintLast Go.Proofs.YtodnggilomanbaaGreatDoorW.PrintMore
attribute [local go_sem] max2_int min2_int max_two min_two max_three min_three max_four min_four   -- for this text's walks alone
set_option linter.unusedVariables false
set_option linter.unusedSimpArgs false

/-! ### jtree_Count: function 22 -/
mutual
def jtree_Count.l0 : Nat → Int → List (S28) → Int → Int → Option (Int)
  | 0, _, _, _, _ => none
  | k + 1, x3, x7, x8, x9 => if x9 < x8 then (if 0 ≤ x9 then (if x9 < (x7.length : Int) then ((jtree_Count.f k ((rd_T28 x7 x9).f0) ((rd_T28 x7 x9).f1) ((rd_T28 x7 x9).f2) ((rd_T28 x7 x9).f3)).bind fun fE => (jtree_Count.l0 k (wrap64 (x3 + fE)) x7 x8 (wrap64 (x9 + 1)))) else (none)) else (none)) else (some x3)
def jtree_Count.f : Nat → Int → ByteArray → List ByteArray → List (S28) → Option (Int)
  | 0, _, _, _, _ => none
  | k + 1, a0_0, a0_1, ac, ab => jtree_Count.l0 k 1 ab (ab.length : Int) 0
end
theorem jtree_Count.mono_l : ∀ k, (∀ y0 y1 y2 y3, LeO (jtree_Count.f k y0 y1 y2 y3) (jtree_Count.f (k + 1) y0 y1 y2 y3)) ∧ (∀ y0 y1 y2 y3, LeO (jtree_Count.l0 k y0 y1 y2 y3) (jtree_Count.l0 (k + 1) y0 y1 y2 y3))
 | 0 => ⟨fun _ _ _ _ r h => by simp [jtree_Count.f] at h, fun _ _ _ _ r h => by simp [jtree_Count.l0] at h⟩
 | k + 1 => by
  obtain ⟨ih0, ih1⟩ := jtree_Count.mono_l k
  refine ⟨?_, ?_⟩
  ·intro y0 y1 y2 y3
   unfold jtree_Count.f
   exact moz
  ·intro y0 y1 y2 y3
   unfold jtree_Count.l0
   exact moz
theorem jtree_Count.mono : ∀ a0 a1 a2 a3 k, LeO (jtree_Count.f k a0 a1 a2 a3) (jtree_Count.f (k + 1) a0 a1 a2 a3) := by
  intro a0 a1 a2 a3 k
  obtain ⟨ih0, ih1⟩ := jtree_Count.mono_l k
  exact ih0 a0 a1 a2 a3
theorem jtree_Count.calls (k : Nat) : ∀ (a0_0 : Int) (a0_1 : ByteArray) (A0_2 : Option Addr) (c0_2 : Nat) (ac : List ByteArray) (A0_3 : Option Addr) (c0_3 : Nat) (ab : List (S28)) (r : Int) (w : World) (hr0_2 : Kd.C Kd.string w A0_2 ac.length ac) (hc0_2 : ac.length ≤ c0_2) (hr0_3 : Kd.C k28 w A0_3 ab.length ab) (hc0_3 : ab.length ≤ c0_3) (h : jtree_Count.f k a0_0 a0_1 ac ab = some r),
 Calls Tryz.prog 22 #[.agg #[.int .i64 a0_0, .string a0_1, .slice A0_2 ac.length c0_2, .slice A0_3 ab.length c0_3]] w fun e w' => e = .returned (.int .i64 r) ∧ Below w.heap.size w w' := by
 induction k using Nat.strongRecOn with
 | _ k ih =>
 intro a0_0 a0_1 A0_2 c0_2 ac A0_3 c0_3 ab r w hr0_2 hc0_2 hr0_3 hc0_3 h
 cases k with
 | zero => exact absurd h (by simp [jtree_Count.f])
 | succ k =>
 simp only [jtree_Count.f] at h
 have hu28 := Tryz.underlying28
 have eX := Aside0.mk hr0_2
 have cP := Aside0.mk hc0_2
 clear hr0_2 hc0_2
 have dU := Aside0.mk hr0_3
 have cX := Aside0.mk hc0_3
 clear hr0_3 hc0_3
 have HB := Aside0.mk (Below.refl w.heap.size w)
 have H : (jtree_Count.l0 k 1 ab (ab.length : Int) 0) = some r := h
 clear h
 have H' := Aside0.mk H
 clear H
 go_enter Tryz.func22, Tryz.ntmps22
 go_wp2_with (first | ((with_reducible refine gate_dst (N := 1) rfl ?_); refine box_event ?hg (N := 1) ?hd (cs := #[.int .i64 a0_0, .string a0_1, .slice A0_2 ac.length c0_2, .slice A0_3 ab.length c0_3]) (t := 28) ?hr ?_; (case hd => rfl); (case hg => rfl); (case hr => exact p12z); intro cL hg w2 hbox hb; have z_ := asi4 (below_step p0z hb) (hbox) ((p41z : w.heap.size ≤ cL)) ((p41z : w.heap.size ≤ cL)); clear HB; obtain ⟨HB, b9, GW101, eD⟩ := z_; clear hb hbox hg; have hcz3_0 : w2.cell? ⟨cL, 0, none⟩ = some (.int .i64 a0_0) := (blk_cell b9.out 0).trans rfl; have hcz3_1 : w2.cell? ⟨cL, 1, none⟩ = some (.string a0_1) := (blk_cell b9.out 1).trans rfl; have hcz3_2 : w2.cell? ⟨cL, 2, none⟩ = some (.slice A0_2 ac.length c0_2) := (blk_cell b9.out 2).trans rfl; have hcz3_3 : w2.cell? ⟨cL, 3, none⟩ = some (.slice A0_3 ab.length c0_3) := (blk_cell b9.out 3).trans rfl; have hfz3_0 := blk_frozen b9.out 0; have hfz3_1 := blk_frozen b9.out 1; have hfz3_2 := blk_frozen b9.out 2; have hfz3_3 := blk_frozen b9.out 3))
 go_loopg [3, 9] k (fun kq v3 v9 w' => ∃ (fF : Int) (bZ : Int), v3 = .int .i64 fF ∧ v9 = .int .i64 bZ ∧ Aside0 (jtree_Count.l0 kq fF ab (ab.length : Int) bZ = some r) ∧ Aside0 (kq ≤ k) ∧ Aside0 (w'.heap[cL]? = some (.cells #[.int .i64 a0_0, .string a0_1, (.slice A0_2 ac.length c0_2), (.slice A0_3 ab.length c0_3)] 28 (0, 0))) ∧ Aside0 (Below w.heap.size w w'))
 case atStart => exact ⟨(1), (0), p7z, p7z, H', ⟨Nat.le_refl _⟩, ⟨p20z⟩, ⟨p36z⟩⟩
 case round =>
  clear H'
  try clear c2
  try clear p2
  try clear hcz3_0
  try clear hcz3_1
  try clear hcz3_2
  try clear hcz3_3
  try clear hfz3_0
  try clear hfz3_1
  try clear hfz3_2
  try clear hfz3_3
  obtain ⟨fF, bZ, rfl, rfl, HA, HK1, b9, HB⟩ := hrel
  cases gk with
  | zero => exact absurd HA.out (by simp [jtree_Count.l0])
  | succ k1 =>
   have H := HA.out
   clear HA
   simp only [jtree_Count.l0] at H
   by_cases c4 : bZ < (ab.length : Int)
   case neg =>
    rw [if_neg c4] at H
    have bC : decide (bZ < (ab.length : Int)) = false := decide_eq_false c4
    clear c4
    obtain rfl := Option.some.inj H
    go_wp2
    go_ret
    exact ⟨p6z, p36z⟩
   rw [if_pos c4] at H
   have bC : decide (bZ < (ab.length : Int)) = true := decide_eq_true c4
   clear c4
   by_cases c5 : 0 ≤ bZ
   case neg =>
    rw [if_neg c5] at H
    exact absurd H (by simp)
   rw [if_pos c5] at H
   have cH : decide (0 ≤ bZ) = true := decide_eq_true c5
   clear c5
   by_cases c6 : bZ < (ab.length : Int)
   case neg =>
    rw [if_neg c6] at H
    exact absurd H (by simp)
   rw [if_pos c6] at H
   have cd : decide (bZ < (ab.length : Int)) = true := decide_eq_true c6
   clear c6
   replace H := Option.bind_eq_some_iff.mp H
   obtain ⟨fE, A70, H⟩ := H
   replace H : (jtree_Count.l0 k1 (wrap64 (fF + fE)) ab (ab.length : Int) (wrap64 (bZ + 1))) = some r := H
   have A7 := Aside0.mk A70
   clear A70
   have H' := Aside0.mk H
   clear H
   have p102 : 0 ≤ (bZ : Int) := of_decide_eq_true p4z
   have q102 : bZ < (ab.length : Int) := of_decide_eq_true p4z
   obtain ⟨ad102, A102_2, c102_2, A102_3, c102_3, e102, hx102_0, hx102_1, hx102_2, hx102_3, hl102_2, hi102_2, hl102_3, hi102_3⟩ := at_T28 dU.out bZ p102 q102
   cases e102
   replace hx102_0 := (HB.out.cell (World.block_lt_of_cell? w _ hx102_0)).trans hx102_0
   replace hx102_1 := (HB.out.cell (World.block_lt_of_cell? w _ hx102_1)).trans hx102_1
   replace hx102_2 := (HB.out.cell (World.block_lt_of_cell? w _ hx102_2)).trans hx102_2
   replace hx102_3 := (HB.out.cell (World.block_lt_of_cell? w _ hx102_3)).trans hx102_3
   have HR102_2 := Aside0.mk hi102_2
   have HC102_2 := Aside0.mk hl102_2
   clear hi102_2 hl102_2
   have HR102_3 := Aside0.mk hi102_3
   have HC102_3 := Aside0.mk hl102_3
   clear hi102_3 hl102_3
   replace p102 := eq_true p102
   replace q102 := eq_true q102
   go_wp2_with (first | ((with_reducible refine gate_dst (N := 5) rfl ?_); refine box_event ?hg (N := 5) ?hd (cs := #[.int .i64 0, .string (⟨#[]⟩ : ByteArray), .slice none 0 0, .slice none 0 0]) (t := 28) ?hr ?_; (case hd => rfl); (case hg => rfl); (case hr => exact p12z); intro aZ hg w8 hbox hb; have z_ := asi7 (blk_below (g := cL) (o := .cells #[.int .i64 a0_0, .string a0_1, .slice A0_2 ac.length c0_2, .slice (some ad102) ab.length c0_3] 28 (0, 0)) p20z hb) (below_step p36z hb) (hbox) ((by rw [hg]; exact (below_size p36z) : w.heap.size ≤ aZ)) ((by rw [hg]; exact (below_size p36z) : w.heap.size ≤ aZ)) ((by rw [hg]; exact Nat.ne_of_lt (blk_lt (g := cL) (o := .cells #[.int .i64 a0_0, .string a0_1, .slice A0_2 ac.length c0_2, .slice (some ad102) ab.length c0_3] 28 (0, 0)) p20z) : cL ≠ aZ)) ((by rw [hg]; exact Nat.ne_of_gt (blk_lt (g := cL) (o := .cells #[.int .i64 a0_0, .string a0_1, .slice A0_2 ac.length c0_2, .slice (some ad102) ab.length c0_3] 28 (0, 0)) p20z) : aZ ≠ cL)); clear b9 HB; obtain ⟨b9, HB, au, GW103, eY, NB101_103, NB103_101⟩ := z_; clear hb hbox hg; have hnb9 := NB103_101.out; have hnc9 := NB101_103.out; have hcz10_0 : w8.cell? ⟨aZ, 0, none⟩ = some (.int .i64 0) := (blk_cell au.out 0).trans rfl; have hcz10_1 : w8.cell? ⟨aZ, 1, none⟩ = some (.string (⟨#[]⟩ : ByteArray)) := (blk_cell au.out 1).trans rfl; have hcz10_2 : w8.cell? ⟨aZ, 2, none⟩ = some (.slice none 0 0) := (blk_cell au.out 2).trans rfl; have hcz10_3 : w8.cell? ⟨aZ, 3, none⟩ = some (.slice none 0 0) := (blk_cell au.out 3).trans rfl; have hfz10_0 := blk_frozen au.out 0; have hfz10_1 := blk_frozen au.out 1; have hfz10_2 := blk_frozen au.out 2; have hfz10_3 := blk_frozen au.out 3) | ((with_reducible refine gate_callee (f := 22) rfl ?_); refine goesL_ (some 15) rfl rfl Tryz.func22 p8z rfl #[.agg #[.int .i64 ((rd_T28 ab bZ).f0), .string ((rd_T28 ab bZ).f1), .slice A102_2 ((rd_T28 ab bZ).f2).length c102_2, .slice A102_3 ((rd_T28 ab bZ).f3).length c102_3]] rfl p5z ?_; (with_reducible refine (ih k1 p61z ((rd_T28 ab bZ).f0) ((rd_T28 ab bZ).f1) _ _ ((rd_T28 ab bZ).f2) _ _ ((rd_T28 ab bZ).f3) fE _ ?side1 ?side2 ?side3 ?side4 A7.out).mono ?_); (case side1 => exact Kd.C_below HR102_2.out p39z); (case side2 => exact HC102_2.out); (case side3 => exact Kd.C_below HR102_3.out p39z); (case side4 => exact HC102_3.out); rintro e w11 ⟨rfl, hb⟩; refine ⟨_, rfl, ?_⟩; have z_ := asi3 (blk_below (g := cL) (o := .cells #[.int .i64 a0_0, .string a0_1, .slice A0_2 ac.length c0_2, .slice (some ad102) ab.length c0_3] 28 (0, 0)) (by (with_reducible repeat (first | refine blk_drewN ?_ _ | refine blk_drew ?_ | refine blk_alloc ?_ _)); refine blk_far ?_ NB101_103.out _; (with_reducible repeat (first | refine blk_drewN ?_ _ | refine blk_drew ?_ | refine blk_alloc ?_ _)); refine blk_far ?_ NB101_103.out _; (with_reducible repeat (first | refine blk_drewN ?_ _ | refine blk_drew ?_ | refine blk_alloc ?_ _)); refine blk_far ?_ NB101_103.out _; (with_reducible repeat (first | refine blk_drewN ?_ _ | refine blk_drew ?_ | refine blk_alloc ?_ _)); refine blk_far ?_ NB101_103.out _; (with_reducible repeat (first | refine blk_drewN ?_ _ | refine blk_drew ?_ | refine blk_alloc ?_ _)); exact b9.out) hb) (blk_below (g := aZ) (o := .cells #[.int .i64 ((rd_T28 ab bZ).f0), .string ((rd_T28 ab bZ).f1), .slice A102_2 ((rd_T28 ab bZ).f2).length c102_2, .slice A102_3 ((rd_T28 ab bZ).f3).length c102_3] 28 (0, 0)) (by (with_reducible repeat (first | refine blk_drewN ?_ _ | refine blk_drew ?_ | refine blk_alloc ?_ _)); refine blk_put (cs := #[.int .i64 ((rd_T28 ab bZ).f0), .string ((rd_T28 ab bZ).f1), .slice A102_2 ((rd_T28 ab bZ).f2).length c102_2, .slice none 0 0]) ?_ 3 _ rfl; (with_reducible repeat (first | refine blk_drewN ?_ _ | refine blk_drew ?_ | refine blk_alloc ?_ _)); refine blk_put (cs := #[.int .i64 ((rd_T28 ab bZ).f0), .string ((rd_T28 ab bZ).f1), .slice none 0 0, .slice none 0 0]) ?_ 2 _ rfl; (with_reducible repeat (first | refine blk_drewN ?_ _ | refine blk_drew ?_ | refine blk_alloc ?_ _)); refine blk_put (cs := #[.int .i64 ((rd_T28 ab bZ).f0), .string (⟨#[]⟩ : ByteArray), .slice none 0 0, .slice none 0 0]) ?_ 1 _ rfl; (with_reducible repeat (first | refine blk_drewN ?_ _ | refine blk_drew ?_ | refine blk_alloc ?_ _)); refine blk_put (cs := #[.int .i64 0, .string (⟨#[]⟩ : ByteArray), .slice none 0 0, .slice none 0 0]) ?_ 0 _ rfl; (with_reducible repeat (first | refine blk_drewN ?_ _ | refine blk_drew ?_ | refine blk_alloc ?_ _)); exact au.out) hb) (below_step p39z hb); clear b9 au HB; obtain ⟨b9, au, HB⟩ := z_; (try clear hb)))
   go_roundg k1
   case measure => have := HK1.out; omega
   case rel => exact ⟨(wrap64 (fF + fE)), (wrap64 (bZ + 1)), p7z, p7z, H', ⟨p61z⟩, ⟨p20z⟩, ⟨p39z⟩⟩
end Go.Proofs.YtodnggilomanbaaGreatDoor.PAll
