-- Written by this repo's program wip/tools/pr.py (over the kit's print) out of the translation. Not trusted: Lean checks it.
import Derived.Test.YtodnggilomanbaaGreatDoorAp
import Derived.Test.YtodnggilomanbaaGreatDoorHandStep
import Derived.Test.YtodnggilomanbaaGreatDoorGR
set_option maxHeartbeats 8000000
set_option maxRecDepth 100000
namespace Go.Proofs.YtodnggilomanbaaGreatDoor.PAll
open Go.RowKit Go.Proofs.YtodnggilomanbaaGreatDoorW.PrintWords Go.Proofs.YtodnggilomanbaaGreatDoorW.PrintLast Go.Proofs.YtodnggilomanbaaGreatDoorW.PrintMore
attribute [local go_sem] max2_int min2_int max_two min_two max_three min_three max_four min_four   -- for this text's walks alone
set_option linter.unusedVariables false
set_option linter.unusedSimpArgs false

/-! ### aI: function 22 -/
mutual
def aI.l0 : Nat → Int → List (S28) → Int → Int → Option (Int)
  | 0, _, _, _, _ => none
  | k + 1, x3, x7, x8, x9 => if x9 < x8 then (if 0 ≤ x9 then (if x9 < (x7.length : Int) then ((aI.f k ((rd_T28 x7 x9).f0) ((rd_T28 x7 x9).f1) ((rd_T28 x7 x9).f2) ((rd_T28 x7 x9).f3)).bind fun jK => (aI.l0 k (wrap64 (x3 + jK)) x7 x8 (wrap64 (x9 + 1)))) else (none)) else (none)) else (some x3)
def aI.f : Nat → Int → ByteArray → List ByteArray → List (S28) → Option (Int)
  | 0, _, _, _, _ => none
  | k + 1, a0_0, a0_1, ab, aa => aI.l0 k 1 aa (aa.length : Int) 0
end
theorem aI.calls (k : Nat) : ∀ (a0_0 : Int) (a0_1 : ByteArray) (A0_2 : Option Addr) (c0_2 : Nat) (ab : List ByteArray) (A0_3 : Option Addr) (c0_3 : Nat) (aa : List (S28)) (r : Int) (w : World) (hr0_2 : Kd.C Kd.string w A0_2 ab.length ab) (hc0_2 : ab.length ≤ c0_2) (hr0_3 : Kd.C k28 w A0_3 aa.length aa) (hc0_3 : aa.length ≤ c0_3) (h : aI.f k a0_0 a0_1 ab aa = some r),
 Calls Tryz.prog 22 #[.agg #[.int .i64 a0_0, .string a0_1, .slice A0_2 ab.length c0_2, .slice A0_3 aa.length c0_3]] w fun e w' => e = .returned (.int .i64 r) ∧ Below w.heap.size w w' := by
 induction k using Nat.strongRecOn with
 | _ k ih =>
 intro a0_0 a0_1 A0_2 c0_2 ab A0_3 c0_3 aa r w hr0_2 hc0_2 hr0_3 hc0_3 h
 cases k with
 | zero => exact absurd h (by simp [aI.f])
 | succ k =>
 simp only [aI.f] at h
 have hu28 := Tryz.underlying28
 have cU := Aside0.mk hr0_2
 have bZ := Aside0.mk hc0_2
 clear hr0_2 hc0_2
 have cP := Aside0.mk hr0_3
 have cn := Aside0.mk hc0_3
 clear hr0_3 hc0_3
 have HB := Aside0.mk (Below.refl w.heap.size w)
 have H : (aI.l0 k 1 aa (aa.length : Int) 0) = some r := h
 clear h
 have H' := Aside0.mk H
 clear H
 go_enter Tryz.func22, Tryz.ntmps22
 go_wp2_with (first | ((with_reducible refine gate_dst (N := 1) rfl ?_); refine box_event ?hg (N := 1) ?hd (cs := #[.int .i64 a0_0, .string a0_1, .slice A0_2 ab.length c0_2, .slice A0_3 aa.length c0_3]) (t := 28) ?hr ?_; (case hd => rfl); (case hg => rfl); (case hr => exact p9z); intro er hg w2 hbox hb; have z_ := asi4 (below_step p0z hb) (hbox) ((p21z : w.heap.size ≤ er)) ((p21z : w.heap.size ≤ er)); clear HB; obtain ⟨HB, ct, GW101, gO⟩ := z_; clear hb hbox hg; obtain ⟨hcz3_0, hcz3_1, hcz3_2, hcz3_3, hfz3_0, hfz3_1, hfz3_2, hfz3_3⟩ := cells4 ct.out))
 go_loopg [3, 9] k (fun kq v3 v9 w' => ∃ (aW : Int) (cQ : Int), v3 = .int .i64 aW ∧ v9 = .int .i64 cQ ∧ Aside0 (aI.l0 kq aW aa (aa.length : Int) cQ = some r) ∧ Aside0 (kq ≤ k) ∧ Aside0 (w'.heap[er]? = some (.cells #[.int .i64 a0_0, .string a0_1, (.slice A0_2 ab.length c0_2), (.slice A0_3 aa.length c0_3)] 28 (0, 0))) ∧ Aside0 (Below w.heap.size w w'))
 case atStart => exact ⟨(1), (0), p5z, p5z, H', ⟨Nat.le_refl _⟩, ⟨p32z⟩, ⟨p56z⟩⟩
 case round =>
  clear H'
  try clear hcz3_0
  try clear hcz3_1
  try clear hcz3_2
  try clear hcz3_3
  try clear hfz3_0
  try clear hfz3_1
  try clear hfz3_2
  try clear hfz3_3
  obtain ⟨aW, cQ, rfl, rfl, HA, HK1, ct, HB⟩ := hrel
  cases gk with
  | zero => exact absurd HA.out (by simp [aI.l0])
  | succ k1 =>
   have H := HA.out
   clear HA
   simp only [aI.l0] at H
   by_cases c4 : cQ < (aa.length : Int)
   case neg =>
    rw [if_neg c4] at H
    have dd : decide (cQ < (aa.length : Int)) = false := decide_eq_false c4
    clear c4
    obtain rfl := Option.some.inj H
    go_wp2
    go_ret
    exact ⟨p7z, p56z⟩
   rw [if_pos c4] at H
   have dd : decide (cQ < (aa.length : Int)) = true := decide_eq_true c4
   clear c4
   by_cases c5 : 0 ≤ cQ
   case neg =>
    rw [if_neg c5] at H
    exact absurd H (by simp)
   rw [if_pos c5] at H
   have dE : decide (0 ≤ cQ) = true := decide_eq_true c5
   clear c5
   by_cases c6 : cQ < (aa.length : Int)
   case neg =>
    rw [if_neg c6] at H
    exact absurd H (by simp)
   rw [if_pos c6] at H
   have df : decide (cQ < (aa.length : Int)) = true := decide_eq_true c6
   clear c6
   replace H := Option.bind_eq_some_iff.mp H
   obtain ⟨jK, A70, H⟩ := H
   replace H : (aI.l0 k1 (wrap64 (aW + jK)) aa (aa.length : Int) (wrap64 (cQ + 1))) = some r := H
   have A7 := Aside0.mk A70
   clear A70
   have H' := Aside0.mk H
   clear H
   have p102 : 0 ≤ (cQ : Int) := of_decide_eq_true p4z
   have q102 : cQ < (aa.length : Int) := of_decide_eq_true p4z
   obtain ⟨ad102, A102_2, c102_2, A102_3, c102_3, e102, hx102_0, hx102_1, hx102_2, hx102_3, hl102_2, hi102_2, hl102_3, hi102_3⟩ := at_T28 cP.out cQ p102 q102
   cases e102
   replace hx102_0 := (HB.out.cell (World.block_lt_of_cell? w _ hx102_0)).trans hx102_0
   replace hx102_1 := (HB.out.cell (World.block_lt_of_cell? w _ hx102_1)).trans hx102_1
   replace hx102_2 := (HB.out.cell (World.block_lt_of_cell? w _ hx102_2)).trans hx102_2
   replace hx102_3 := (HB.out.cell (World.block_lt_of_cell? w _ hx102_3)).trans hx102_3
   have HR102_2 := Aside0.mk hi102_2
   have HC102_2 := Aside0.mk hl102_2
   clear hi102_2 hl102_2
   have HR102_3 := Aside0.mk hi102_3
   have HC102_3 := Aside0.mk hl102_3
   clear hi102_3 hl102_3
   replace p102 := eq_true p102
   replace q102 := eq_true q102
   go_wp2_with (first | ((with_reducible refine gate_dst (N := 5) rfl ?_); refine box_event ?hg (N := 5) ?hd (cs := #[.int .i64 0, .string (⟨#[]⟩ : ByteArray), .slice none 0 0, .slice none 0 0]) (t := 28) ?hr ?_; (case hd => rfl); (case hg => rfl); (case hr => exact p9z); intro cz hg w8 hbox hb; have z_ := asi7 (blk_below (g := er) (o := .cells #[.int .i64 a0_0, .string a0_1, .slice A0_2 ab.length c0_2, .slice (some ad102) aa.length c0_3] 28 (0, 0)) p32z hb) (below_step p56z hb) (hbox) ((by rw [hg]; exact (below_size p56z) : w.heap.size ≤ cz)) ((by rw [hg]; exact (below_size p56z) : w.heap.size ≤ cz)) ((by rw [hg]; exact Nat.ne_of_lt (blk_lt (g := er) (o := .cells #[.int .i64 a0_0, .string a0_1, .slice A0_2 ab.length c0_2, .slice (some ad102) aa.length c0_3] 28 (0, 0)) p32z) : er ≠ cz)) ((by rw [hg]; exact Nat.ne_of_gt (blk_lt (g := er) (o := .cells #[.int .i64 a0_0, .string a0_1, .slice A0_2 ab.length c0_2, .slice (some ad102) aa.length c0_3] 28 (0, 0)) p32z) : cz ≠ er)); clear ct HB; obtain ⟨ct, HB, bD, GW103, iQ, NB101_103, NB103_101⟩ := z_; clear hb hbox hg; have hnb9 := NB103_101.out; have hnc9 := NB101_103.out; obtain ⟨hcz10_0, hcz10_1, hcz10_2, hcz10_3, hfz10_0, hfz10_1, hfz10_2, hfz10_3⟩ := cells4 bD.out) | ((with_reducible refine gate_callee (f := 22) rfl ?_); refine goesL_ (some 15) rfl rfl Tryz.func22 p12z rfl #[.agg #[.int .i64 ((rd_T28 aa cQ).f0), .string ((rd_T28 aa cQ).f1), .slice A102_2 ((rd_T28 aa cQ).f2).length c102_2, .slice A102_3 ((rd_T28 aa cQ).f3).length c102_3]] rfl p3z ?_; (with_reducible refine (ih k1 p96z ((rd_T28 aa cQ).f0) ((rd_T28 aa cQ).f1) _ _ ((rd_T28 aa cQ).f2) _ _ ((rd_T28 aa cQ).f3) jK _ ?side1 ?side2 ?side3 ?side4 A7.out).mono ?_); (case side1 => exact Kd.C_below HR102_2.out p59z); (case side2 => exact HC102_2.out); (case side3 => exact Kd.C_below HR102_3.out p59z); (case side4 => exact HC102_3.out); rintro e w11 ⟨rfl, hb⟩; refine ⟨_, rfl, ?_⟩; have z_ := asi3 (blk_below (g := er) (o := .cells #[.int .i64 a0_0, .string a0_1, .slice A0_2 ab.length c0_2, .slice (some ad102) aa.length c0_3] 28 (0, 0)) (by (with_reducible repeat (first | refine blk_drewN ?_ _ | refine blk_drew ?_ | refine blk_alloc ?_ _)); refine blk_far ?_ NB101_103.out _; (with_reducible repeat (first | refine blk_drewN ?_ _ | refine blk_drew ?_ | refine blk_alloc ?_ _)); refine blk_far ?_ NB101_103.out _; (with_reducible repeat (first | refine blk_drewN ?_ _ | refine blk_drew ?_ | refine blk_alloc ?_ _)); refine blk_far ?_ NB101_103.out _; (with_reducible repeat (first | refine blk_drewN ?_ _ | refine blk_drew ?_ | refine blk_alloc ?_ _)); refine blk_far ?_ NB101_103.out _; (with_reducible repeat (first | refine blk_drewN ?_ _ | refine blk_drew ?_ | refine blk_alloc ?_ _)); exact ct.out) hb) (blk_below (g := cz) (o := .cells #[.int .i64 ((rd_T28 aa cQ).f0), .string ((rd_T28 aa cQ).f1), .slice A102_2 ((rd_T28 aa cQ).f2).length c102_2, .slice A102_3 ((rd_T28 aa cQ).f3).length c102_3] 28 (0, 0)) (by (with_reducible repeat (first | refine blk_drewN ?_ _ | refine blk_drew ?_ | refine blk_alloc ?_ _)); refine blk_put (cs := #[.int .i64 ((rd_T28 aa cQ).f0), .string ((rd_T28 aa cQ).f1), .slice A102_2 ((rd_T28 aa cQ).f2).length c102_2, .slice none 0 0]) ?_ 3 _ rfl; (with_reducible repeat (first | refine blk_drewN ?_ _ | refine blk_drew ?_ | refine blk_alloc ?_ _)); refine blk_put (cs := #[.int .i64 ((rd_T28 aa cQ).f0), .string ((rd_T28 aa cQ).f1), .slice none 0 0, .slice none 0 0]) ?_ 2 _ rfl; (with_reducible repeat (first | refine blk_drewN ?_ _ | refine blk_drew ?_ | refine blk_alloc ?_ _)); refine blk_put (cs := #[.int .i64 ((rd_T28 aa cQ).f0), .string (⟨#[]⟩ : ByteArray), .slice none 0 0, .slice none 0 0]) ?_ 1 _ rfl; (with_reducible repeat (first | refine blk_drewN ?_ _ | refine blk_drew ?_ | refine blk_alloc ?_ _)); refine blk_put (cs := #[.int .i64 0, .string (⟨#[]⟩ : ByteArray), .slice none 0 0, .slice none 0 0]) ?_ 0 _ rfl; (with_reducible repeat (first | refine blk_drewN ?_ _ | refine blk_drew ?_ | refine blk_alloc ?_ _)); exact bD.out) hb) (below_step p59z hb); clear ct bD HB; obtain ⟨ct, bD, HB⟩ := z_; (try clear hb)))
   go_roundg k1
   case measure => have := HK1.out; omega
   case rel => exact ⟨(wrap64 (aW + jK)), (wrap64 (cQ + 1)), p5z, p5z, H', ⟨p96z⟩, ⟨p32z⟩, ⟨p59z⟩⟩
end Go.Proofs.YtodnggilomanbaaGreatDoor.PAll
