-- Written by this repo's program wip/tools/pr.py (over the kit's print) out of the translation. Not trusted: Lean checks it.
import Derived.Test.YtodnggilomanbaaGreatDoorAp
import Derived.Test.YtodnggilomanbaaGreatDoorGRz
set_option maxHeartbeats 8000000
set_option maxRecDepth 100000
namespace Go.Proofs.YtodnggilomanbaaGreatDoor.PAll
open Go.Proofs.YtodnggilomanbaaGreatDoor.Hand
open Go.RowKit Go.Proofs.YtodnggilomanbaaGreatDoorW.PrintWords Go.Proofs.YtodnggilomanbaaGreatDoorW.PrintLast Go.Proofs.YtodnggilomanbaaGreatDoorW.PrintMore
attribute [local go_sem] max2_int min2_int max_two min_two max_three min_three max_four min_four   -- for this text's walks alone
set_option linter.unusedVariables false
set_option linter.unusedSimpArgs false
attribute [-simp] List.length_take List.length_drop ByteArray.size_extract

/-! ### signetrylaw14_own: function 12 -/
mutual
def signetrylaw14_own.l0 : Nat → Int → Int → ByteArray → List ByteArray → List (S28) → Int → ByteArray → List ByteArray → List (S37) → Option (Int × ByteArray × List ByteArray × (List (S37)))
  | 0, _, _, _, _, _, _, _, _, _ => none
  | k + 1, x4, x179000, x179001, x179002, db, eZ, f6, f8, el => if x4 < (db.length : Int) then (if 0 ≤ x4 then ((signetrylaw14_own.f k ((rd_T28 db x4).f0) ((rd_T28 db x4).f1) ((rd_T28 db x4).f2) ((rd_T28 db x4).f3)).bind fun f9 => (if el.length < 1954687338268 then (signetrylaw14_own.l0 k (wrap64 (x4 + 1)) x179000 x179001 x179002 db eZ f6 f8 (el ++ [(⟨f9.1, f9.2.1, f9.2.2.1, f9.2.2.2⟩ : S37)])) else (none))) else (none)) else (some (eZ, f6, f8, el))
def signetrylaw14_own.f : Nat → Int → ByteArray → List ByteArray → List (S28) → Option (Int × ByteArray × List ByteArray × (List (S37)))
  | 0, _, _, _, _ => none
  | k + 1, a0_0, a0_1, ac, ab => signetrylaw14_own.l0 k 0 a0_0 a0_1 ac ab a0_0 a0_1 ac ([] : List (S37))
end
theorem signetrylaw14_own.mono_l : ∀ k, (∀ y0 y1 y2 y3, LeO (signetrylaw14_own.f k y0 y1 y2 y3) (signetrylaw14_own.f (k + 1) y0 y1 y2 y3)) ∧ (∀ y0 y1 y2 y3 y4 y5 y6 y7 y8, LeO (signetrylaw14_own.l0 k y0 y1 y2 y3 y4 y5 y6 y7 y8) (signetrylaw14_own.l0 (k + 1) y0 y1 y2 y3 y4 y5 y6 y7 y8))
 | 0 => ⟨fun _ _ _ _ r h => by simp [signetrylaw14_own.f] at h, fun _ _ _ _ _ _ _ _ _ r h => by simp [signetrylaw14_own.l0] at h⟩
 | k + 1 => by
  obtain ⟨ih0, ih1⟩ := signetrylaw14_own.mono_l k
  refine ⟨?_, ?_⟩
  ·intro y0 y1 y2 y3
   unfold signetrylaw14_own.f
   exact moz
  ·intro y0 y1 y2 y3 y4 y5 y6 y7 y8
   unfold signetrylaw14_own.l0
   exact moz
theorem signetrylaw14_own.mono : ∀ a0 a1 a2 a3 k, LeO (signetrylaw14_own.f k a0 a1 a2 a3) (signetrylaw14_own.f (k + 1) a0 a1 a2 a3) := by
  intro a0 a1 a2 a3 k
  obtain ⟨ih0, ih1⟩ := signetrylaw14_own.mono_l k
  exact ih0 a0 a1 a2 a3
def signetrylaw14_own.T5 : Bool × List (List Nat × List Nat) := (true, [([], []), ([0], [0]), ([], []), ([2], [2]), ([], []), ([3, 4], [3, 4]), ([5], [5]), ([6], [6]), ([7], [7]), ([1, 8, 7], [1, 8]), ([0, 1, 2, 3, 4, 5, 6, 7, 8, 9], []), ([10, 9, 9, 0, 1, 2, 3, 4, 5, 6, 7, 8, 9], [9, 10])])
def signetrylaw14_own.B5 : List Nat := [0, 1, 0, 4, 0, 28, 60, 124, 252, 511, 1023, 2047]
theorem signetrylaw14_own.tab5 : rtab .any (opsOf Tryz.f12 5) = signetrylaw14_own.T5 := p8z
theorem signetrylaw14_own.bits5 : waitsOk signetrylaw14_own.T5.2 signetrylaw14_own.B5 = true := p8z
theorem signetrylaw14_own.calls (k : Nat) : ∀ (a0_0 : Int) (a0_1 : ByteArray) (bN : Nat → Prop) (A0_2 : Option Addr) (c0_2 : Nat) (ac : List ByteArray) (bO : Nat → Prop) (A0_3 : Option Addr) (c0_3 : Nat) (ab : List (S28)) (r1 : Int) (r2 : ByteArray) (r3 : List ByteArray) (r4 : List (S37)) (w : World) (hs0_2 : Kd.V Kd.string 9 w w.heap.size (fun k_ => bN k_) (.slice A0_2 ac.length c0_2) ac) (hs0_3 : Kd.V k28 28 w w.heap.size (fun k_ => bO k_) (.slice A0_3 ab.length c0_3) ab) (h : signetrylaw14_own.f k a0_0 a0_1 ac ab = some (r1, r2, r3, r4)),
 Calls Tryz.prog 12 #[.agg #[.int .i64 a0_0, .string a0_1, .slice A0_2 ac.length c0_2, .slice A0_3 ab.length c0_3]] w fun e w' => ∃ v2_ v3_ : Value, e = .returned (.agg #[.int .i64 r1, .string r2, v2_, v3_]) ∧ Kd.V Kd.string 9 w' w.heap.size (fun k_ => ((bN k_ ∨ bO k_) ∨ w.heap.size ≤ k_) ∧ some k_ ≠ (v3_ : Value).ownBlock) v2_ r3 ∧ Kd.N k37 37 w' w.heap.size (fun k_ => ((bN k_ ∨ bO k_) ∨ w.heap.size ≤ k_)) v3_ r4 ∧ Below w.heap.size w w' := by
 induction k using Nat.strongRecOn with
 | _ k ih =>
 intro a0_0 a0_1 bN A0_2 c0_2 ac bO A0_3 c0_3 ab r1 r2 r3 r4 w hs0_2 hs0_3 h
 cases k with
 | zero => exact absurd h (by simp [signetrylaw14_own.f])
 | succ k =>
 simp only [signetrylaw14_own.f] at h
 have hu28 := Tryz.underlying28
 have hu37 := Tryz.underlying37
 have df := Aside0.mk (show Kd.V Kd.string 9 w w.heap.size (fun k_ => ((bN k_ ∨ bO k_) ∨ w.heap.size ≤ k_)) (.slice A0_2 ac.length c0_2) ac from Kd.V_mono hs0_2 (fun k_ hk => .inl (.inl hk)))
 have dg := Aside0.mk (show Kd.V k28 28 w w.heap.size (fun k_ => ((bN k_ ∨ bO k_) ∨ w.heap.size ≤ k_)) (.slice A0_3 ab.length c0_3) ab from Kd.V_mono hs0_3 (fun k_ hk => .inl (.inr hk)))
 have HB := Aside0.mk (Below.refl w.heap.size w)
 have H : (signetrylaw14_own.l0 k 0 a0_0 a0_1 ac ab a0_0 a0_1 ac ([] : List (S37))) = some (r1, r2, r3, r4) := h
 clear h
 have H' := Aside0.mk H
 clear H
 go_enter Tryz.func12, Tryz.ntmps12
 go_wp2_with (first | ((with_reducible refine gate_dst (N := 1) rfl ?_); refine box_event ?hg (N := 1) ?hd (cs := #[.int .i64 a0_0, .string a0_1, .slice A0_2 ac.length c0_2, .slice A0_3 ab.length c0_3]) (t := 28) ?hr ?_; (case hd => rfl); (case hg => rfl); (case hr => exact p12z); intro aq hg w2 hbox hb; have z_ := asi6 (Kd.V_below (Kd.V_elderB (q1z df.out) aq (Nat.le_of_eq hg.symm)) hb) (Kd.V_below (Kd.V_elderB (q1z dg.out) aq (Nat.le_of_eq hg.symm)) hb) (below_step p0z hb) (hbox) ((p41z : w.heap.size ≤ aq)) ((p41z : w.heap.size ≤ aq)); clear df dg HB; obtain ⟨df, dg, HB, aw, GW178, fH⟩ := z_; clear hb hbox hg) | ((with_reducible refine gate_dst (N := 2) rfl ?_); refine box_event ?hg (N := 2) ?hd (cs := #[.int .i64 0, .string (⟨#[]⟩ : ByteArray), .slice none 0 0, .slice none 0 0]) (t := 37) ?hr ?_; (case hd => rfl); (case hg => rfl); (case hr => exact p12z); intro ay hg w3 hbox hb; have z_ := asi9 (Kd.V_below (Kd.V_elderB (q1z df.out) ay (Nat.le_of_eq hg.symm)) hb) (Kd.V_below (Kd.V_elderB (q1z dg.out) ay (Nat.le_of_eq hg.symm)) hb) (blk_below (g := aq) (o := .cells #[.int .i64 a0_0, .string a0_1, .slice A0_2 ac.length c0_2, .slice A0_3 ab.length c0_3] 28 (0, 0)) p21z hb) (below_step p58z hb) (hbox) ((by rw [hg]; exact (below_size p58z) : w.heap.size ≤ ay)) ((by rw [hg]; exact (below_size p58z) : w.heap.size ≤ ay)) ((by rw [hg]; exact Nat.ne_of_lt (blk_lt (g := aq) (o := .cells #[.int .i64 a0_0, .string a0_1, .slice A0_2 ac.length c0_2, .slice A0_3 ab.length c0_3] 28 (0, 0)) p21z) : aq ≠ ay)) ((by rw [hg]; exact Nat.ne_of_gt (blk_lt (g := aq) (o := .cells #[.int .i64 a0_0, .string a0_1, .slice A0_2 ac.length c0_2, .slice A0_3 ab.length c0_3] 28 (0, 0)) p21z) : ay ≠ aq)); clear df dg aw HB; obtain ⟨df, dg, aw, HB, bT, GW179, GE179, NB178_179, NB179_178⟩ := z_; clear hb hbox hg; have hnb4 := NB178_179.out; have hnc4 := NB179_178.out; have hcz5_0 : w3.cell? ⟨aq, 0, none⟩ = some (.int .i64 a0_0) := (blk_cell aw.out 0).trans rfl; have hcz5_1 : w3.cell? ⟨aq, 1, none⟩ = some (.string a0_1) := (blk_cell aw.out 1).trans rfl; have hcz5_2 : w3.cell? ⟨aq, 2, none⟩ = some (.slice A0_2 ac.length c0_2) := (blk_cell aw.out 2).trans rfl; have hcz5_3 : w3.cell? ⟨aq, 3, none⟩ = some (.slice A0_3 ab.length c0_3) := (blk_cell aw.out 3).trans rfl; have hfz5_0 := blk_frozen aw.out 0; have hfz5_1 := blk_frozen aw.out 1; have hfz5_2 := blk_frozen aw.out 2; have hfz5_3 := blk_frozen aw.out 3) | ((with_reducible refine gate_dst (N := 3) rfl ?_); refine box_event ?hg (N := 3) ?hd (cs := #[.int .i64 0, .string (⟨#[]⟩ : ByteArray), .slice none 0 0, .slice none 0 0]) (t := 37) ?hr ?_; (case hd => rfl); (case hg => rfl); (case hr => exact p12z); intro am hg w6 hbox hb; have n0_ := Aside0.mk (Kd.V_below (Kd.V_elderB (q1z df.out) am (Nat.le_of_eq hg.symm)) hb); have n1_ := Aside0.mk (Kd.V_below (Kd.V_elderB (q1z dg.out) am (Nat.le_of_eq hg.symm)) hb); have n2_ := Aside0.mk (blk_below (g := aq) (o := .cells #[.int .i64 a0_0, .string a0_1, .slice A0_2 ac.length c0_2, .slice A0_3 ab.length c0_3] 28 (0, 0)) p21z hb); have n3_ := Aside0.mk (blk_below (g := ay) (o := .cells #[.int .i64 0, .string (⟨#[]⟩ : ByteArray), .slice none 0 0, .slice none 0 0] 37 (0, 0)) p31z hb); have n4_ := Aside0.mk (below_step p56z hb); have n5_ := Aside0.mk (hbox); have n6_ := Aside0.mk ((by rw [hg]; exact (below_size p56z) : w.heap.size ≤ am)); have n7_ := Aside0.mk ((by rw [hg]; exact (below_size p56z) : w.heap.size ≤ am)); have n8_ := Aside0.mk ((by rw [hg]; exact Nat.ne_of_lt (blk_lt (g := aq) (o := .cells #[.int .i64 a0_0, .string a0_1, .slice A0_2 ac.length c0_2, .slice A0_3 ab.length c0_3] 28 (0, 0)) p21z) : aq ≠ am)); have n9_ := Aside0.mk ((by rw [hg]; exact Nat.ne_of_gt (blk_lt (g := aq) (o := .cells #[.int .i64 a0_0, .string a0_1, .slice A0_2 ac.length c0_2, .slice A0_3 ab.length c0_3] 28 (0, 0)) p21z) : am ≠ aq)); have dN := Aside0.mk ((by rw [hg]; exact Nat.ne_of_lt (blk_lt (g := ay) (o := .cells #[.int .i64 0, .string (⟨#[]⟩ : ByteArray), .slice none 0 0, .slice none 0 0] 37 (0, 0)) p31z) : ay ≠ am)); have fI := Aside0.mk ((by rw [hg]; exact Nat.ne_of_gt (blk_lt (g := ay) (o := .cells #[.int .i64 0, .string (⟨#[]⟩ : ByteArray), .slice none 0 0, .slice none 0 0] 37 (0, 0)) p31z) : am ≠ ay)); clear df; clear dg; clear aw; clear bT; clear HB; have df := n0_; have dg := n1_; have aw := n2_; have bT := n3_; have HB := n4_; have aJ := n5_; have GW180 := n6_; have GE180 := n7_; have NB178_180 := n8_; have NB180_178 := n9_; have NB179_180 := dN; have NB180_179 := fI; clear n0_ n1_ n2_ n3_ n4_ n5_ n6_ n7_ n8_ n9_ dN fI; clear hb hbox hg; have hnb7 := NB180_178.out; have hnc7 := NB178_180.out; have hnb8 := NB180_179.out; have hnc8 := NB179_180.out; have hcz9_0 : w6.cell? ⟨am, 0, none⟩ = some (.int .i64 0) := (blk_cell aJ.out 0).trans rfl; have hcz9_1 : w6.cell? ⟨am, 1, none⟩ = some (.string (⟨#[]⟩ : ByteArray)) := (blk_cell aJ.out 1).trans rfl; have hcz9_2 : w6.cell? ⟨am, 2, none⟩ = some (.slice none 0 0) := (blk_cell aJ.out 2).trans rfl; have hcz9_3 : w6.cell? ⟨am, 3, none⟩ = some (.slice none 0 0) := (blk_cell aJ.out 3).trans rfl; have hfz9_0 := blk_frozen aJ.out 0; have hfz9_1 := blk_frozen aJ.out 1; have hfz9_2 := blk_frozen aJ.out 2; have hfz9_3 := blk_frozen aJ.out 3))
 go_loopg [4] k (fun kq v4 w' => ∃ (aG : Int) (bJ : List (S37)) (aH : Value), v4 = .int .i64 aG ∧ Aside0 (signetrylaw14_own.l0 kq aG a0_0 a0_1 ac ab a0_0 a0_1 ac bJ = some (r1, r2, r3, r4)) ∧ Aside0 (kq ≤ k) ∧ Aside0 (Kd.V Kd.string 9 w' w.heap.size (fun k_ => ((bN k_ ∨ bO k_) ∨ w.heap.size ≤ k_) ∧ some k_ ≠ (aH : Value).ownBlock ∧ k_ ≠ aq ∧ k_ ≠ ay ∧ k_ ≠ am) (.slice A0_2 ac.length c0_2) ac) ∧ Aside0 (Kd.V k28 28 w' w.heap.size (fun k_ => ((bN k_ ∨ bO k_) ∨ w.heap.size ≤ k_) ∧ some k_ ≠ (aH : Value).ownBlock ∧ k_ ≠ aq ∧ k_ ≠ ay ∧ k_ ≠ am) (.slice A0_3 ab.length c0_3) ab) ∧ Aside0 (Kd.V Kd.string 9 w' w.heap.size (fun k_ => ((bN k_ ∨ bO k_) ∨ w.heap.size ≤ k_) ∧ some k_ ≠ (aH : Value).ownBlock ∧ k_ ≠ aq ∧ k_ ≠ ay ∧ k_ ≠ am) (.slice A0_2 ac.length c0_2) ac) ∧ Aside0 (Kd.N k37 37 w' w.heap.size (fun k_ => ((bN k_ ∨ bO k_) ∨ w.heap.size ≤ k_) ∧ k_ ≠ aq ∧ k_ ≠ ay ∧ k_ ≠ am) aH bJ) ∧ Aside0 (w'.heap[aq]? = some (.cells #[.int .i64 a0_0, .string a0_1, (.slice A0_2 ac.length c0_2), (.slice A0_3 ab.length c0_3)] 28 (0, 0))) ∧ Aside0 (w'.heap[ay]? = some (.cells #[.int .i64 0, .string (⟨#[]⟩ : ByteArray), (.slice none 0 0), (.slice none 0 0)] 37 (0, 0))) ∧ Aside0 (w'.heap[am]? = some (.cells #[.int .i64 a0_0, .string a0_1, (.slice A0_2 ac.length c0_2), aH] 37 (0, 0))) ∧ Aside0 (Below w.heap.size w w'))
 case atStart => exact ⟨(0), (([] : List (S37))), (.slice none 0 0), p7z, H', ⟨Nat.le_refl _⟩, ⟨p42z⟩, ⟨by (with_reducible repeat (first | apply Kd.V_alloc | apply Kd.V_drewN | apply Kd.V_drew)); exact Kd.V_mono (Kd.V_far (p := ⟨am, 3, none⟩) (Kd.V_far (p := ⟨am, 2, none⟩) (Kd.V_far (p := ⟨am, 1, none⟩) (Kd.V_far (p := ⟨am, 0, none⟩) (Kd.V_mono dg.out (fun k_ hk => (⟨hk, hk.2⟩ : _ ∧ k_ ≠ am))) (fun _ hk => hk.2) (.int .i64 a0_0)) (fun _ hk => hk.2) (.string a0_1)) (fun _ hk => hk.2) (.slice A0_2 ac.length c0_2)) (fun _ hk => hk.2) (.slice none 0 0)) (fun _ hk => ⟨hk.1.1.1.1, ⟨(by simp [Value.ownBlock]), ⟨hk.1.1.1.2, ⟨hk.1.1.2, hk.1.2⟩⟩⟩⟩)⟩, ⟨p42z⟩, ⟨p22z⟩, ⟨by (with_reducible repeat (first | refine blk_drewN ?_ _ | refine blk_drew ?_ | refine blk_alloc ?_ _)); refine blk_far ?_ NB178_180.out _; (with_reducible repeat (first | refine blk_drewN ?_ _ | refine blk_drew ?_ | refine blk_alloc ?_ _)); refine blk_far ?_ NB178_180.out _; (with_reducible repeat (first | refine blk_drewN ?_ _ | refine blk_drew ?_ | refine blk_alloc ?_ _)); refine blk_far ?_ NB178_180.out _; (with_reducible repeat (first | refine blk_drewN ?_ _ | refine blk_drew ?_ | refine blk_alloc ?_ _)); refine blk_far ?_ NB178_180.out _; (with_reducible repeat (first | refine blk_drewN ?_ _ | refine blk_drew ?_ | refine blk_alloc ?_ _)); exact aw.out⟩, ⟨by (with_reducible repeat (first | refine blk_drewN ?_ _ | refine blk_drew ?_ | refine blk_alloc ?_ _)); refine blk_far ?_ NB179_180.out _; (with_reducible repeat (first | refine blk_drewN ?_ _ | refine blk_drew ?_ | refine blk_alloc ?_ _)); refine blk_far ?_ NB179_180.out _; (with_reducible repeat (first | refine blk_drewN ?_ _ | refine blk_drew ?_ | refine blk_alloc ?_ _)); refine blk_far ?_ NB179_180.out _; (with_reducible repeat (first | refine blk_drewN ?_ _ | refine blk_drew ?_ | refine blk_alloc ?_ _)); refine blk_far ?_ NB179_180.out _; (with_reducible repeat (first | refine blk_drewN ?_ _ | refine blk_drew ?_ | refine blk_alloc ?_ _)); exact bT.out⟩, ⟨q2z aJ.out⟩, ⟨p11z⟩⟩
 case round =>
  clear H'
  try clear c1
  try clear p2
  try clear c4
  try clear c7
  try clear c8
  try clear hcz5_0
  try clear hcz5_1
  try clear hcz5_2
  try clear hcz5_3
  try clear hcz9_0
  try clear hcz9_1
  try clear hcz9_2
  try clear hcz9_3
  try clear hfz5_0
  try clear hfz5_1
  try clear hfz5_2
  try clear hfz5_3
  try clear hfz9_0
  try clear hfz9_1
  try clear hfz9_2
  try clear hfz9_3
  obtain ⟨aG, bJ, aH, rfl, HA, HK1, bK, bc, bw, bf, aw, bT, aJ, HB⟩ := hrel
  cases gk with
  | zero => exact absurd HA.out (by simp [signetrylaw14_own.l0])
  | succ k1 =>
   have H := HA.out
   clear HA
   simp only [signetrylaw14_own.l0] at H
   by_cases c10 : aG < (ab.length : Int)
   case neg =>
    rw [if_neg c10] at H
    have cY : decide (aG < (ab.length : Int)) = false := decide_eq_false c10
    clear c10
    simp only [Option.some.injEq, Prod.mk.injEq] at H
    obtain ⟨rfl, rfl, rfl, rfl⟩ := H
    have hnb24 := NB178_179.out
    have hnc24 := NB179_178.out
    have hnb25 := NB178_180.out
    have hnc25 := NB180_178.out
    have hcz26_0 : wr.cell? ⟨aq, 0, none⟩ = some (.int .i64 a0_0) := (blk_cell aw.out 0).trans rfl
    have hcz26_1 : wr.cell? ⟨aq, 1, none⟩ = some (.string a0_1) := (blk_cell aw.out 1).trans rfl
    have hcz26_2 : wr.cell? ⟨aq, 2, none⟩ = some (.slice A0_2 ac.length c0_2) := (blk_cell aw.out 2).trans rfl
    have hcz26_3 : wr.cell? ⟨aq, 3, none⟩ = some (.slice A0_3 ab.length c0_3) := (blk_cell aw.out 3).trans rfl
    have hfz26_0 := blk_frozen aw.out 0
    have hfz26_1 := blk_frozen aw.out 1
    have hfz26_2 := blk_frozen aw.out 2
    have hfz26_3 := blk_frozen aw.out 3
    have hnb27 := NB180_179.out
    have hnc27 := NB179_180.out
    have hcz28_0 : wr.cell? ⟨am, 0, none⟩ = some (.int .i64 a0_0) := (blk_cell aJ.out 0).trans rfl
    have hcz28_1 : wr.cell? ⟨am, 1, none⟩ = some (.string a0_1) := (blk_cell aJ.out 1).trans rfl
    have hcz28_2 : wr.cell? ⟨am, 2, none⟩ = some (.slice A0_2 ac.length c0_2) := (blk_cell aJ.out 2).trans rfl
    have hcz28_3 : wr.cell? ⟨am, 3, none⟩ = some (aH) := (blk_cell aJ.out 3).trans rfl
    have hfz28_0 := blk_frozen aJ.out 0
    have hfz28_1 := blk_frozen aJ.out 1
    have hfz28_2 := blk_frozen aJ.out 2
    have hfz28_3 := blk_frozen aJ.out 3
    have hcz29_0 : wr.cell? ⟨ay, 0, none⟩ = some (.int .i64 0) := (blk_cell bT.out 0).trans rfl
    have hcz29_1 : wr.cell? ⟨ay, 1, none⟩ = some (.string (⟨#[]⟩ : ByteArray)) := (blk_cell bT.out 1).trans rfl
    have hcz29_2 : wr.cell? ⟨ay, 2, none⟩ = some (.slice none 0 0) := (blk_cell bT.out 2).trans rfl
    have hcz29_3 : wr.cell? ⟨ay, 3, none⟩ = some (.slice none 0 0) := (blk_cell bT.out 3).trans rfl
    have hfz29_0 := blk_frozen bT.out 0
    have hfz29_1 := blk_frozen bT.out 1
    have hfz29_2 := blk_frozen bT.out 2
    have hfz29_3 := blk_frozen bT.out 3
    obtain ⟨Ao30, co30, eo30⟩ := Kd.N_slice bf.out
    subst eo30
    go_wp2
    refine bodyPost_ret (results_cell_row rfl _ _ ay 37 #[.int .i64 a0_0, .string a0_1, .slice A0_2 ac.length c0_2, .slice Ao30 bJ.length co30] (0, 0) _ rfl (q2z bT.out) Tryz.underlying37 rfl p8z) rfl ?_
    exact ⟨_, _, p6z, by (with_reducible repeat (first | apply Kd.V_alloc | apply Kd.V_drewN | apply Kd.V_drew)); exact Kd.V_mono (Kd.V_far (p := ⟨ay, 3, none⟩) (Kd.V_far (p := ⟨ay, 2, none⟩) (Kd.V_far (p := ⟨ay, 1, none⟩) (Kd.V_far (p := ⟨ay, 0, none⟩) (Kd.V_mono bw.out (fun k_ hk => (⟨hk, hk.2.2.2.1⟩ : _ ∧ k_ ≠ ay))) (fun _ hk => hk.2) (.int .i64 a0_0)) (fun _ hk => hk.2) (.string a0_1)) (fun _ hk => hk.2) (.slice A0_2 ac.length c0_2)) (fun _ hk => hk.2) (.slice Ao30 bJ.length co30)) (fun _ hk => ⟨hk.1.1, hk.1.2.1⟩), by (with_reducible repeat (first | apply Kd.N_alloc | apply Kd.N_drewN | apply Kd.N_drew)); exact Kd.N_mono (Kd.N_far (p := ⟨ay, 3, none⟩) (Kd.N_far (p := ⟨ay, 2, none⟩) (Kd.N_far (p := ⟨ay, 1, none⟩) (Kd.N_far (p := ⟨ay, 0, none⟩) (Kd.N_mono bf.out (fun k_ hk => (⟨hk, hk.2.2.1⟩ : _ ∧ k_ ≠ ay))) (fun _ hk => hk.2) (.int .i64 a0_0)) (fun _ hk => hk.2) (.string a0_1)) (fun _ hk => hk.2) (.slice A0_2 ac.length c0_2)) (fun _ hk => hk.2) (.slice Ao30 bJ.length co30)) (fun _ hk => hk.1.1), p11z⟩
   rw [if_pos c10] at H
   have cY : decide (aG < (ab.length : Int)) = true := decide_eq_true c10
   clear c10
   by_cases c11 : 0 ≤ aG
   case neg =>
    rw [if_neg c11] at H
    exact absurd H (by simp)
   rw [if_pos c11] at H
   have cR : decide (0 ≤ aG) = true := decide_eq_true c11
   clear c11
   replace H := Option.bind_eq_some_iff.mp H
   obtain ⟨⟨fo, fp, fq, dD⟩, A120, H⟩ := H
   replace H : (if bJ.length < 1954687338268 then (signetrylaw14_own.l0 k1 (wrap64 (aG + 1)) a0_0 a0_1 ac ab a0_0 a0_1 ac (bJ ++ [(⟨fo, fp, fq, dD⟩ : S37)])) else (none)) = some (r1, r2, r3, r4) := H
   have A12 := Aside0.mk A120
   clear A120
   by_cases c13 : bJ.length < 1954687338268
   case neg =>
    rw [if_neg c13] at H
    exact absurd H (by simp)
   rw [if_pos c13] at H
   have LMc13 := Aside0.mk c13
   clear c13
   obtain ⟨y190, hy190⟩ : ∃ y_ : List (S37), y_ = (bJ ++ [(⟨fo, fp, fq, dD⟩ : S37)]) := ⟨_, rfl⟩
   replace H : (signetrylaw14_own.l0 k1 (wrap64 (aG + 1)) a0_0 a0_1 ac ab a0_0 a0_1 ac y190) = some (r1, r2, r3, r4) := by first | (rw [hy190]; with_reducible exact H) | (have H2_ := (Option.bind_some _ _).symm.trans H; rw [hy190]; with_reducible exact H2_) | (have H2_ := (Option.bind_some _ _).symm.trans H; with_reducible exact H2_) | with_reducible exact H | (rw [hy190]; exact H) | exact H
   have Ny190 := Aside0.mk hy190
   clear hy190
   have H' := Aside0.mk H
   clear H
   have hnb14 := NB178_179.out
   have hnc14 := NB179_178.out
   have hnb15 := NB178_180.out
   have hnc15 := NB180_178.out
   have hcz16_0 : wr.cell? ⟨aq, 0, none⟩ = some (.int .i64 a0_0) := (blk_cell aw.out 0).trans rfl
   have hcz16_1 : wr.cell? ⟨aq, 1, none⟩ = some (.string a0_1) := (blk_cell aw.out 1).trans rfl
   have hcz16_2 : wr.cell? ⟨aq, 2, none⟩ = some (.slice A0_2 ac.length c0_2) := (blk_cell aw.out 2).trans rfl
   have hcz16_3 : wr.cell? ⟨aq, 3, none⟩ = some (.slice A0_3 ab.length c0_3) := (blk_cell aw.out 3).trans rfl
   have hfz16_0 := blk_frozen aw.out 0
   have hfz16_1 := blk_frozen aw.out 1
   have hfz16_2 := blk_frozen aw.out 2
   have hfz16_3 := blk_frozen aw.out 3
   try go_wp2
   have n0_ := Aside0.mk (Kd.V_drew bK.out)
   have n1_ := Aside0.mk (Kd.V_drew bc.out)
   have n2_ := Aside0.mk (Kd.V_drew bw.out)
   have n3_ := Aside0.mk (Kd.N_drew bf.out)
   have n4_ := Aside0.mk (blk_drew aw.out)
   have n5_ := Aside0.mk (blk_drew bT.out)
   have n6_ := Aside0.mk (blk_drew aJ.out)
   have n7_ := Aside0.mk (below_drew1 HB.out)
   clear bK
   clear bc
   clear bw
   clear bf
   clear aw
   clear bT
   clear aJ
   clear HB
   have bK := n0_
   have bc := n1_
   have bw := n2_
   have bf := n3_
   have aw := n4_
   have bT := n5_
   have aJ := n6_
   have HB := n7_
   clear n0_ n1_ n2_ n3_ n4_ n5_ n6_ n7_
   have p181 : 0 ≤ (aG : Int) := of_decide_eq_true p4z
   have q181 : aG < (ab.length : Int) := of_decide_eq_true p4z
   obtain ⟨ad181, A181_2, c181_2, A181_3, c181_3, e181, hx181_0, hx181_1, hx181_2, hx181_3, hl181_2, hi181_2, hl181_3, hi181_3⟩ := at_T28 (Kd.V_reads' bc.out).2.2 aG p181 q181
   cases e181
   obtain ⟨ce181, hce181, hMe181, hcc181⟩ := Kd.V_get bc.out z28 aG p181 (by first | exact q181 | exact of_decide_eq_true p4z | (have e_ := (Kd.V_reads' bc.out).1; omega))
   obtain ⟨ua181_2, uc181_2, ua181_3, uc181_3, rfl, ul181_2, ge181_2, ul181_3, ge181_3⟩ := k28_openF hMe181
   have hv181_2 := hcc181 2 _ rfl
   rw [add_field _ _ 2 (by omega)] at hv181_2
   replace hv181_2 := Option.some.inj (hv181_2.symm.trans hx181_2)
   injection hv181_2 with hva_ hvn_ hvc_
   rw [hva_] at ge181_2
   rw [hvc_] at ul181_2
   have cB := Aside0.mk (show Kd.V Kd.string 9 _ w.heap.size _ _ ((rd_T28 ab aG).f2) from Kd.V_mk ul181_2 ge181_2)
   clear hva_ hvn_ hvc_ ge181_2 ul181_2
   have hv181_3 := hcc181 3 _ rfl
   rw [add_field _ _ 3 (by omega)] at hv181_3
   replace hv181_3 := Option.some.inj (hv181_3.symm.trans hx181_3)
   injection hv181_3 with hva_ hvn_ hvc_
   rw [hva_] at ge181_3
   rw [hvc_] at ul181_3
   have cC := Aside0.mk (show Kd.V k28 28 _ w.heap.size _ _ ((rd_T28 ab aG).f3) from Kd.V_mk ul181_3 ge181_3)
   clear hva_ hvn_ hvc_ ge181_3 ul181_3
   clear hcc181 hce181
   have dk := Aside0.mk hi181_2
   have HC181_2 := Aside0.mk hl181_2
   clear hi181_2 hl181_2
   have dl := Aside0.mk hi181_3
   have HC181_3 := Aside0.mk hl181_3
   clear hi181_3 hl181_3
   replace p181 := eq_true p181
   replace q181 := eq_true q181
   refine start_ (n := 12) (S := fun w' => w'.cell? ⟨am, 0, none⟩ = some (.int .i64 a0_0) ∧ w'.cell? ⟨am, 1, none⟩ = some (.string a0_1) ∧ w'.cell? ⟨am, 2, none⟩ = some (.slice A0_2 ac.length c0_2) ∧ w'.cell? ⟨am, 3, none⟩ = some (aH) ∧ w'.cell? ⟨aq, 0, none⟩ = some (.int .i64 a0_0) ∧ w'.cell? ⟨aq, 1, none⟩ = some (.string a0_1) ∧ w'.cell? ⟨aq, 2, none⟩ = some (.slice A0_2 ac.length c0_2) ∧ w'.cell? ⟨aq, 3, none⟩ = some (.slice (some ad181) ab.length c0_3) ∧ w'.cell? (ad181.add ((aG).toNat * 4)) = some (.int .i64 ((rd_T28 ab aG).f0)) ∧ w'.cell? ⟨(ad181.add ((aG).toNat * 4)).block, (ad181.add ((aG).toNat * 4)).off + 1, none⟩ = some (.string ((rd_T28 ab aG).f1)) ∧ w'.cell? ⟨(ad181.add ((aG).toNat * 4)).block, (ad181.add ((aG).toNat * 4)).off + 2, none⟩ = some (.slice A181_2 ((rd_T28 ab aG).f2).length c181_2) ∧ w'.cell? ⟨(ad181.add ((aG).toNat * 4)).block, (ad181.add ((aG).toNat * 4)).off + 3, none⟩ = some (.slice A181_3 ((rd_T28 ab aG).f3).length c181_3)) (ds := [9, 11]) #[false, false, false, false, false, false, false, false, false, false, false, false] p8z rfl rfl ⟨(blk_cell aJ.out 0).trans rfl, (blk_cell aJ.out 1).trans rfl, (blk_cell aJ.out 2).trans rfl, (blk_cell aJ.out 3).trans rfl, (blk_cell aw.out 0).trans rfl, (blk_cell aw.out 1).trans rfl, (blk_cell aw.out 2).trans rfl, (blk_cell aw.out 3).trans rfl, hx181_0, hx181_1, hx181_2, hx181_3⟩ (fun hHeld => ?_); refine with_tabW signetrylaw14_own.tab5 signetrylaw14_own.bits5 (fun HT_ HW_ => ?_)
   generalize wr.drew = w17 at bK bc bw bf aw bT aJ HB cB cC dk dl hx181_0 hx181_1 hx181_2 hx181_3 hHeld ⊢
   refine pure_ (i := 0) (N := some 19) (v := ?_) (a' := ?_) #[true, false, false, false, false, false, false, false, false, false, false, false] rfl rfl (any_of HT_.out p8z) (fun _ _ _ h => h) (Or.inl ⟨by rfl, ?_⟩) ?_ ?_
   rotate_left
   ·intro w'
    go_simp
    with_reducible rfl
   rotate_left
   ·simp only [Act.put, List.setIfInBounds_toArray, List.set_cons_zero, List.set_cons_succ, i64_w, i32_w]
    rfl
   refine pure_ (i := 2) (N := some 21) (v := ?_) (a' := ?_) #[true, false, true, false, false, false, false, false, false, false, false, false] rfl rfl (any_of HT_.out p8z) (fun _ _ _ h => h) (Or.inl ⟨by rfl, ?_⟩) ?_ ?_
   rotate_left
   ·intro w'
    go_simp
    with_reducible rfl
   rotate_left
   ·simp only [Act.put, List.setIfInBounds_toArray, List.set_cons_zero, List.set_cons_succ, i64_w, i32_w]
    rfl
   refine pure_ (i := 4) (N := some 23) (v := ?_) (a' := ?_) #[true, false, true, false, true, false, false, false, false, false, false, false] rfl rfl (any_of HT_.out p8z) (fun _ _ _ h => h) (Or.inl ⟨by rfl, ?_⟩) ?_ ?_
   rotate_left
   ·intro w'
    go_simp
    with_reducible rfl
   rotate_left
   ·simp only [Act.put, List.setIfInBounds_toArray, List.set_cons_zero, List.set_cons_succ, i64_w, i32_w]
    rfl
   refine take_ (i := 1) (N := some 20) (v := ?_) (a' := ?_) #[true, true, true, false, true, false, false, false, false, false, false, false] rfl rfl (take_ofW HT_.out HW_.out p8z) (fun _ _ _ h => h) (Or.inl ⟨by rfl, ?_⟩) hHeld ?_ ?_
   rotate_left
   ·rintro w' ⟨s0, s1, s2, s3, s4, s5, s6, s7, s8, s9, s10, s11⟩
    go_simp
    with_reducible rfl
   rotate_left
   ·simp only [Act.put, List.setIfInBounds_toArray, List.set_cons_zero, List.set_cons_succ, i64_w, i32_w]
    rfl
   refine take_ (i := 3) (N := some 22) (v := ?_) (a' := ?_) #[true, true, true, true, true, false, false, false, false, false, false, false] rfl rfl (take_ofW HT_.out HW_.out p8z) (fun _ _ _ h => h) (Or.inl ⟨by rfl, ?_⟩) hHeld ?_ ?_
   rotate_left
   ·rintro w' ⟨s0, s1, s2, s3, s4, s5, s6, s7, s8, s9, s10, s11⟩
    go_simp
    with_reducible rfl
   rotate_left
   ·simp only [Act.put, List.setIfInBounds_toArray, List.set_cons_zero, List.set_cons_succ, i64_w, i32_w]
    rfl
   refine pure_ (i := 5) (N := some 24) (v := ?_) (a' := ?_) #[true, true, true, true, true, true, false, false, false, false, false, false] rfl rfl (any_of HT_.out p8z) (fun _ _ _ h => h) (Or.inl ⟨by rfl, ?_⟩) ?_ ?_
   rotate_left
   ·intro w'
    go_simp
    with_reducible rfl
   rotate_left
   ·simp only [Act.put, List.setIfInBounds_toArray, List.set_cons_zero, List.set_cons_succ, i64_w, i32_w]
    rfl
   refine take_ (i := 6) (N := some 25) (v := ?_) (a' := ?_) #[true, true, true, true, true, true, true, false, false, false, false, false] rfl rfl (take_ofW HT_.out HW_.out p8z) (fun _ _ _ h => h) (Or.inl ⟨by rfl, ?_⟩) hHeld ?_ ?_
   rotate_left
   ·rintro w' ⟨s0, s1, s2, s3, s4, s5, s6, s7, s8, s9, s10, s11⟩
    go_simp
    with_reducible rfl
   rotate_left
   ·simp only [Act.put, List.setIfInBounds_toArray, List.set_cons_zero, List.set_cons_succ, i64_w, i32_w]
    rfl
   refine one_ (i := 7) (N := some 26) #[true, true, true, true, true, true, true, true, false, false, false, false] rfl rfl (one_of HT_.out p8z) (by decide) (fun K hK => ?_)
   refine goes_ Tryz.func12 p8z rfl #[.agg #[.int .i64 ((rd_T28 ab aG).f0), .string ((rd_T28 ab aG).f1), .slice A181_2 ((rd_T28 ab aG).f2).length c181_2, .slice A181_3 ((rd_T28 ab aG).f3).length c181_3]] (by rfl) rfl rfl p5z ?_
   with_reducible refine (ih k1 p61z ((rd_T28 ab aG).f0) ((rd_T28 ab aG).f1) (fun k_ => (((bN k_ ∨ bO k_) ∨ w.heap.size ≤ k_) ∧ (some k_ ≠ (aH : Value).ownBlock ∧ (k_ ≠ aq ∧ (k_ ≠ ay ∧ k_ ≠ am))))) _ _ ((rd_T28 ab aG).f2) (fun k_ => (((bN k_ ∨ bO k_) ∨ w.heap.size ≤ k_) ∧ (some k_ ≠ (aH : Value).ownBlock ∧ (k_ ≠ aq ∧ (k_ ≠ ay ∧ k_ ≠ am))))) _ _ ((rd_T28 ab aG).f3) fo fp fq dD _ ?side1 ?side2 A12.out).mono ?_
   (case side1 => exact cB.out)
   (case side2 => exact cC.out)
   rintro e w18 ⟨v185, v188, rfl, ho0, ho1, hb⟩
   have HS8_ := (hb.cell (World.block_lt_of_cell? _ _ (hHeld.2.2.2.2.2.2.2.2.1))).trans (hHeld.2.2.2.2.2.2.2.2.1)
   have HS9_ := (hb.cell (World.block_lt_of_cell? _ _ (hHeld.2.2.2.2.2.2.2.2.2.1))).trans (hHeld.2.2.2.2.2.2.2.2.2.1)
   have HS10_ := (hb.cell (World.block_lt_of_cell? _ _ (hHeld.2.2.2.2.2.2.2.2.2.2.1))).trans (hHeld.2.2.2.2.2.2.2.2.2.2.1)
   have HS11_ := (hb.cell (World.block_lt_of_cell? _ _ (hHeld.2.2.2.2.2.2.2.2.2.2.2))).trans (hHeld.2.2.2.2.2.2.2.2.2.2.2)
   refine ⟨_, rfl, ?_⟩
   have n0_ := Aside0.mk (Kd.V_elder' (q1z bK.out) (Kd.N_base ho1) hb)
   have n1_ := Aside0.mk (Kd.V_elder' (q1z bc.out) (Kd.N_base ho1) hb)
   have n2_ := Aside0.mk (Kd.V_elder' (q1z bw.out) (Kd.N_base ho1) hb)
   have n3_ := Aside0.mk (Kd.N_elder' p72z (Kd.N_base ho1) hb)
   have n4_ := Aside0.mk (Kd.V_elder' (q1z cB.out) (Kd.N_base ho1) hb)
   have n5_ := Aside0.mk (Kd.V_elder' (q1z cC.out) (Kd.N_base ho1) hb)
   have n6_ := Aside0.mk (Kd.V_lower (Kd.V_mono (ok' := fun k_ => ((bN k_ ∨ bO k_) ∨ w.heap.size ≤ k_) ∧ some k_ ≠ (v188 : Value).ownBlock ∧ some k_ ≠ (aH : Value).ownBlock ∧ k_ ≠ aq ∧ k_ ≠ ay ∧ k_ ≠ am) ho0 (fun k_ hk_ => ⟨Or.elim hk_.1 (fun hs_ => Or.elim hs_ (fun hs_ => hs_.1) (fun hs_ => hs_.1)) (fun hn_ => (.inr (Nat.le_trans (below_size p11z) hn_))), hk_.2, Or.elim hk_.1 (fun hs_ => Or.elim hs_ (fun hs_ => hs_.2.1) (fun hs_ => hs_.2.1)) (fun hn_ => (Kd.fresh' (Kd.N_lt p72z) k_ hn_)), Or.elim hk_.1 (fun hs_ => Or.elim hs_ (fun hs_ => hs_.2.2.1) (fun hs_ => hs_.2.2.1)) (fun hn_ => (Kd.freshB (g := aq) (o := .cells #[.int .i64 a0_0, .string a0_1, .slice A0_2 ac.length c0_2, .slice (some ad181) ab.length c0_3] 28 (0, 0)) p21z k_ hn_)), Or.elim hk_.1 (fun hs_ => Or.elim hs_ (fun hs_ => hs_.2.2.2.1) (fun hs_ => hs_.2.2.2.1)) (fun hn_ => (Kd.freshB (g := ay) (o := .cells #[.int .i64 0, .string (⟨#[]⟩ : ByteArray), .slice none 0 0, .slice none 0 0] 37 (0, 0)) p31z k_ hn_)), Or.elim hk_.1 (fun hs_ => Or.elim hs_ (fun hs_ => hs_.2.2.2.2) (fun hs_ => hs_.2.2.2.2)) (fun hn_ => (Kd.freshB (g := am) (o := .cells #[.int .i64 a0_0, .string a0_1, .slice A0_2 ac.length c0_2, aH] 37 (0, 0)) p51z k_ hn_))⟩)) (below_size p11z))
   have n7_ := Aside0.mk (Kd.N_lower (Kd.N_mono (ok' := fun k_ => ((bN k_ ∨ bO k_) ∨ w.heap.size ≤ k_) ∧ some k_ ≠ (aH : Value).ownBlock ∧ k_ ≠ aq ∧ k_ ≠ ay ∧ k_ ≠ am) ho1 (fun k_ hk_ => ⟨Or.elim hk_ (fun hs_ => Or.elim hs_ (fun hs_ => hs_.1) (fun hs_ => hs_.1)) (fun hn_ => (.inr (Nat.le_trans (below_size p11z) hn_))), Or.elim hk_ (fun hs_ => Or.elim hs_ (fun hs_ => hs_.2.1) (fun hs_ => hs_.2.1)) (fun hn_ => (Kd.fresh' (Kd.N_lt p72z) k_ hn_)), Or.elim hk_ (fun hs_ => Or.elim hs_ (fun hs_ => hs_.2.2.1) (fun hs_ => hs_.2.2.1)) (fun hn_ => (Kd.freshB (g := aq) (o := .cells #[.int .i64 a0_0, .string a0_1, .slice A0_2 ac.length c0_2, .slice (some ad181) ab.length c0_3] 28 (0, 0)) p21z k_ hn_)), Or.elim hk_ (fun hs_ => Or.elim hs_ (fun hs_ => hs_.2.2.2.1) (fun hs_ => hs_.2.2.2.1)) (fun hn_ => (Kd.freshB (g := ay) (o := .cells #[.int .i64 0, .string (⟨#[]⟩ : ByteArray), .slice none 0 0, .slice none 0 0] 37 (0, 0)) p31z k_ hn_)), Or.elim hk_ (fun hs_ => Or.elim hs_ (fun hs_ => hs_.2.2.2.2) (fun hs_ => hs_.2.2.2.2)) (fun hn_ => (Kd.freshB (g := am) (o := .cells #[.int .i64 a0_0, .string a0_1, .slice A0_2 ac.length c0_2, aH] 37 (0, 0)) p51z k_ hn_))⟩)) (below_size p11z))
   have n8_ := Aside0.mk (blk_below (g := aq) (o := .cells #[.int .i64 a0_0, .string a0_1, .slice A0_2 ac.length c0_2, .slice (some ad181) ab.length c0_3] 28 (0, 0)) p21z hb)
   have n9_ := Aside0.mk (blk_below (g := ay) (o := .cells #[.int .i64 0, .string (⟨#[]⟩ : ByteArray), .slice none 0 0, .slice none 0 0] 37 (0, 0)) p31z hb)
   have dN := Aside0.mk (blk_below (g := am) (o := .cells #[.int .i64 a0_0, .string a0_1, .slice A0_2 ac.length c0_2, aH] 37 (0, 0)) p51z hb)
   have fI := Aside0.mk (Kd.C_below (by repeat (first | (with_reducible exact dk.out) | (with_reducible refine Kd.C_alloc ?_ _) | (with_reducible refine Kd.C_drewN ?_ _) | (with_reducible refine Kd.C_drew ?_) | exact dk.out)) hb)
   have n12_ := Aside0.mk (Kd.C_below (by repeat (first | (with_reducible exact dl.out) | (with_reducible refine Kd.C_alloc ?_ _) | (with_reducible refine Kd.C_drewN ?_ _) | (with_reducible refine Kd.C_drew ?_) | exact dl.out)) hb)
   have n13_ := Aside0.mk (below_step p11z hb)
   clear bK
   clear bc
   clear bw
   clear bf
   clear cB
   clear cC
   clear aw
   clear bT
   clear aJ
   clear dk
   clear dl
   clear HB
   have bK := n0_
   have bc := n1_
   have bw := n2_
   have bf := n3_
   have cB := n4_
   have cC := n5_
   have dW := n6_
   have fa := n7_
   have aw := n8_
   have bT := n9_
   have aJ := dN
   have dk := fI
   have dl := n12_
   have HB := n13_
   clear n0_ n1_ n2_ n3_ n4_ n5_ n6_ n7_ n8_ n9_ dN fI n12_ n13_
   (try clear hb)
   (try clear hb2)
   (try clear hk)
   (try clear hi)
   (try clear ho0)
   (try clear ho1)
   obtain ⟨Ao20, co20, eo20⟩ := Kd.V_slice dW.out
   (first | subst eo20 | (injection eo20 with f1_ f2_ f3_; have f4_ := f1_.symm; have f5_ := f3_.symm; clear f1_ f2_ f3_; subst f4_; subst f5_))
   obtain ⟨dy, co21, eo21⟩ := Kd.N_slice fa.out
   (first | subst eo21 | (injection eo21 with f1_ f2_ f3_; have f4_ := f1_.symm; have f5_ := f3_.symm; clear f1_ f2_ f3_; subst f4_; subst f5_))
   refine hK.out _ _ ⟨(blk_cell aJ.out 0).trans rfl, (blk_cell aJ.out 1).trans rfl, (blk_cell aJ.out 2).trans rfl, (blk_cell aJ.out 3).trans rfl, (blk_cell aw.out 0).trans rfl, (blk_cell aw.out 1).trans rfl, (blk_cell aw.out 2).trans rfl, (blk_cell aw.out 3).trans rfl, HS8_, HS9_, HS10_, HS11_⟩ (fun hHeld => ?_)
   clear hK K
   refine norm_ (a' := ?_) ?_ ?_
   rotate_left
   ·show Act.put _ (some 26) _ = _
    simp only [Act.put, List.setIfInBounds_toArray, List.set_cons_zero, List.set_cons_succ, i64_w, i32_w]
    rfl
   refine one_ (i := 8) (N := some 27) #[true, true, true, true, true, true, true, true, true, false, false, false] rfl rfl (one_of HT_.out p8z) (by decide) (fun K hK => ?_)
   refine value_ (w1 := ?_) (v := ?_) (by rfl) rfl ?_ ?_
   rotate_left 2
   ·go_simp
    constructor
    ·rfl
    ·rfl
   refine hK.out _ _ ⟨(blk_cell (blk_alloc aJ.out _) 0).trans rfl, (blk_cell (blk_alloc aJ.out _) 1).trans rfl, (blk_cell (blk_alloc aJ.out _) 2).trans rfl, (blk_cell (blk_alloc aJ.out _) 3).trans rfl, (blk_cell (blk_alloc aw.out _) 0).trans rfl, (blk_cell (blk_alloc aw.out _) 1).trans rfl, (blk_cell (blk_alloc aw.out _) 2).trans rfl, (blk_cell (blk_alloc aw.out _) 3).trans rfl, (World.cell?_alloc_lt _ _ _ (World.block_lt_of_cell? _ _ (hHeld.2.2.2.2.2.2.2.2.1))).trans (hHeld.2.2.2.2.2.2.2.2.1), (World.cell?_alloc_lt _ _ _ (World.block_lt_of_cell? _ _ (hHeld.2.2.2.2.2.2.2.2.2.1))).trans (hHeld.2.2.2.2.2.2.2.2.2.1), (World.cell?_alloc_lt _ _ _ (World.block_lt_of_cell? _ _ (hHeld.2.2.2.2.2.2.2.2.2.2.1))).trans (hHeld.2.2.2.2.2.2.2.2.2.2.1), (World.cell?_alloc_lt _ _ _ (World.block_lt_of_cell? _ _ (hHeld.2.2.2.2.2.2.2.2.2.2.2))).trans (hHeld.2.2.2.2.2.2.2.2.2.2.2)⟩ (fun hHeld => ?_)
   clear hK K
   refine norm_ (a' := ?_) ?_ ?_
   rotate_left
   ·show Act.put _ (some 27) _ = _
    simp only [Act.put, List.setIfInBounds_toArray, List.set_cons_zero, List.set_cons_succ, i64_w, i32_w]
    rfl
   refine last_ (i := 9) (N := some 28) #[true, true, true, true, true, true, true, true, true, true, false, false] rfl rfl (one_of HT_.out p8z) (by decide) (fun K hK => ?_)
   refine Kd.N_append_step k37 (w0 := w) w.heap.size (by rfl) (.tmp 20) (.tmp 27) 35 37 (.agg #[(.int .i64 0), (.string ⟨#[]⟩), (.slice none 0 0), (.slice none 0 0)]) 72 rfl Tryz.underlying35 info37 rfl (by decide) (by omega) aH bJ (⟨fo, fp, fq, dD⟩ : S37) [.int .i64 fo, .string fp, .slice Ao20 fq.length co20, .slice dy dD.length co21] (fun k_ => ((bN k_ ∨ bO k_) ∨ w.heap.size ≤ k_) ∧ k_ ≠ aq ∧ k_ ≠ ay ∧ k_ ≠ am) (fun k_ => ((fun k_ => ((bN k_ ∨ bO k_) ∨ w.heap.size ≤ k_) ∧ k_ ≠ aq ∧ k_ ≠ ay ∧ k_ ≠ am)) k_ ∧ some k_ ≠ (aH : Value).ownBlock) rfl rfl ?aP (fun _ hk => hk) ?aF ?aO ?aB ?aS ?aL ?_
   (case aP => exact (k37_mkF _ _ (⟨fo, fp, fq, dD⟩ : S37) (Kd.V_reads' (Kd.V_mono (ok' := (fun k_ => ((fun k_ => ((bN k_ ∨ bO k_) ∨ w.heap.size ≤ k_) ∧ k_ ≠ aq ∧ k_ ≠ ay ∧ k_ ≠ am)) k_ ∧ some k_ ≠ (aH : Value).ownBlock)) (dW.out) (fun k_ hk => ⟨⟨hk.1, ⟨hk.2.2.2.1, ⟨hk.2.2.2.2.1, hk.2.2.2.2.2⟩⟩⟩, hk.2.2.1⟩))).2.1 (Kd.V_F (Kd.V_mono (ok' := (fun k_ => ((fun k_ => ((bN k_ ∨ bO k_) ∨ w.heap.size ≤ k_) ∧ k_ ≠ aq ∧ k_ ≠ ay ∧ k_ ≠ am)) k_ ∧ some k_ ≠ (aH : Value).ownBlock)) (dW.out) (fun k_ hk => ⟨⟨hk.1, ⟨hk.2.2.2.1, ⟨hk.2.2.2.2.1, hk.2.2.2.2.2⟩⟩⟩, hk.2.2.1⟩))) (Kd.N_reads' (Kd.N_mono (ok' := (fun k_ => ((fun k_ => ((bN k_ ∨ bO k_) ∨ w.heap.size ≤ k_) ∧ k_ ≠ aq ∧ k_ ≠ ay ∧ k_ ≠ am)) k_ ∧ some k_ ≠ (aH : Value).ownBlock)) (fa.out) (fun k_ hk => ⟨⟨hk.1, ⟨hk.2.2.1, ⟨hk.2.2.2.1, hk.2.2.2.2⟩⟩⟩, hk.2.1⟩))).2.1 (Kd.N_F (Kd.N_mono (ok' := (fun k_ => ((fun k_ => ((bN k_ ∨ bO k_) ∨ w.heap.size ≤ k_) ∧ k_ ≠ aq ∧ k_ ≠ ay ∧ k_ ≠ am)) k_ ∧ some k_ ≠ (aH : Value).ownBlock)) (fa.out) (fun k_ hk => ⟨⟨hk.1, ⟨hk.2.2.1, ⟨hk.2.2.2.1, hk.2.2.2.2⟩⟩⟩, hk.2.1⟩)))))
   (case aB => exact p11z)
   (case aF => exact (fun k_ hk => ⟨(.inr (Nat.le_trans (below_size p11z) hk)), Kd.freshB (g := aq) (o := .cells #[.int .i64 a0_0, .string a0_1, .slice A0_2 ac.length c0_2, .slice (some ad181) ab.length c0_3] 28 (0, 0)) p21z k_ hk, Kd.freshB (g := ay) (o := .cells #[.int .i64 0, .string (⟨#[]⟩ : ByteArray), .slice none 0 0, .slice none 0 0] 37 (0, 0)) p31z k_ hk, Kd.freshB (g := am) (o := .cells #[.int .i64 a0_0, .string a0_1, .slice A0_2 ac.length c0_2, aH] 37 (0, 0)) p51z k_ hk⟩))
   (case aO => exact (by (with_reducible repeat (first | apply Kd.N_alloc | apply Kd.N_drewN | apply Kd.N_drew)); exact Kd.N_mono bf.out (fun _ hk => ⟨hk.1.1, ⟨hk.1.2.1, ⟨hk.1.2.2.1, hk.1.2.2.2⟩⟩⟩)))
   (case aS => exact (below_size p11z))
   (case aL => have := LMc13.out; omega)
   intro v191 w19 ho hb hg hat
   rw [← Ny190.out] at ho
   have n0_ := Aside0.mk (Kd.V_afterv (ok := (fun k_ => ((bN k_ ∨ bO k_) ∨ w.heap.size ≤ k_) ∧ some k_ ≠ (.slice dy dD.length co21 : Value).ownBlock ∧ k_ ≠ aq ∧ k_ ≠ ay ∧ k_ ≠ am)) (by (with_reducible repeat (first | apply Kd.V_alloc | apply Kd.V_drewN | apply Kd.V_drew)); exact Kd.V_mono bK.out (fun _ hk => ⟨⟨hk.1.1, ⟨hk.2, ⟨hk.1.2.2.1, ⟨hk.1.2.2.2.1, hk.1.2.2.2.2⟩⟩⟩⟩, hk.1.2.1⟩)) hg hat)
   have n1_ := Aside0.mk (Kd.V_afterv (ok := (fun k_ => ((bN k_ ∨ bO k_) ∨ w.heap.size ≤ k_) ∧ some k_ ≠ (.slice dy dD.length co21 : Value).ownBlock ∧ k_ ≠ aq ∧ k_ ≠ ay ∧ k_ ≠ am)) (by (with_reducible repeat (first | apply Kd.V_alloc | apply Kd.V_drewN | apply Kd.V_drew)); exact Kd.V_mono bc.out (fun _ hk => ⟨⟨hk.1.1, ⟨hk.2, ⟨hk.1.2.2.1, ⟨hk.1.2.2.2.1, hk.1.2.2.2.2⟩⟩⟩⟩, hk.1.2.1⟩)) hg hat)
   have n2_ := Aside0.mk (Kd.V_afterv (ok := (fun k_ => ((bN k_ ∨ bO k_) ∨ w.heap.size ≤ k_) ∧ some k_ ≠ (.slice dy dD.length co21 : Value).ownBlock ∧ k_ ≠ aq ∧ k_ ≠ ay ∧ k_ ≠ am)) (by (with_reducible repeat (first | apply Kd.V_alloc | apply Kd.V_drewN | apply Kd.V_drew)); exact Kd.V_mono bw.out (fun _ hk => ⟨⟨hk.1.1, ⟨hk.2, ⟨hk.1.2.2.1, ⟨hk.1.2.2.2.1, hk.1.2.2.2.2⟩⟩⟩⟩, hk.1.2.1⟩)) hg hat)
   have n3_ := Aside0.mk (blk_grown (g := aq) (o := .cells #[.int .i64 a0_0, .string a0_1, .slice A0_2 ac.length c0_2, .slice (some ad181) ab.length c0_3] 28 (0, 0)) p21z hg (Kd.N_ne bf.out aw.out (by decide)))
   have n4_ := Aside0.mk (blk_grown (g := ay) (o := .cells #[.int .i64 0, .string (⟨#[]⟩ : ByteArray), .slice none 0 0, .slice none 0 0] 37 (0, 0)) p31z hg (Kd.N_away bf.out (fun _ hk => hk.1.2.2.1)))
   have n5_ := Aside0.mk (blk_grown (g := am) (o := .cells #[.int .i64 a0_0, .string a0_1, .slice A0_2 ac.length c0_2, aH] 37 (0, 0)) p51z hg (Kd.N_away bf.out (fun _ hk => hk.1.2.2.2)))
   have n6_ := Aside0.mk (Kd.V_afterv (ok := (fun k_ => ((bN k_ ∨ bO k_) ∨ w.heap.size ≤ k_) ∧ some k_ ≠ (.slice dy dD.length co21 : Value).ownBlock ∧ k_ ≠ aq ∧ k_ ≠ ay ∧ k_ ≠ am)) (by (with_reducible repeat (first | apply Kd.V_alloc | apply Kd.V_drewN | apply Kd.V_drew)); exact Kd.V_mono cB.out (fun _ hk => ⟨⟨hk.1.1, ⟨hk.2, ⟨hk.1.2.2.1, ⟨hk.1.2.2.2.1, hk.1.2.2.2.2⟩⟩⟩⟩, hk.1.2.1⟩)) hg hat)
   have n7_ := Aside0.mk (Kd.V_afterv (ok := (fun k_ => ((bN k_ ∨ bO k_) ∨ w.heap.size ≤ k_) ∧ some k_ ≠ (.slice dy dD.length co21 : Value).ownBlock ∧ k_ ≠ aq ∧ k_ ≠ ay ∧ k_ ≠ am)) (by (with_reducible repeat (first | apply Kd.V_alloc | apply Kd.V_drewN | apply Kd.V_drew)); exact Kd.V_mono cC.out (fun _ hk => ⟨⟨hk.1.1, ⟨hk.2, ⟨hk.1.2.2.1, ⟨hk.1.2.2.2.1, hk.1.2.2.2.2⟩⟩⟩⟩, hk.1.2.1⟩)) hg hat)
   have n8_ := Aside0.mk (Kd.V_afterv (ok := (fun k_ => ((bN k_ ∨ bO k_) ∨ w.heap.size ≤ k_) ∧ some k_ ≠ (.slice dy dD.length co21 : Value).ownBlock ∧ k_ ≠ aq ∧ k_ ≠ ay ∧ k_ ≠ am)) (by (with_reducible repeat (first | apply Kd.V_alloc | apply Kd.V_drewN | apply Kd.V_drew)); exact Kd.V_mono dW.out (fun _ hk => ⟨⟨hk.1, ⟨hk.2.1, ⟨hk.2.2.2.1, ⟨hk.2.2.2.2.1, hk.2.2.2.2.2⟩⟩⟩⟩, hk.2.2.1⟩)) hg hat)
   have n9_ := Aside0.mk (hb)
   have dN := Aside0.mk (ho)
   clear bK
   clear bc
   clear bw
   clear aw
   clear bT
   clear aJ
   clear cB
   clear cC
   clear dW
   clear HB
   clear bf
   clear fa
   have bK := n0_
   have bc := n1_
   have bw := n2_
   have aw := n3_
   have bT := n4_
   have aJ := n5_
   have cB := n6_
   have cC := n7_
   have dW := n8_
   have HB := n9_
   have HO192 := dN
   clear n0_ n1_ n2_ n3_ n4_ n5_ n6_ n7_ n8_ n9_ dN
   clear ho hb hg hat
   obtain ⟨bY, co22, eo22⟩ := Kd.N_slice HO192.out
   (first | subst eo22 | (injection eo22 with f1_ f2_ f3_; have f4_ := f1_.symm; have f5_ := f3_.symm; clear f1_ f2_ f3_; subst f4_; subst f5_))
   refine hK.out _ _ ?_
   clear hK K
   refine norm_ (a' := ?_) ?_ ?_
   rotate_left
   ·show Act.put _ (some 28) _ = _
    simp only [Act.put, List.setIfInBounds_toArray, List.set_cons_zero, List.set_cons_succ, i64_w, i32_w]
    rfl
   refine pure_ (i := 10) (N := some 29) (v := ?_) (a' := ?_) #[true, true, true, true, true, true, true, true, true, true, true, false] rfl rfl (any_of HT_.out p8z) (fun _ _ _ h => h) (Or.inl ⟨by rfl, ?_⟩) ?_ ?_
   rotate_left
   ·intro w'
    go_simp
    with_reducible rfl
   rotate_left
   ·simp only [Act.put, List.setIfInBounds_toArray, List.set_cons_zero, List.set_cons_succ, i64_w, i32_w]
    rfl
   refine last_ (i := 11) (N := none) #[true, true, true, true, true, true, true, true, true, true, true, true] rfl rfl (one_of HT_.out p8z) (by decide) (fun K hK => ?_)
   have hs23 : w19.cell? ⟨am, 3, none⟩ = some (aH) := (blk_cell aJ.out 3).trans rfl
   have hfs23 := blk_frozen aJ.out 3
   have hns23_0 := NB178_180.out
   have hns23_1 := NB179_180.out
   have hms23_0 := NB180_178.out
   have hms23_1 := NB180_179.out
   refine skip_ (w1 := ?_) (by rfl) rfl ?_ ?_
   rotate_left
   ·go_simp
    rfl
   refine hK.out _ _ ?_
   clear hK K
   refine done_ (done_of HT_.out p8z) ?_
   try go_wp2
   go_roundg k1
   case measure => have := HK1.out; omega
   case rel => exact ⟨(wrap64 (aG + 1)), (y190), (.slice bY y190.length co22), p7z, H', ⟨p61z⟩, ⟨by (with_reducible repeat (first | apply Kd.V_alloc | apply Kd.V_drewN | apply Kd.V_drew)); exact Kd.V_mono (Kd.V_far (p := ⟨am, 3, none⟩) (Kd.V_mono bK.out (fun k_ hk => (⟨hk, hk.1.2.2.2.2⟩ : _ ∧ k_ ≠ am))) (fun _ hk => hk.2) (.slice bY y190.length co22)) (fun _ hk => ⟨hk.1.1.1, ⟨hk.1.2, ⟨hk.1.1.2.2.1, ⟨hk.1.1.2.2.2.1, hk.1.1.2.2.2.2⟩⟩⟩⟩)⟩, ⟨by (with_reducible repeat (first | apply Kd.V_alloc | apply Kd.V_drewN | apply Kd.V_drew)); exact Kd.V_mono (Kd.V_far (p := ⟨am, 3, none⟩) (Kd.V_mono bc.out (fun k_ hk => (⟨hk, hk.1.2.2.2.2⟩ : _ ∧ k_ ≠ am))) (fun _ hk => hk.2) (.slice bY y190.length co22)) (fun _ hk => ⟨hk.1.1.1, ⟨hk.1.2, ⟨hk.1.1.2.2.1, ⟨hk.1.1.2.2.2.1, hk.1.1.2.2.2.2⟩⟩⟩⟩)⟩, ⟨by (with_reducible repeat (first | apply Kd.V_alloc | apply Kd.V_drewN | apply Kd.V_drew)); exact Kd.V_mono (Kd.V_far (p := ⟨am, 3, none⟩) (Kd.V_mono bw.out (fun k_ hk => (⟨hk, hk.1.2.2.2.2⟩ : _ ∧ k_ ≠ am))) (fun _ hk => hk.2) (.slice bY y190.length co22)) (fun _ hk => ⟨hk.1.1.1, ⟨hk.1.2, ⟨hk.1.1.2.2.1, ⟨hk.1.1.2.2.2.1, hk.1.1.2.2.2.2⟩⟩⟩⟩)⟩, ⟨by (with_reducible repeat (first | apply Kd.N_alloc | apply Kd.N_drewN | apply Kd.N_drew)); exact Kd.N_mono (Kd.N_far (p := ⟨am, 3, none⟩) (Kd.N_mono HO192.out (fun k_ hk => (⟨hk, hk.2.2.2⟩ : _ ∧ k_ ≠ am))) (fun _ hk => hk.2) (.slice bY y190.length co22)) (fun _ hk => ⟨hk.1.1, ⟨hk.1.2.1, ⟨hk.1.2.2.1, hk.1.2.2.2⟩⟩⟩)⟩, ⟨by (with_reducible repeat (first | refine blk_drewN ?_ _ | refine blk_drew ?_ | refine blk_alloc ?_ _)); refine blk_far ?_ NB178_180.out _; (with_reducible repeat (first | refine blk_drewN ?_ _ | refine blk_drew ?_ | refine blk_alloc ?_ _)); exact aw.out⟩, ⟨by (with_reducible repeat (first | refine blk_drewN ?_ _ | refine blk_drew ?_ | refine blk_alloc ?_ _)); refine blk_far ?_ NB179_180.out _; (with_reducible repeat (first | refine blk_drewN ?_ _ | refine blk_drew ?_ | refine blk_alloc ?_ _)); exact bT.out⟩, ⟨by (with_reducible repeat (first | refine blk_drewN ?_ _ | refine blk_drew ?_ | refine blk_alloc ?_ _)); refine blk_put (cs := #[.int .i64 a0_0, .string a0_1, .slice A0_2 ac.length c0_2, aH]) ?_ 3 _ rfl; (with_reducible repeat (first | refine blk_drewN ?_ _ | refine blk_drew ?_ | refine blk_alloc ?_ _)); exact aJ.out⟩, ⟨p11z⟩⟩
end Go.Proofs.YtodnggilomanbaaGreatDoor.PAll
