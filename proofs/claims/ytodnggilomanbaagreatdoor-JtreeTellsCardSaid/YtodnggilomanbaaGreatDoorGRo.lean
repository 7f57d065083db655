-- Written by this repo's program wip/tools/pr.py (over the kit's print) out of the translation. Not trusted: Lean checks it.
import Derived.Test.YtodnggilomanbaaGreatDoorAp
import Derived.Test.YtodnggilomanbaaGreatDoorHandStep
import Derived.Test.YtodnggilomanbaaGreatDoorGTz
set_option maxHeartbeats 8000000
set_option maxRecDepth 100000
namespace Go.Proofs.YtodnggilomanbaaGreatDoor.PAll
open Go.RowKit Go.Proofs.YtodnggilomanbaaGreatDoorW.PrintWords Go.Proofs.YtodnggilomanbaaGreatDoorW.PrintLast Go.Proofs.YtodnggilomanbaaGreatDoorW.PrintMore
attribute [local go_sem] max2_int min2_int max_two min_two max_three min_three max_four min_four   -- for this text's walks alone
set_option linter.unusedVariables false
set_option linter.unusedSimpArgs false
attribute [-simp] List.length_take List.length_drop ByteArray.size_extract

/-! ### al: function 12 -/
mutual
def al.l0 : Nat → Int → Int → ByteArray → List ByteArray → List (S28) → Int → ByteArray → List ByteArray → List (S37) → Option (Int × ByteArray × List ByteArray × (List (S37)))
  | 0, _, _, _, _, _, _, _, _, _ => none
  | k + 1, x4, dg, dh, cw, bW, cN, cO, cD, di => if x4 < (bW.length : Int) then (if 0 ≤ x4 then ((al.f k ((rd_T28 bW x4).f0) ((rd_T28 bW x4).f1) ((rd_T28 bW x4).f2) ((rd_T28 bW x4).f3)).bind fun iF => (if di.length < 1954687338268 then (al.l0 k (wrap64 (x4 + 1)) dg dh cw bW cN cO cD (di ++ [(⟨iF.1, iF.2.1, iF.2.2.1, iF.2.2.2⟩ : S37)])) else (none))) else (none)) else (some (cN, cO, cD, di))
def al.f : Nat → Int → ByteArray → List ByteArray → List (S28) → Option (Int × ByteArray × List ByteArray × (List (S37)))
  | 0, _, _, _, _ => none
  | k + 1, a0_0, a0_1, ab, aa => al.l0 k 0 a0_0 a0_1 ab aa a0_0 a0_1 ab ([] : List (S37))
end
def al.T5 : Bool × List (List Nat × List Nat) := (true, [([], []), ([0], [0]), ([], []), ([2], [2]), ([], []), ([3, 4], [3, 4]), ([5], [5]), ([6], [6]), ([7], [7]), ([1, 8, 7], [1, 8]), ([0, 1, 2, 3, 4, 5, 6, 7, 8, 9], []), ([10, 9, 9, 0, 1, 2, 3, 4, 5, 6, 7, 8, 9], [9, 10])])
def al.B5 : List Nat := [0, 1, 0, 4, 0, 28, 60, 124, 252, 511, 1023, 2047]
theorem al.tab5 : rtab .any (opsOf Tryz.f12 5) = al.T5 := p12z
theorem al.bits5 : waitsOk al.T5.2 al.B5 = true := p12z
theorem al.calls (k : Nat) : ∀ (a0_0 : Int) (a0_1 : ByteArray) (cu : Nat → Prop) (A0_2 : Option Addr) (c0_2 : Nat) (ab : List ByteArray) (cv : Nat → Prop) (A0_3 : Option Addr) (c0_3 : Nat) (aa : List (S28)) (r1 : Int) (r2 : ByteArray) (r3 : List ByteArray) (r4 : List (S37)) (w : World) (hs0_2 : Kd.V Kd.string 9 w w.heap.size (fun k_ => cu k_) (.slice A0_2 ab.length c0_2) ab) (hs0_3 : Kd.V k28 28 w w.heap.size (fun k_ => cv k_) (.slice A0_3 aa.length c0_3) aa) (h : al.f k a0_0 a0_1 ab aa = some (r1, r2, r3, r4)),
 Calls Tryz.prog 12 #[.agg #[.int .i64 a0_0, .string a0_1, .slice A0_2 ab.length c0_2, .slice A0_3 aa.length c0_3]] w fun e w' => ∃ v2_ v3_ : Value, e = .returned (.agg #[.int .i64 r1, .string r2, v2_, v3_]) ∧ Kd.V Kd.string 9 w' w.heap.size (fun k_ => ((cu k_ ∨ cv k_) ∨ w.heap.size ≤ k_) ∧ some k_ ≠ (v3_ : Value).ownBlock) v2_ r3 ∧ Kd.N k37 37 w' w.heap.size (fun k_ => ((cu k_ ∨ cv k_) ∨ w.heap.size ≤ k_)) v3_ r4 ∧ Below w.heap.size w w' := by
 induction k using Nat.strongRecOn with
 | _ k ih =>
 intro a0_0 a0_1 cu A0_2 c0_2 ab cv A0_3 c0_3 aa r1 r2 r3 r4 w hs0_2 hs0_3 h
 cases k with
 | zero => exact absurd h (by simp [al.f])
 | succ k =>
 simp only [al.f] at h
 have hu28 := Tryz.underlying28
 have hu37 := Tryz.underlying37
 have eG := Aside0.mk (show Kd.V Kd.string 9 w w.heap.size (fun k_ => ((cu k_ ∨ cv k_) ∨ w.heap.size ≤ k_)) (.slice A0_2 ab.length c0_2) ab from Kd.V_mono hs0_2 (fun k_ hk => .inl (.inl hk)))
 have eH := Aside0.mk (show Kd.V k28 28 w w.heap.size (fun k_ => ((cu k_ ∨ cv k_) ∨ w.heap.size ≤ k_)) (.slice A0_3 aa.length c0_3) aa from Kd.V_mono hs0_3 (fun k_ hk => .inl (.inr hk)))
 have HB := Aside0.mk (Below.refl w.heap.size w)
 have H : (al.l0 k 0 a0_0 a0_1 ab aa a0_0 a0_1 ab ([] : List (S37))) = some (r1, r2, r3, r4) := h
 clear h
 have H' := Aside0.mk H
 clear H
 go_enter Tryz.func12, Tryz.ntmps12
 go_wp2_with (first | ((with_reducible refine gate_dst (N := 1) rfl ?_); refine box_event ?hg (N := 1) ?hd (cs := #[.int .i64 a0_0, .string a0_1, .slice A0_2 ab.length c0_2, .slice A0_3 aa.length c0_3]) (t := 28) ?hr ?_; (case hd => rfl); (case hg => rfl); (case hr => exact p9z); intro aQ hg w2 hbox hb; have z_ := asi6 (Kd.V_below (Kd.V_elderB p110z aQ (Nat.le_of_eq hg.symm)) hb) (Kd.V_below (Kd.V_elderB p111z aQ (Nat.le_of_eq hg.symm)) hb) (below_step p0z hb) (hbox) ((p21z : w.heap.size ≤ aQ)) ((p21z : w.heap.size ≤ aQ)); clear eG eH HB; obtain ⟨eG, eH, HB, ax, GW178, iG⟩ := z_; clear hb hbox hg) | ((with_reducible refine gate_dst (N := 2) rfl ?_); refine box_event ?hg (N := 2) ?hd (cs := #[.int .i64 0, .string (⟨#[]⟩ : ByteArray), .slice none 0 0, .slice none 0 0]) (t := 37) ?hr ?_; (case hd => rfl); (case hg => rfl); (case hr => exact p9z); intro aA hg w3 hbox hb; have z_ := asi9 (Kd.V_below (Kd.V_elderB p110z aA (Nat.le_of_eq hg.symm)) hb) (Kd.V_below (Kd.V_elderB p111z aA (Nat.le_of_eq hg.symm)) hb) (blk_below (g := aQ) (o := .cells #[.int .i64 a0_0, .string a0_1, .slice A0_2 ab.length c0_2, .slice A0_3 aa.length c0_3] 28 (0, 0)) p11z hb) (below_step p46z hb) (hbox) ((by rw [hg]; exact (below_size p46z) : w.heap.size ≤ aA)) ((by rw [hg]; exact (below_size p46z) : w.heap.size ≤ aA)) ((p62z : aQ ≠ aA)) ((p63z : aA ≠ aQ)); clear eG eH ax HB; obtain ⟨eG, eH, ax, HB, bi, GW179, js, NB178_179, NB179_178⟩ := z_; clear hb hbox hg; have hnb4 := NB178_179.out; have hnc4 := NB179_178.out; obtain ⟨hcz5_0, hcz5_1, hcz5_2, hcz5_3, hfz5_0, hfz5_1, hfz5_2, hfz5_3⟩ := cells4 ax.out) | ((with_reducible refine gate_dst (N := 3) rfl ?_); refine box_event ?hg (N := 3) ?hd (cs := #[.int .i64 0, .string (⟨#[]⟩ : ByteArray), .slice none 0 0, .slice none 0 0]) (t := 37) ?hr ?_; (case hd => rfl); (case hg => rfl); (case hr => exact p9z); intro aw hg w6 hbox hb; have n0_ := Aside0.mk (Kd.V_below (Kd.V_elderB p110z aw (Nat.le_of_eq hg.symm)) hb); have n1_ := Aside0.mk (Kd.V_below (Kd.V_elderB p111z aw (Nat.le_of_eq hg.symm)) hb); have n2_ := Aside0.mk (blk_below (g := aQ) (o := .cells #[.int .i64 a0_0, .string a0_1, .slice A0_2 ab.length c0_2, .slice A0_3 aa.length c0_3] 28 (0, 0)) p11z hb); have n3_ := Aside0.mk (blk_below (g := aA) (o := .cells #[.int .i64 0, .string (⟨#[]⟩ : ByteArray), .slice none 0 0, .slice none 0 0] 37 (0, 0)) p18z hb); have n4_ := Aside0.mk (below_step p37z hb); have n5_ := Aside0.mk (hbox); have n6_ := Aside0.mk ((by rw [hg]; exact (below_size p37z) : w.heap.size ≤ aw)); have n7_ := Aside0.mk ((by rw [hg]; exact (below_size p37z) : w.heap.size ≤ aw)); have n8_ := Aside0.mk ((p62z : aQ ≠ aw)); have n9_ := Aside0.mk ((p63z : aw ≠ aQ)); have e8 := Aside0.mk ((by rw [hg]; exact Nat.ne_of_lt (blk_lt (g := aA) (o := .cells #[.int .i64 0, .string (⟨#[]⟩ : ByteArray), .slice none 0 0, .slice none 0 0] 37 (0, 0)) p18z) : aA ≠ aw)); have jt := Aside0.mk ((by rw [hg]; exact Nat.ne_of_gt (blk_lt (g := aA) (o := .cells #[.int .i64 0, .string (⟨#[]⟩ : ByteArray), .slice none 0 0, .slice none 0 0] 37 (0, 0)) p18z) : aw ≠ aA)); clear eG; clear eH; clear ax; clear bi; clear HB; have eG := n0_; have eH := n1_; have ax := n2_; have bi := n3_; have HB := n4_; have aD := n5_; have GW180 := n6_; have GE180 := n7_; have NB178_180 := n8_; have NB180_178 := n9_; have NB179_180 := e8; have NB180_179 := jt; clear n0_ n1_ n2_ n3_ n4_ n5_ n6_ n7_ n8_ n9_ e8 jt; clear hb hbox hg; have hnb7 := NB180_178.out; have hnc7 := NB178_180.out; have hnb8 := NB180_179.out; have hnc8 := NB179_180.out; obtain ⟨hcz9_0, hcz9_1, hcz9_2, hcz9_3, hfz9_0, hfz9_1, hfz9_2, hfz9_3⟩ := cells4 aD.out))
 go_loopg [4] k (fun kq v4 w' => ∃ (aj : Int) (cl : List (S37)) (b5 : Value), v4 = .int .i64 aj ∧ Aside0 (al.l0 kq aj a0_0 a0_1 ab aa a0_0 a0_1 ab cl = some (r1, r2, r3, r4)) ∧ Aside0 (kq ≤ k) ∧ Aside0 (Kd.V Kd.string 9 w' w.heap.size (fun k_ => ((cu k_ ∨ cv k_) ∨ w.heap.size ≤ k_) ∧ some k_ ≠ (b5 : Value).ownBlock ∧ k_ ≠ aQ ∧ k_ ≠ aA ∧ k_ ≠ aw) (.slice A0_2 ab.length c0_2) ab) ∧ Aside0 (Kd.V k28 28 w' w.heap.size (fun k_ => ((cu k_ ∨ cv k_) ∨ w.heap.size ≤ k_) ∧ some k_ ≠ (b5 : Value).ownBlock ∧ k_ ≠ aQ ∧ k_ ≠ aA ∧ k_ ≠ aw) (.slice A0_3 aa.length c0_3) aa) ∧ Aside0 (Kd.V Kd.string 9 w' w.heap.size (fun k_ => ((cu k_ ∨ cv k_) ∨ w.heap.size ≤ k_) ∧ some k_ ≠ (b5 : Value).ownBlock ∧ k_ ≠ aQ ∧ k_ ≠ aA ∧ k_ ≠ aw) (.slice A0_2 ab.length c0_2) ab) ∧ Aside0 (Kd.N k37 37 w' w.heap.size (fun k_ => ((cu k_ ∨ cv k_) ∨ w.heap.size ≤ k_) ∧ k_ ≠ aQ ∧ k_ ≠ aA ∧ k_ ≠ aw) b5 cl) ∧ Aside0 (w'.heap[aQ]? = some (.cells #[.int .i64 a0_0, .string a0_1, (.slice A0_2 ab.length c0_2), (.slice A0_3 aa.length c0_3)] 28 (0, 0))) ∧ Aside0 (w'.heap[aA]? = some (.cells #[.int .i64 0, .string (⟨#[]⟩ : ByteArray), (.slice none 0 0), (.slice none 0 0)] 37 (0, 0))) ∧ Aside0 (w'.heap[aw]? = some (.cells #[.int .i64 a0_0, .string a0_1, (.slice A0_2 ab.length c0_2), b5] 37 (0, 0))) ∧ Aside0 (Below w.heap.size w w'))
 case atStart => exact ⟨(0), (([] : List (S37))), (.slice none 0 0), p5z, H', ⟨Nat.le_refl _⟩, ⟨p61z⟩, ⟨by (with_reducible repeat (first | apply Kd.V_alloc | apply Kd.V_drewN | apply Kd.V_drew)); exact Kd.V_mono (Kd.V_far (p := ⟨aw, 3, none⟩) (Kd.V_far (p := ⟨aw, 2, none⟩) (Kd.V_far (p := ⟨aw, 1, none⟩) (Kd.V_far (p := ⟨aw, 0, none⟩) (Kd.V_mono eH.out (fun k_ hk => (⟨hk, hk.2⟩ : _ ∧ k_ ≠ aw))) (fun _ hk => hk.2) (.int .i64 a0_0)) (fun _ hk => hk.2) (.string a0_1)) (fun _ hk => hk.2) (.slice A0_2 ab.length c0_2)) (fun _ hk => hk.2) (.slice none 0 0)) (fun _ hk => ⟨hk.1.1.1.1, ⟨(by simp [Value.ownBlock]), ⟨hk.1.1.1.2, ⟨hk.1.1.2, hk.1.2⟩⟩⟩⟩)⟩, ⟨p61z⟩, ⟨p34z⟩, ⟨p52z⟩, ⟨p53z⟩, ⟨q1z aD.out⟩, ⟨p6z⟩⟩
 case round =>
  clear H'
  try clear hcz5_0
  try clear hcz5_1
  try clear hcz5_2
  try clear hcz5_3
  try clear hcz9_0
  try clear hcz9_1
  try clear hcz9_2
  try clear hcz9_3
  try clear hfz5_0
  try clear hfz5_1
  try clear hfz5_2
  try clear hfz5_3
  try clear hfz9_0
  try clear hfz9_1
  try clear hfz9_2
  try clear hfz9_3
  obtain ⟨aj, cl, b5, rfl, HA, HK1, cm, bV, aH, aK, ax, bi, aD, HB⟩ := hrel
  cases gk with
  | zero => exact absurd HA.out (by simp [al.l0])
  | succ k1 =>
   have H := HA.out
   clear HA
   simp only [al.l0] at H
   by_cases c10 : aj < (aa.length : Int)
   case neg =>
    rw [if_neg c10] at H
    have eE : decide (aj < (aa.length : Int)) = false := decide_eq_false c10
    clear c10
    simp only [Option.some.injEq, Prod.mk.injEq] at H
    obtain ⟨rfl, rfl, rfl, rfl⟩ := H
    have hnb24 := NB178_179.out
    have hnc24 := NB179_178.out
    have hnb25 := NB178_180.out
    have hnc25 := NB180_178.out
    obtain ⟨hcz26_0, hcz26_1, hcz26_2, hcz26_3, hfz26_0, hfz26_1, hfz26_2, hfz26_3⟩ := cells4 ax.out
    have hnb27 := NB180_179.out
    have hnc27 := NB179_180.out
    obtain ⟨hcz28_0, hcz28_1, hcz28_2, hcz28_3, hfz28_0, hfz28_1, hfz28_2, hfz28_3⟩ := cells4 aD.out
    obtain ⟨hcz29_0, hcz29_1, hcz29_2, hcz29_3, hfz29_0, hfz29_1, hfz29_2, hfz29_3⟩ := cells4 bi.out
    obtain ⟨Ao30, co30, eo30⟩ := Kd.N_slice aK.out
    subst eo30
    go_wp2
    refine bodyPost_ret (results_cell_row rfl _ _ aA 37 #[.int .i64 a0_0, .string a0_1, .slice A0_2 ab.length c0_2, .slice Ao30 cl.length co30] (0, 0) _ rfl (q1z bi.out) Tryz.underlying37 rfl p12z) rfl ?_
    exact ⟨_, _, p7z, by (with_reducible repeat (first | apply Kd.V_alloc | apply Kd.V_drewN | apply Kd.V_drew)); exact Kd.V_mono (Kd.V_far (p := ⟨aA, 3, none⟩) (Kd.V_far (p := ⟨aA, 2, none⟩) (Kd.V_far (p := ⟨aA, 1, none⟩) (Kd.V_far (p := ⟨aA, 0, none⟩) (Kd.V_mono aH.out (fun k_ hk => (⟨hk, hk.2.2.2.1⟩ : _ ∧ k_ ≠ aA))) (fun _ hk => hk.2) (.int .i64 a0_0)) (fun _ hk => hk.2) (.string a0_1)) (fun _ hk => hk.2) (.slice A0_2 ab.length c0_2)) (fun _ hk => hk.2) (.slice Ao30 cl.length co30)) (fun _ hk => ⟨hk.1.1, hk.1.2.1⟩), by (with_reducible repeat (first | apply Kd.N_alloc | apply Kd.N_drewN | apply Kd.N_drew)); exact Kd.N_mono (Kd.N_far (p := ⟨aA, 3, none⟩) (Kd.N_far (p := ⟨aA, 2, none⟩) (Kd.N_far (p := ⟨aA, 1, none⟩) (Kd.N_far (p := ⟨aA, 0, none⟩) (Kd.N_mono aK.out (fun k_ hk => (⟨hk, hk.2.2.1⟩ : _ ∧ k_ ≠ aA))) (fun _ hk => hk.2) (.int .i64 a0_0)) (fun _ hk => hk.2) (.string a0_1)) (fun _ hk => hk.2) (.slice A0_2 ab.length c0_2)) (fun _ hk => hk.2) (.slice Ao30 cl.length co30)) (fun _ hk => hk.1.1), p6z⟩
   rw [if_pos c10] at H
   have eE : decide (aj < (aa.length : Int)) = true := decide_eq_true c10
   clear c10
   by_cases c11 : 0 ≤ aj
   case neg =>
    rw [if_neg c11] at H
    exact absurd H (by simp)
   rw [if_pos c11] at H
   have iH : decide (0 ≤ aj) = true := decide_eq_true c11
   clear c11
   replace H := Option.bind_eq_some_iff.mp H
   obtain ⟨⟨j9, ja, jb, dF⟩, A120, H⟩ := H
   replace H : (if cl.length < 1954687338268 then (al.l0 k1 (wrap64 (aj + 1)) a0_0 a0_1 ab aa a0_0 a0_1 ab (cl ++ [(⟨j9, ja, jb, dF⟩ : S37)])) else (none)) = some (r1, r2, r3, r4) := H
   have A12 := Aside0.mk A120
   clear A120
   by_cases c13 : cl.length < 1954687338268
   case neg =>
    rw [if_neg c13] at H
    exact absurd H (by simp)
   rw [if_pos c13] at H
   have LMc13 := Aside0.mk c13
   clear c13
   obtain ⟨y190, hy190⟩ : ∃ y_ : List (S37), y_ = (cl ++ [(⟨j9, ja, jb, dF⟩ : S37)]) := ⟨_, rfl⟩
   replace H : (al.l0 k1 (wrap64 (aj + 1)) a0_0 a0_1 ab aa a0_0 a0_1 ab y190) = some (r1, r2, r3, r4) := by first | (rw [hy190]; with_reducible exact H) | (have H2_ := (Option.bind_some _ _).symm.trans H; rw [hy190]; with_reducible exact H2_) | (have H2_ := (Option.bind_some _ _).symm.trans H; with_reducible exact H2_) | with_reducible exact H | (rw [hy190]; exact H) | exact H
   have Ny190 := Aside0.mk hy190
   clear hy190
   have H' := Aside0.mk H
   clear H
   have hnb14 := NB178_179.out
   have hnc14 := NB179_178.out
   have hnb15 := NB178_180.out
   have hnc15 := NB180_178.out
   obtain ⟨hcz16_0, hcz16_1, hcz16_2, hcz16_3, hfz16_0, hfz16_1, hfz16_2, hfz16_3⟩ := cells4 ax.out
   try go_wp2
   have n0_ := Aside0.mk (Kd.V_drew cm.out)
   have n1_ := Aside0.mk (Kd.V_drew bV.out)
   have n2_ := Aside0.mk (Kd.V_drew aH.out)
   have n3_ := Aside0.mk (Kd.N_drew aK.out)
   have n4_ := Aside0.mk (blk_drew ax.out)
   have n5_ := Aside0.mk (blk_drew bi.out)
   have n6_ := Aside0.mk (blk_drew aD.out)
   have n7_ := Aside0.mk (below_drew1 HB.out)
   clear cm
   clear bV
   clear aH
   clear aK
   clear ax
   clear bi
   clear aD
   clear HB
   have cm := n0_
   have bV := n1_
   have aH := n2_
   have aK := n3_
   have ax := n4_
   have bi := n5_
   have aD := n6_
   have HB := n7_
   clear n0_ n1_ n2_ n3_ n4_ n5_ n6_ n7_
   have p181 : 0 ≤ (aj : Int) := of_decide_eq_true p4z
   have q181 : aj < (aa.length : Int) := of_decide_eq_true p4z
   obtain ⟨ad181, A181_2, c181_2, A181_3, c181_3, e181, hx181_0, hx181_1, hx181_2, hx181_3, hl181_2, hi181_2, hl181_3, hi181_3⟩ := at_T28 (Kd.V_reads' bV.out).2.2 aj p181 q181
   cases e181
   obtain ⟨ce181, hce181, hMe181, hcc181⟩ := Kd.V_get bV.out z28 aj p181 (by first | exact q181 | exact of_decide_eq_true p4z | (have e_ := (Kd.V_reads' bV.out).1; omega))
   obtain ⟨ua181_2, uc181_2, ua181_3, uc181_3, rfl, ul181_2, ge181_2, ul181_3, ge181_3⟩ := k28_openF hMe181
   have hv181_2 := hcc181 2 _ rfl
   rw [add_field _ _ 2 (by omega)] at hv181_2
   replace hv181_2 := Option.some.inj (hv181_2.symm.trans hx181_2)
   injection hv181_2 with hva_ hvn_ hvc_
   rw [hva_] at ge181_2
   rw [hvc_] at ul181_2
   have dt := Aside0.mk (show Kd.V Kd.string 9 _ w.heap.size _ _ ((rd_T28 aa aj).f2) from Kd.V_mk ul181_2 ge181_2)
   clear hva_ hvn_ hvc_ ge181_2 ul181_2
   have hv181_3 := hcc181 3 _ rfl
   rw [add_field _ _ 3 (by omega)] at hv181_3
   replace hv181_3 := Option.some.inj (hv181_3.symm.trans hx181_3)
   injection hv181_3 with hva_ hvn_ hvc_
   rw [hva_] at ge181_3
   rw [hvc_] at ul181_3
   have du := Aside0.mk (show Kd.V k28 28 _ w.heap.size _ _ ((rd_T28 aa aj).f3) from Kd.V_mk ul181_3 ge181_3)
   clear hva_ hvn_ hvc_ ge181_3 ul181_3
   clear hcc181 hce181
   have e9 := Aside0.mk hi181_2
   have HC181_2 := Aside0.mk hl181_2
   clear hi181_2 hl181_2
   have ea := Aside0.mk hi181_3
   have HC181_3 := Aside0.mk hl181_3
   clear hi181_3 hl181_3
   replace p181 := eq_true p181
   replace q181 := eq_true q181
   refine start_ (n := 12) (S := fun w' => w'.cell? ⟨aw, 0, none⟩ = some (.int .i64 a0_0) ∧ w'.cell? ⟨aw, 1, none⟩ = some (.string a0_1) ∧ w'.cell? ⟨aw, 2, none⟩ = some (.slice A0_2 ab.length c0_2) ∧ w'.cell? ⟨aw, 3, none⟩ = some (b5) ∧ w'.cell? ⟨aQ, 0, none⟩ = some (.int .i64 a0_0) ∧ w'.cell? ⟨aQ, 1, none⟩ = some (.string a0_1) ∧ w'.cell? ⟨aQ, 2, none⟩ = some (.slice A0_2 ab.length c0_2) ∧ w'.cell? ⟨aQ, 3, none⟩ = some (.slice (some ad181) aa.length c0_3) ∧ w'.cell? (ad181.add ((aj).toNat * 4)) = some (.int .i64 ((rd_T28 aa aj).f0)) ∧ w'.cell? ⟨(ad181.add ((aj).toNat * 4)).block, (ad181.add ((aj).toNat * 4)).off + 1, none⟩ = some (.string ((rd_T28 aa aj).f1)) ∧ w'.cell? ⟨(ad181.add ((aj).toNat * 4)).block, (ad181.add ((aj).toNat * 4)).off + 2, none⟩ = some (.slice A181_2 ((rd_T28 aa aj).f2).length c181_2) ∧ w'.cell? ⟨(ad181.add ((aj).toNat * 4)).block, (ad181.add ((aj).toNat * 4)).off + 3, none⟩ = some (.slice A181_3 ((rd_T28 aa aj).f3).length c181_3)) (ds := [9, 11]) (tf 0 12) p12z rfl rfl ⟨(blk_cell aD.out 0).trans rfl, (blk_cell aD.out 1).trans rfl, (blk_cell aD.out 2).trans rfl, (blk_cell aD.out 3).trans rfl, (blk_cell ax.out 0).trans rfl, (blk_cell ax.out 1).trans rfl, (blk_cell ax.out 2).trans rfl, (blk_cell ax.out 3).trans rfl, hx181_0, hx181_1, hx181_2, hx181_3⟩ (fun hHeld => ?_); refine with_tabW al.tab5 al.bits5 (fun HT_ HW_ => ?_)
   generalize wr.drew = w17 at cm bV aH aK ax bi aD HB dt du e9 ea hx181_0 hx181_1 hx181_2 hx181_3 hHeld ⊢
   refine pzz 0 (some 19) (tf 1 11) ?_
   refine pzz 2 (some 21) (tfs true [1, 1, 1, 9]) ?_
   refine pzz 4 (some 23) (tfs true [1, 1, 1, 1, 1, 7]) ?_
   refine tzz 1 (some 20) (tfs true [3, 1, 1, 7]) ?_
   refine tzz 3 (some 22) (tf 5 7) ?_
   refine pzz 5 (some 24) (tf 6 6) ?_
   refine tzz 6 (some 25) (tf 7 5) ?_
   refine ozz 7 (some 26) (tf 8 4) #[.agg #[.int .i64 ((rd_T28 aa aj).f0), .string ((rd_T28 aa aj).f1), .slice A181_2 ((rd_T28 aa aj).f2).length c181_2, .slice A181_3 ((rd_T28 aa aj).f3).length c181_3]] Tryz.func12 (fun K hK => ?_)
   with_reducible refine (ih k1 p96z ((rd_T28 aa aj).f0) ((rd_T28 aa aj).f1) (fun k_ => (((cu k_ ∨ cv k_) ∨ w.heap.size ≤ k_) ∧ (some k_ ≠ (b5 : Value).ownBlock ∧ (k_ ≠ aQ ∧ (k_ ≠ aA ∧ k_ ≠ aw))))) _ _ ((rd_T28 aa aj).f2) (fun k_ => (((cu k_ ∨ cv k_) ∨ w.heap.size ≤ k_) ∧ (some k_ ≠ (b5 : Value).ownBlock ∧ (k_ ≠ aQ ∧ (k_ ≠ aA ∧ k_ ≠ aw))))) _ _ ((rd_T28 aa aj).f3) j9 ja jb dF _ ?side1 ?side2 A12.out).mono ?_
   (case side1 => exact dt.out)
   (case side2 => exact du.out)
   rintro e w18 ⟨v185, v188, rfl, ho0, ho1, hb⟩
   have HS8_ := (hb.cell (World.block_lt_of_cell? _ _ (hHeld.2.2.2.2.2.2.2.2.1))).trans (hHeld.2.2.2.2.2.2.2.2.1)
   have HS9_ := (hb.cell (World.block_lt_of_cell? _ _ (hHeld.2.2.2.2.2.2.2.2.2.1))).trans (hHeld.2.2.2.2.2.2.2.2.2.1)
   have HS10_ := (hb.cell (World.block_lt_of_cell? _ _ (hHeld.2.2.2.2.2.2.2.2.2.2.1))).trans (hHeld.2.2.2.2.2.2.2.2.2.2.1)
   have HS11_ := (hb.cell (World.block_lt_of_cell? _ _ (hHeld.2.2.2.2.2.2.2.2.2.2.2))).trans (hHeld.2.2.2.2.2.2.2.2.2.2.2)
   refine ⟨_, rfl, ?_⟩
   have n0_ := Aside0.mk (Kd.V_elder' (q3z cm.out) (Kd.N_base ho1) hb)
   have n1_ := Aside0.mk (Kd.V_elder' (q3z bV.out) (Kd.N_base ho1) hb)
   have n2_ := Aside0.mk (Kd.V_elder' (q3z aH.out) (Kd.N_base ho1) hb)
   have n3_ := Aside0.mk (Kd.N_elder' p105z (Kd.N_base ho1) hb)
   have n4_ := Aside0.mk (Kd.V_elder' (q3z dt.out) (Kd.N_base ho1) hb)
   have n5_ := Aside0.mk (Kd.V_elder' (q3z du.out) (Kd.N_base ho1) hb)
   have n6_ := Aside0.mk (Kd.V_lower (Kd.V_mono (ok' := fun k_ => ((cu k_ ∨ cv k_) ∨ w.heap.size ≤ k_) ∧ some k_ ≠ (v188 : Value).ownBlock ∧ some k_ ≠ (b5 : Value).ownBlock ∧ k_ ≠ aQ ∧ k_ ≠ aA ∧ k_ ≠ aw) ho0 (fun k_ hk_ => ⟨Or.elim hk_.1 (fun hs_ => Or.elim hs_ (fun hs_ => hs_.1) (fun hs_ => hs_.1)) (fun hn_ => (.inr (Nat.le_trans (below_size p6z) hn_))), hk_.2, Or.elim hk_.1 (fun hs_ => Or.elim hs_ (fun hs_ => hs_.2.1) (fun hs_ => hs_.2.1)) (fun hn_ => (Kd.fresh' (Kd.N_lt p105z) k_ hn_)), Or.elim hk_.1 (fun hs_ => Or.elim hs_ (fun hs_ => hs_.2.2.1) (fun hs_ => hs_.2.2.1)) (fun hn_ => (Kd.freshB (g := aQ) (o := .cells #[.int .i64 a0_0, .string a0_1, .slice A0_2 ab.length c0_2, .slice (some ad181) aa.length c0_3] 28 (0, 0)) p11z k_ hn_)), Or.elim hk_.1 (fun hs_ => Or.elim hs_ (fun hs_ => hs_.2.2.2.1) (fun hs_ => hs_.2.2.2.1)) (fun hn_ => (Kd.freshB (g := aA) (o := .cells #[.int .i64 0, .string (⟨#[]⟩ : ByteArray), .slice none 0 0, .slice none 0 0] 37 (0, 0)) p18z k_ hn_)), Or.elim hk_.1 (fun hs_ => Or.elim hs_ (fun hs_ => hs_.2.2.2.2) (fun hs_ => hs_.2.2.2.2)) (fun hn_ => (Kd.freshB (g := aw) (o := .cells #[.int .i64 a0_0, .string a0_1, .slice A0_2 ab.length c0_2, b5] 37 (0, 0)) p28z k_ hn_))⟩)) (below_size p6z))
   have n7_ := Aside0.mk (Kd.N_lower (Kd.N_mono (ok' := fun k_ => ((cu k_ ∨ cv k_) ∨ w.heap.size ≤ k_) ∧ some k_ ≠ (b5 : Value).ownBlock ∧ k_ ≠ aQ ∧ k_ ≠ aA ∧ k_ ≠ aw) ho1 (fun k_ hk_ => ⟨Or.elim hk_ (fun hs_ => Or.elim hs_ (fun hs_ => hs_.1) (fun hs_ => hs_.1)) (fun hn_ => (.inr (Nat.le_trans (below_size p6z) hn_))), Or.elim hk_ (fun hs_ => Or.elim hs_ (fun hs_ => hs_.2.1) (fun hs_ => hs_.2.1)) (fun hn_ => (Kd.fresh' (Kd.N_lt p105z) k_ hn_)), Or.elim hk_ (fun hs_ => Or.elim hs_ (fun hs_ => hs_.2.2.1) (fun hs_ => hs_.2.2.1)) (fun hn_ => (Kd.freshB (g := aQ) (o := .cells #[.int .i64 a0_0, .string a0_1, .slice A0_2 ab.length c0_2, .slice (some ad181) aa.length c0_3] 28 (0, 0)) p11z k_ hn_)), Or.elim hk_ (fun hs_ => Or.elim hs_ (fun hs_ => hs_.2.2.2.1) (fun hs_ => hs_.2.2.2.1)) (fun hn_ => (Kd.freshB (g := aA) (o := .cells #[.int .i64 0, .string (⟨#[]⟩ : ByteArray), .slice none 0 0, .slice none 0 0] 37 (0, 0)) p18z k_ hn_)), Or.elim hk_ (fun hs_ => Or.elim hs_ (fun hs_ => hs_.2.2.2.2) (fun hs_ => hs_.2.2.2.2)) (fun hn_ => (Kd.freshB (g := aw) (o := .cells #[.int .i64 a0_0, .string a0_1, .slice A0_2 ab.length c0_2, b5] 37 (0, 0)) p28z k_ hn_))⟩)) (below_size p6z))
   have n8_ := Aside0.mk (blk_below (g := aQ) (o := .cells #[.int .i64 a0_0, .string a0_1, .slice A0_2 ab.length c0_2, .slice (some ad181) aa.length c0_3] 28 (0, 0)) p11z hb)
   have n9_ := Aside0.mk (blk_below (g := aA) (o := .cells #[.int .i64 0, .string (⟨#[]⟩ : ByteArray), .slice none 0 0, .slice none 0 0] 37 (0, 0)) p18z hb)
   have e8 := Aside0.mk (blk_below (g := aw) (o := .cells #[.int .i64 a0_0, .string a0_1, .slice A0_2 ab.length c0_2, b5] 37 (0, 0)) p28z hb)
   have jt := Aside0.mk (Kd.C_below (by repeat (first | (with_reducible exact e9.out) | (with_reducible refine Kd.C_alloc ?_ _) | (with_reducible refine Kd.C_drewN ?_ _) | (with_reducible refine Kd.C_drew ?_) | exact e9.out)) hb)
   have n12_ := Aside0.mk (Kd.C_below (by repeat (first | (with_reducible exact ea.out) | (with_reducible refine Kd.C_alloc ?_ _) | (with_reducible refine Kd.C_drewN ?_ _) | (with_reducible refine Kd.C_drew ?_) | exact ea.out)) hb)
   have n13_ := Aside0.mk (below_step p6z hb)
   clear cm
   clear bV
   clear aH
   clear aK
   clear dt
   clear du
   clear ax
   clear bi
   clear aD
   clear e9
   clear ea
   clear HB
   have cm := n0_
   have bV := n1_
   have aH := n2_
   have aK := n3_
   have dt := n4_
   have du := n5_
   have fy := n6_
   have iI := n7_
   have ax := n8_
   have bi := n9_
   have aD := e8
   have e9 := jt
   have ea := n12_
   have HB := n13_
   clear n0_ n1_ n2_ n3_ n4_ n5_ n6_ n7_ n8_ n9_ e8 jt n12_ n13_
   (try clear hb)
   (try clear hb2)
   (try clear hk)
   (try clear hi)
   (try clear ho0)
   (try clear ho1)
   obtain ⟨Ao20, co20, eo20⟩ := Kd.V_slice fy.out
   (first | subst eo20 | (injection eo20 with f1_ f2_ f3_; have f4_ := f1_.symm; have f5_ := f3_.symm; clear f1_ f2_ f3_; subst f4_; subst f5_))
   obtain ⟨ey, co21, eo21⟩ := Kd.N_slice iI.out
   (first | subst eo21 | (injection eo21 with f1_ f2_ f3_; have f4_ := f1_.symm; have f5_ := f3_.symm; clear f1_ f2_ f3_; subst f4_; subst f5_))
   refine hK.out _ _ ⟨(blk_cell aD.out 0).trans rfl, (blk_cell aD.out 1).trans rfl, (blk_cell aD.out 2).trans rfl, (blk_cell aD.out 3).trans rfl, (blk_cell ax.out 0).trans rfl, (blk_cell ax.out 1).trans rfl, (blk_cell ax.out 2).trans rfl, (blk_cell ax.out 3).trans rfl, HS8_, HS9_, HS10_, HS11_⟩ (fun hHeld => ?_)
   clear hK K
   refine nzz (some 26) ?_
   refine one_ (i := 8) (N := some 27) (tf 9 3) rfl rfl (one_of HT_.out p12z) (by decide) (fun K hK => ?_)
   refine value_ (w1 := ?_) (v := ?_) (by rfl) rfl ?_ ?_
   rotate_left 2
   ·go_simp
    constructor
    ·rfl
    ·rfl
   refine hK.out _ _ ⟨(blk_cell (blk_alloc aD.out _) 0).trans rfl, (blk_cell (blk_alloc aD.out _) 1).trans rfl, (blk_cell (blk_alloc aD.out _) 2).trans rfl, (blk_cell (blk_alloc aD.out _) 3).trans rfl, (blk_cell (blk_alloc ax.out _) 0).trans rfl, (blk_cell (blk_alloc ax.out _) 1).trans rfl, (blk_cell (blk_alloc ax.out _) 2).trans rfl, (blk_cell (blk_alloc ax.out _) 3).trans rfl, (World.cell?_alloc_lt _ _ _ (World.block_lt_of_cell? _ _ (hHeld.2.2.2.2.2.2.2.2.1))).trans (hHeld.2.2.2.2.2.2.2.2.1), (World.cell?_alloc_lt _ _ _ (World.block_lt_of_cell? _ _ (hHeld.2.2.2.2.2.2.2.2.2.1))).trans (hHeld.2.2.2.2.2.2.2.2.2.1), (World.cell?_alloc_lt _ _ _ (World.block_lt_of_cell? _ _ (hHeld.2.2.2.2.2.2.2.2.2.2.1))).trans (hHeld.2.2.2.2.2.2.2.2.2.2.1), (World.cell?_alloc_lt _ _ _ (World.block_lt_of_cell? _ _ (hHeld.2.2.2.2.2.2.2.2.2.2.2))).trans (hHeld.2.2.2.2.2.2.2.2.2.2.2)⟩ (fun hHeld => ?_)
   clear hK K
   refine nzz (some 27) ?_
   refine last_ (i := 9) (N := some 28) (tf 10 2) rfl rfl (one_of HT_.out p12z) (by decide) (fun K hK => ?_)
   refine Kd.N_append_step k37 (w0 := w) w.heap.size (by rfl) (.tmp 20) (.tmp 27) 35 37 (.agg #[(.int .i64 0), (.string ⟨#[]⟩), (.slice none 0 0), (.slice none 0 0)]) 72 rfl Tryz.underlying35 info37 rfl (by decide) (by omega) b5 cl (⟨j9, ja, jb, dF⟩ : S37) [.int .i64 j9, .string ja, .slice Ao20 jb.length co20, .slice ey dF.length co21] (fun k_ => ((cu k_ ∨ cv k_) ∨ w.heap.size ≤ k_) ∧ k_ ≠ aQ ∧ k_ ≠ aA ∧ k_ ≠ aw) (fun k_ => ((fun k_ => ((cu k_ ∨ cv k_) ∨ w.heap.size ≤ k_) ∧ k_ ≠ aQ ∧ k_ ≠ aA ∧ k_ ≠ aw)) k_ ∧ some k_ ≠ (b5 : Value).ownBlock) rfl rfl ?aP (fun _ hk => hk) ?aF ?aO ?aB ?aS ?aL ?_
   (case aP => exact (k37_mkF _ _ (⟨j9, ja, jb, dF⟩ : S37) (Kd.V_reads' (Kd.V_mono (ok' := (fun k_ => ((fun k_ => ((cu k_ ∨ cv k_) ∨ w.heap.size ≤ k_) ∧ k_ ≠ aQ ∧ k_ ≠ aA ∧ k_ ≠ aw)) k_ ∧ some k_ ≠ (b5 : Value).ownBlock)) (fy.out) (fun k_ hk => ⟨⟨hk.1, ⟨hk.2.2.2.1, ⟨hk.2.2.2.2.1, hk.2.2.2.2.2⟩⟩⟩, hk.2.2.1⟩))).2.1 (Kd.V_F (Kd.V_mono (ok' := (fun k_ => ((fun k_ => ((cu k_ ∨ cv k_) ∨ w.heap.size ≤ k_) ∧ k_ ≠ aQ ∧ k_ ≠ aA ∧ k_ ≠ aw)) k_ ∧ some k_ ≠ (b5 : Value).ownBlock)) (fy.out) (fun k_ hk => ⟨⟨hk.1, ⟨hk.2.2.2.1, ⟨hk.2.2.2.2.1, hk.2.2.2.2.2⟩⟩⟩, hk.2.2.1⟩))) (Kd.N_reads' (Kd.N_mono (ok' := (fun k_ => ((fun k_ => ((cu k_ ∨ cv k_) ∨ w.heap.size ≤ k_) ∧ k_ ≠ aQ ∧ k_ ≠ aA ∧ k_ ≠ aw)) k_ ∧ some k_ ≠ (b5 : Value).ownBlock)) (iI.out) (fun k_ hk => ⟨⟨hk.1, ⟨hk.2.2.1, ⟨hk.2.2.2.1, hk.2.2.2.2⟩⟩⟩, hk.2.1⟩))).2.1 (Kd.N_F (Kd.N_mono (ok' := (fun k_ => ((fun k_ => ((cu k_ ∨ cv k_) ∨ w.heap.size ≤ k_) ∧ k_ ≠ aQ ∧ k_ ≠ aA ∧ k_ ≠ aw)) k_ ∧ some k_ ≠ (b5 : Value).ownBlock)) (iI.out) (fun k_ hk => ⟨⟨hk.1, ⟨hk.2.2.1, ⟨hk.2.2.2.1, hk.2.2.2.2⟩⟩⟩, hk.2.1⟩)))))
   (case aB => exact p6z)
   (case aF => exact (fun k_ hk => ⟨(.inr (Nat.le_trans (below_size p6z) hk)), Kd.freshB (g := aQ) (o := .cells #[.int .i64 a0_0, .string a0_1, .slice A0_2 ab.length c0_2, .slice (some ad181) aa.length c0_3] 28 (0, 0)) p11z k_ hk, Kd.freshB (g := aA) (o := .cells #[.int .i64 0, .string (⟨#[]⟩ : ByteArray), .slice none 0 0, .slice none 0 0] 37 (0, 0)) p18z k_ hk, Kd.freshB (g := aw) (o := .cells #[.int .i64 a0_0, .string a0_1, .slice A0_2 ab.length c0_2, b5] 37 (0, 0)) p28z k_ hk⟩))
   (case aO => exact (by (with_reducible repeat (first | apply Kd.N_alloc | apply Kd.N_drewN | apply Kd.N_drew)); exact Kd.N_mono aK.out (fun _ hk => ⟨hk.1.1, ⟨hk.1.2.1, ⟨hk.1.2.2.1, hk.1.2.2.2⟩⟩⟩)))
   (case aS => exact (below_size p6z))
   (case aL => have := LMc13.out; omega)
   intro v191 w19 ho hb hg hat
   rw [← Ny190.out] at ho
   have n0_ := Aside0.mk (Kd.V_afterv (ok := (fun k_ => ((cu k_ ∨ cv k_) ∨ w.heap.size ≤ k_) ∧ some k_ ≠ (.slice ey dF.length co21 : Value).ownBlock ∧ k_ ≠ aQ ∧ k_ ≠ aA ∧ k_ ≠ aw)) (by (with_reducible repeat (first | apply Kd.V_alloc | apply Kd.V_drewN | apply Kd.V_drew)); exact Kd.V_mono cm.out (fun _ hk => ⟨⟨hk.1.1, ⟨hk.2, ⟨hk.1.2.2.1, ⟨hk.1.2.2.2.1, hk.1.2.2.2.2⟩⟩⟩⟩, hk.1.2.1⟩)) hg hat)
   have n1_ := Aside0.mk (Kd.V_afterv (ok := (fun k_ => ((cu k_ ∨ cv k_) ∨ w.heap.size ≤ k_) ∧ some k_ ≠ (.slice ey dF.length co21 : Value).ownBlock ∧ k_ ≠ aQ ∧ k_ ≠ aA ∧ k_ ≠ aw)) (by (with_reducible repeat (first | apply Kd.V_alloc | apply Kd.V_drewN | apply Kd.V_drew)); exact Kd.V_mono bV.out (fun _ hk => ⟨⟨hk.1.1, ⟨hk.2, ⟨hk.1.2.2.1, ⟨hk.1.2.2.2.1, hk.1.2.2.2.2⟩⟩⟩⟩, hk.1.2.1⟩)) hg hat)
   have n2_ := Aside0.mk (Kd.V_afterv (ok := (fun k_ => ((cu k_ ∨ cv k_) ∨ w.heap.size ≤ k_) ∧ some k_ ≠ (.slice ey dF.length co21 : Value).ownBlock ∧ k_ ≠ aQ ∧ k_ ≠ aA ∧ k_ ≠ aw)) (by (with_reducible repeat (first | apply Kd.V_alloc | apply Kd.V_drewN | apply Kd.V_drew)); exact Kd.V_mono aH.out (fun _ hk => ⟨⟨hk.1.1, ⟨hk.2, ⟨hk.1.2.2.1, ⟨hk.1.2.2.2.1, hk.1.2.2.2.2⟩⟩⟩⟩, hk.1.2.1⟩)) hg hat)
   have n3_ := Aside0.mk (blk_grown (g := aQ) (o := .cells #[.int .i64 a0_0, .string a0_1, .slice A0_2 ab.length c0_2, .slice (some ad181) aa.length c0_3] 28 (0, 0)) p11z hg (Kd.N_ne aK.out ax.out (by decide)))
   have n4_ := Aside0.mk (blk_grown (g := aA) (o := .cells #[.int .i64 0, .string (⟨#[]⟩ : ByteArray), .slice none 0 0, .slice none 0 0] 37 (0, 0)) p18z hg (Kd.N_away aK.out (fun _ hk => hk.1.2.2.1)))
   have n5_ := Aside0.mk (blk_grown (g := aw) (o := .cells #[.int .i64 a0_0, .string a0_1, .slice A0_2 ab.length c0_2, b5] 37 (0, 0)) p28z hg (Kd.N_away aK.out (fun _ hk => hk.1.2.2.2)))
   have n6_ := Aside0.mk (Kd.V_afterv (ok := (fun k_ => ((cu k_ ∨ cv k_) ∨ w.heap.size ≤ k_) ∧ some k_ ≠ (.slice ey dF.length co21 : Value).ownBlock ∧ k_ ≠ aQ ∧ k_ ≠ aA ∧ k_ ≠ aw)) (by (with_reducible repeat (first | apply Kd.V_alloc | apply Kd.V_drewN | apply Kd.V_drew)); exact Kd.V_mono dt.out (fun _ hk => ⟨⟨hk.1.1, ⟨hk.2, ⟨hk.1.2.2.1, ⟨hk.1.2.2.2.1, hk.1.2.2.2.2⟩⟩⟩⟩, hk.1.2.1⟩)) hg hat)
   have n7_ := Aside0.mk (Kd.V_afterv (ok := (fun k_ => ((cu k_ ∨ cv k_) ∨ w.heap.size ≤ k_) ∧ some k_ ≠ (.slice ey dF.length co21 : Value).ownBlock ∧ k_ ≠ aQ ∧ k_ ≠ aA ∧ k_ ≠ aw)) (by (with_reducible repeat (first | apply Kd.V_alloc | apply Kd.V_drewN | apply Kd.V_drew)); exact Kd.V_mono du.out (fun _ hk => ⟨⟨hk.1.1, ⟨hk.2, ⟨hk.1.2.2.1, ⟨hk.1.2.2.2.1, hk.1.2.2.2.2⟩⟩⟩⟩, hk.1.2.1⟩)) hg hat)
   have n8_ := Aside0.mk (Kd.V_afterv (ok := (fun k_ => ((cu k_ ∨ cv k_) ∨ w.heap.size ≤ k_) ∧ some k_ ≠ (.slice ey dF.length co21 : Value).ownBlock ∧ k_ ≠ aQ ∧ k_ ≠ aA ∧ k_ ≠ aw)) (by (with_reducible repeat (first | apply Kd.V_alloc | apply Kd.V_drewN | apply Kd.V_drew)); exact Kd.V_mono fy.out (fun _ hk => ⟨⟨hk.1, ⟨hk.2.1, ⟨hk.2.2.2.1, ⟨hk.2.2.2.2.1, hk.2.2.2.2.2⟩⟩⟩⟩, hk.2.2.1⟩)) hg hat)
   have n9_ := Aside0.mk (hb)
   have e8 := Aside0.mk (ho)
   clear cm
   clear bV
   clear aH
   clear ax
   clear bi
   clear aD
   clear dt
   clear du
   clear fy
   clear HB
   clear aK
   clear iI
   have cm := n0_
   have bV := n1_
   have aH := n2_
   have ax := n3_
   have bi := n4_
   have aD := n5_
   have dt := n6_
   have du := n7_
   have fy := n8_
   have HB := n9_
   have HO192 := e8
   clear n0_ n1_ n2_ n3_ n4_ n5_ n6_ n7_ n8_ n9_ e8
   clear ho hb hg hat
   obtain ⟨ju, co22, eo22⟩ := Kd.N_slice HO192.out
   (first | subst eo22 | (injection eo22 with f1_ f2_ f3_; have f4_ := f1_.symm; have f5_ := f3_.symm; clear f1_ f2_ f3_; subst f4_; subst f5_))
   refine hK.out _ _ ?_
   clear hK K
   refine nzz (some 28) ?_
   refine pzz 10 (some 29) (tf 11 1) ?_
   refine last_ (i := 11) (N := none) (tf 12 0) rfl rfl (one_of HT_.out p12z) (by decide) (fun K hK => ?_)
   have hs23 : w19.cell? ⟨aw, 3, none⟩ = some (b5) := (blk_cell aD.out 3).trans rfl
   have hfs23 := blk_frozen aD.out 3
   have hns23_0 := NB178_180.out
   have hns23_1 := NB179_180.out
   have hms23_0 := NB180_178.out
   have hms23_1 := NB180_179.out
   refine skip_ (w1 := ?_) (by rfl) rfl ?_ ?_
   rotate_left
   ·go_simp
    rfl
   refine hK.out _ _ ?_
   clear hK K
   refine done_ (done_of HT_.out p12z) ?_
   try go_wp2
   go_roundg k1
   case measure => have := HK1.out; omega
   case rel => exact ⟨(wrap64 (aj + 1)), (y190), (.slice ju y190.length co22), p5z, H', ⟨p96z⟩, ⟨by (with_reducible repeat (first | apply Kd.V_alloc | apply Kd.V_drewN | apply Kd.V_drew)); exact Kd.V_mono (Kd.V_far (p := ⟨aw, 3, none⟩) (Kd.V_mono cm.out (fun k_ hk => (⟨hk, hk.1.2.2.2.2⟩ : _ ∧ k_ ≠ aw))) (fun _ hk => hk.2) (.slice ju y190.length co22)) (fun _ hk => ⟨hk.1.1.1, ⟨hk.1.2, ⟨hk.1.1.2.2.1, ⟨hk.1.1.2.2.2.1, hk.1.1.2.2.2.2⟩⟩⟩⟩)⟩, ⟨by (with_reducible repeat (first | apply Kd.V_alloc | apply Kd.V_drewN | apply Kd.V_drew)); exact Kd.V_mono (Kd.V_far (p := ⟨aw, 3, none⟩) (Kd.V_mono bV.out (fun k_ hk => (⟨hk, hk.1.2.2.2.2⟩ : _ ∧ k_ ≠ aw))) (fun _ hk => hk.2) (.slice ju y190.length co22)) (fun _ hk => ⟨hk.1.1.1, ⟨hk.1.2, ⟨hk.1.1.2.2.1, ⟨hk.1.1.2.2.2.1, hk.1.1.2.2.2.2⟩⟩⟩⟩)⟩, ⟨by (with_reducible repeat (first | apply Kd.V_alloc | apply Kd.V_drewN | apply Kd.V_drew)); exact Kd.V_mono (Kd.V_far (p := ⟨aw, 3, none⟩) (Kd.V_mono aH.out (fun k_ hk => (⟨hk, hk.1.2.2.2.2⟩ : _ ∧ k_ ≠ aw))) (fun _ hk => hk.2) (.slice ju y190.length co22)) (fun _ hk => ⟨hk.1.1.1, ⟨hk.1.2, ⟨hk.1.1.2.2.1, ⟨hk.1.1.2.2.2.1, hk.1.1.2.2.2.2⟩⟩⟩⟩)⟩, ⟨by (with_reducible repeat (first | apply Kd.N_alloc | apply Kd.N_drewN | apply Kd.N_drew)); exact Kd.N_mono (Kd.N_far (p := ⟨aw, 3, none⟩) (Kd.N_mono HO192.out (fun k_ hk => (⟨hk, hk.2.2.2⟩ : _ ∧ k_ ≠ aw))) (fun _ hk => hk.2) (.slice ju y190.length co22)) (fun _ hk => ⟨hk.1.1, ⟨hk.1.2.1, ⟨hk.1.2.2.1, hk.1.2.2.2⟩⟩⟩)⟩, ⟨p64z⟩, ⟨p65z⟩, ⟨by (with_reducible repeat (first | refine blk_drewN ?_ _ | refine blk_drew ?_ | refine blk_alloc ?_ _)); refine blk_put (cs := #[.int .i64 a0_0, .string a0_1, .slice A0_2 ab.length c0_2, b5]) ?_ 3 _ rfl; (with_reducible repeat (first | refine blk_drewN ?_ _ | refine blk_drew ?_ | refine blk_alloc ?_ _)); exact aD.out⟩, ⟨p6z⟩⟩
end Go.Proofs.YtodnggilomanbaaGreatDoor.PAll
