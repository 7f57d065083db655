-- Written by this repo's program wip/tools/pr.py (over the kit's print) out of the translation. Not trusted: Lean checks it.
import Derived.Test.YtodnggilomanbaaGreatDoorAp
import Derived.Test.YtodnggilomanbaaGreatDoorHandStep
import Derived.Test.YtodnggilomanbaaGreatDoorGTz
set_option maxHeartbeats 8000000
set_option maxRecDepth 100000
namespace Go.Proofs.YtodnggilomanbaaGreatDoor.PAll
open Go.RowKit Go.Proofs.YtodnggilomanbaaGreatDoorW.PrintWords Go.Proofs.YtodnggilomanbaaGreatDoorW.PrintLast Go.Proofs.YtodnggilomanbaaGreatDoorW.PrintMore
attribute [local go_sem] max2_int min2_int max_two min_two max_three min_three max_four min_four   -- for this text's walks alone
set_option linter.unusedVariables false
set_option linter.unusedSimpArgs false

/-! ### ac: function 10 -/
mutual
def ac.j1 : Nat → Int → Int → ByteArray → List ByteArray → List (S28) → Int → ByteArray → List ByteArray → Option (Int × ByteArray × List ByteArray × (List (S28)))
  | 0, _, _, _, _, _, _, _, _ => none
  | k + 1, x1, dg, dh, cw, bW, cN, cO, cD => ac.l1 k x1 0 dg dh cw bW cN cO cD ([] : List (S28))
def ac.l1 : Nat → Int → Int → Int → ByteArray → List ByteArray → List (S28) → Int → ByteArray → List ByteArray → List (S28) → Option (Int × ByteArray × List ByteArray × (List (S28)))
  | 0, _, _, _, _, _, _, _, _, _, _ => none
  | k + 1, x1, x7, dg, dh, cw, bW, cN, cO, cD, di => if x7 < (bW.length : Int) then (if x7 < 8 then (if x1 < 5 then (if 0 ≤ x7 then ((ac.f k ((rd_T28 bW x7).f0) ((rd_T28 bW x7).f1) ((rd_T28 bW x7).f2) ((rd_T28 bW x7).f3) (wrap64 (x1 + 1))).bind fun iX => (if di.length < 1954687338268 then (ac.l1 k x1 (wrap64 (x7 + 1)) dg dh cw bW cN cO cD (di ++ [(⟨iX.1, iX.2.1, iX.2.2.1, iX.2.2.2⟩ : S28)])) else (none))) else (none)) else (some (cN, cO, cD, di))) else (some (cN, cO, cD, di))) else (some (cN, cO, cD, di))
def ac.l0 : Nat → Int → Int → Int → ByteArray → List ByteArray → List (S28) → Int → ByteArray → List ByteArray → Option (Int × ByteArray × List ByteArray × (List (S28)))
  | 0, _, _, _, _, _, _, _, _, _ => none
  | k + 1, x1, x6, dg, dh, cw, bW, cN, cO, cD => if x6 < (cw.length : Int) then (if x6 < 8 then (if 0 ≤ x6 then (if 0 ≤ (mn ((rdOf ByteArray.empty cw x6).size : Int) 20) then (if (mn ((rdOf ByteArray.empty cw x6).size : Int) 20) ≤ ((rdOf ByteArray.empty cw x6).size : Int) then (if cD.length < 8796093022208 then (ac.l0 k x1 (wrap64 (x6 + 1)) dg dh cw bW cN cO (cD ++ [(rdOf ByteArray.empty cw x6).extract 0 ((mn ((rdOf ByteArray.empty cw x6).size : Int) 20) : Int).toNat])) else (none)) else (none)) else (none)) else (none)) else (ac.j1 k x1 dg dh cw bW cN cO cD)) else (ac.j1 k x1 dg dh cw bW cN cO cD)
def ac.f : Nat → Int → ByteArray → List ByteArray → List (S28) → Int → Option (Int × ByteArray × List ByteArray × (List (S28)))
  | 0, _, _, _, _, _ => none
  | k + 1, a0_0, a0_1, ab, aa, a1 => if 0 ≤ (mn (a0_1.size : Int) 60) then (if (mn (a0_1.size : Int) 60) ≤ (a0_1.size : Int) then (ac.l0 k a1 0 a0_0 a0_1 ab aa a0_0 (a0_1.extract 0 ((mn (a0_1.size : Int) 60) : Int).toNat) ([] : List ByteArray)) else (none)) else (none)
end
def ac.T1 : Bool × List (List Nat × List Nat) := (true, [([], []), ([0], [0]), ([], []), ([2], [2]), ([], []), ([4], [4]), ([5], [5]), ([6], [6]), ([3, 7], [3, 7]), ([1, 8], [1, 8]), ([], []), ([10, 9, 0, 1, 2, 3, 4, 5, 6, 7, 8, 9, 10], [9, 10])])
def ac.B1 : List Nat := [0, 1, 0, 4, 0, 16, 48, 112, 252, 511, 0, 2047]
theorem ac.tab1 : rtab .any (opsOf Tryz.f10 1) = ac.T1 := p12z
theorem ac.bits1 : waitsOk ac.T1.2 ac.B1 = true := p12z
def ac.T5 : Bool × List (List Nat × List Nat) := (true, [([], []), ([0], [0]), ([], []), ([2], [2]), ([], []), ([3, 4], [3, 4]), ([5], [5]), ([], []), ([7], [7]), ([], []), ([8, 9], [8, 9]), ([10], [10]), ([11], [11]), ([12], [12]), ([6, 13], [6, 13]), ([14], [14]), ([1, 15], [1, 15]), ([0, 1, 2, 3, 4, 5, 6, 7, 8, 9, 10, 11, 12, 13, 14, 15, 16], []), ([17, 16, 16, 0, 1, 2, 3, 4, 5, 6, 7, 8, 9, 10, 11, 12, 13, 14, 15, 16], [16, 17])])
def ac.B5 : List Nat := [0, 1, 0, 4, 0, 28, 60, 0, 128, 0, 896, 1920, 3968, 8064, 16380, 32764, 65535, 131071, 262143]
theorem ac.tab5 : rtab .any (opsOf Tryz.f10 5) = ac.T5 := p12z
theorem ac.bits5 : waitsOk ac.T5.2 ac.B5 = true := p12z
def ac.T9 : Bool × List (List Nat × List Nat) := (true, [([], []), ([0], [0]), ([], []), ([2], [2]), ([], []), ([3, 4], [3, 4]), ([5], [5]), ([], []), ([7], [7]), ([6, 8], [6, 8]), ([9], [9]), ([1, 10, 9], [1, 10]), ([0, 1, 2, 3, 4, 5, 6, 7, 8, 9, 10, 11], []), ([12, 11, 11, 0, 1, 2, 3, 4, 5, 6, 7, 8, 9, 10, 11], [11, 12])])
def ac.B9 : List Nat := [0, 1, 0, 4, 0, 28, 60, 0, 128, 508, 1020, 2047, 4095, 8191]
theorem ac.tab9 : rtab .any (opsOf Tryz.f10 9) = ac.T9 := p12z
theorem ac.bits9 : waitsOk ac.T9.2 ac.B9 = true := p12z
theorem ac.calls (k : Nat) : ∀ (a0_0 : Int) (a0_1 : ByteArray) (A0_2 : Option Addr) (c0_2 : Nat) (ab : List ByteArray) (A0_3 : Option Addr) (c0_3 : Nat) (aa : List (S28)) (a1 : Int) (r1 : Int) (r2 : ByteArray) (r3 : List ByteArray) (r4 : List (S28)) (w : World) (hr0_2 : Kd.C Kd.string w A0_2 ab.length ab) (hc0_2 : ab.length ≤ c0_2) (hr0_3 : Kd.C k28 w A0_3 aa.length aa) (hc0_3 : aa.length ≤ c0_3) (h : ac.f k a0_0 a0_1 ab aa a1 = some (r1, r2, r3, r4)),
 Calls Tryz.prog 10 #[.agg #[.int .i64 a0_0, .string a0_1, .slice A0_2 ab.length c0_2, .slice A0_3 aa.length c0_3], .int .i64 a1] w fun e w' => ∃ v2_ v3_ : Value, e = .returned (.agg #[.int .i64 r1, .string r2, v2_, v3_]) ∧ Kd.R Kd.string 9 w' w.heap.size (fun _ => True) v2_ r3 ∧ Kd.R k28 28 w' w.heap.size (fun k_ => some k_ ≠ (v2_ : Value).ownBlock) v3_ r4 ∧ Below w.heap.size w w' := by
 induction k using Nat.strongRecOn with
 | _ k ih =>
 intro a0_0 a0_1 A0_2 c0_2 ab A0_3 c0_3 aa a1 r1 r2 r3 r4 w hr0_2 hc0_2 hr0_3 hc0_3 h
 cases k with
 | zero => exact absurd h (by simp [ac.f])
 | succ k =>
 simp only [ac.f] at h
 have hu28 := Tryz.underlying28
 have cU := Aside0.mk hr0_2
 have bZ := Aside0.mk hc0_2
 clear hr0_2 hc0_2
 have cP := Aside0.mk hr0_3
 have cn := Aside0.mk hc0_3
 clear hr0_3 hc0_3
 have HB := Aside0.mk (Below.refl w.heap.size w)
 have H : (if 0 ≤ (mn (a0_1.size : Int) 60) then (if (mn (a0_1.size : Int) 60) ≤ (a0_1.size : Int) then (ac.l0 k a1 0 a0_0 a0_1 ab aa a0_0 (a0_1.extract 0 ((mn (a0_1.size : Int) 60) : Int).toNat) ([] : List ByteArray)) else (none)) else (none)) = some (r1, r2, r3, r4) := h
 clear h
 obtain ⟨ji3, hji3⟩ : ∃ j_ : Int, (mn (a0_1.size : Int) 60) = j_ := ⟨_, rfl⟩
 replace H : (if 0 ≤ (ji3) then (if (ji3) ≤ (a0_1.size : Int) then (ac.l0 k a1 0 a0_0 a0_1 ab aa a0_0 (a0_1.extract 0 ((ji3) : Int).toNat) ([] : List ByteArray)) else (none)) else (none)) = some (r1, r2, r3, r4) := by first | (rw [hji3] at H; exact H) | (simp only [hji3] at H ⊢; exact H)
 (try (have hji3h : ji3 ≤ 60 := by (rw [← hji3]; unfold mn; (repeat' split) <;> omega)))
 (try (have hji3g : ji3 ≤ 64 := by omega))
 (try (have hji3l : 0 ≤ ji3 := by (rw [← hji3]; unfold mn; (repeat' split) <;> omega)))
 (try (have hji3m : 0 ≤ ji3 := by omega))
 have hji3_ : (if 60 < (a0_1.size : Int) then 60 else (a0_1.size : Int)) = ji3 := hji3
 by_cases c4 : 0 ≤ (ji3)
 case neg =>
  rw [if_neg c4] at H
  exact absurd H (by simp)
 rw [if_pos c4] at H
 have dd := eq_true c4
 have c4b1 : decide (0 ≤ (ji3)) = true := decide_eq_true c4
 clear c4
 by_cases c5 : (ji3) ≤ (a0_1.size : Int)
 case neg =>
  rw [if_neg c5] at H
  exact absurd H (by simp)
 rw [if_pos c5] at H
 have dE := eq_true c5
 have fZ : decide ((ji3) ≤ (a0_1.size : Int)) = true := decide_eq_true c5
 clear c5
 have HC6 := Aside0.mk H
 clear H
 go_enter Tryz.func10, Tryz.ntmps10
 try go_wp2_with (first | ((with_reducible refine gate_dst (N := 2) rfl ?_); refine box_event ?hg (N := 2) ?hd (cs := #[.int .i64 a0_0, .string a0_1, .slice A0_2 ab.length c0_2, .slice A0_3 aa.length c0_3]) (t := 28) ?hr ?_; (case hd => rfl); (case hg => rfl); (case hr => exact p9z); intro aQ hg w7 hbox hb; have z_ := asi4 (below_step p0z hb) (hbox) ((p21z : w.heap.size ≤ aQ)) ((p21z : w.heap.size ≤ aQ)); clear HB; obtain ⟨HB, ax, GW178, iG⟩ := z_; clear hb hbox hg) | ((with_reducible refine gate_dst (N := 4) rfl ?_); refine box_event ?hg (N := 4) ?hd (cs := #[.int .i64 0, .string (⟨#[]⟩ : ByteArray), .slice none 0 0, .slice none 0 0]) (t := 28) ?hr ?_; (case hd => rfl); (case hg => rfl); (case hr => exact p9z); intro aA hg w8 hbox hb; have z_ := asi7 (blk_below (g := aQ) (o := .cells #[.int .i64 a0_0, .string a0_1, .slice A0_2 ab.length c0_2, .slice A0_3 aa.length c0_3] 28 (0, 0)) p11z hb) (below_step p46z hb) (hbox) ((by rw [hg]; exact (below_size p46z) : w.heap.size ≤ aA)) ((by rw [hg]; exact (below_size p46z) : w.heap.size ≤ aA)) ((p62z : aQ ≠ aA)) ((p63z : aA ≠ aQ)); clear ax HB; obtain ⟨ax, HB, bi, GW179, js, NB178_179, NB179_178⟩ := z_; clear hb hbox hg))
 have n0_ := Aside0.mk (blk_drew ax.out)
 have n1_ := Aside0.mk (blk_drew bi.out)
 have n2_ := Aside0.mk (below_drew1 HB.out)
 clear ax
 clear bi
 clear HB
 have ax := n0_
 have bi := n1_
 have HB := n2_
 clear n0_ n1_ n2_
 refine start_ (n := 12) (S := fun w' => w'.cell? ⟨aQ, 0, none⟩ = some (.int .i64 a0_0) ∧ w'.cell? ⟨aQ, 1, none⟩ = some (.string a0_1) ∧ w'.cell? ⟨aQ, 2, none⟩ = some (.slice A0_2 ab.length c0_2) ∧ w'.cell? ⟨aQ, 3, none⟩ = some (.slice A0_3 aa.length c0_3)) (ds := []) (tf 0 12) p12z rfl rfl ⟨(blk_cell ax.out 0).trans rfl, (blk_cell ax.out 1).trans rfl, (blk_cell ax.out 2).trans rfl, (blk_cell ax.out 3).trans rfl⟩ (fun hHeld => ?_); refine with_tabW ac.tab1 ac.bits1 (fun HT_ HW_ => ?_)
 generalize w8.drew = w9 at ax bi HB hHeld ⊢
 refine pzz 0 (some 8) (tf 1 11) ?_
 refine pzz 2 (some 10) (tfs true [1, 1, 1, 9]) ?_
 refine pzz 4 (some 12) (tfs true [1, 1, 1, 1, 1, 7]) ?_
 refine tzz 1 (some 9) (tfs true [3, 1, 1, 7]) ?_
 refine tzz 3 (some 11) (tf 5 7) ?_
 refine tzz 5 (some 13) (tf 6 6) ?_
 refine pzz 6 (some 14) (tf 7 5) ?_
 refine pzz 7 (some 15) (tf 8 4) ?_
 refine pzz 8 (some 16) (tf 9 3) ?_
 refine pzz 9 (some 17) (tf 10 2) ?_
 refine one_ (i := 10) (N := some 5) (tf 11 1) rfl rfl (one_of HT_.out p12z) (by decide) (fun K hK => ?_)
 refine box_step ?hg (N := 5) ?hd (cs := #[.int .i64 0, .string (⟨#[]⟩ : ByteArray), .slice none 0 0, .slice none 0 0]) (t := 28) ?hr ?_; (case hd => rfl); (case hg => rfl); (case hr => exact p9z)
 intro aw hg w10 hbox hb
 have n0_ := Aside0.mk (blk_below (g := aQ) (o := .cells #[.int .i64 a0_0, .string a0_1, .slice A0_2 ab.length c0_2, .slice A0_3 aa.length c0_3] 28 (0, 0)) p11z hb)
 have n1_ := Aside0.mk (blk_below (g := aA) (o := .cells #[.int .i64 0, .string (⟨#[]⟩ : ByteArray), .slice none 0 0, .slice none 0 0] 28 (0, 0)) p18z hb)
 have n2_ := Aside0.mk (below_step p37z hb)
 have n3_ := Aside0.mk (hbox)
 have n4_ := Aside0.mk ((by rw [hg]; exact (below_size p37z) : w.heap.size ≤ aw))
 have n5_ := Aside0.mk ((by rw [hg]; exact (below_size p37z) : w.heap.size ≤ aw))
 have n6_ := Aside0.mk ((p62z : aQ ≠ aw))
 have n7_ := Aside0.mk ((p63z : aw ≠ aQ))
 have n8_ := Aside0.mk ((by rw [hg]; exact Nat.ne_of_lt (blk_lt (g := aA) (o := .cells #[.int .i64 0, .string (⟨#[]⟩ : ByteArray), .slice none 0 0, .slice none 0 0] 28 (0, 0)) p18z) : aA ≠ aw))
 have n9_ := Aside0.mk ((by rw [hg]; exact Nat.ne_of_gt (blk_lt (g := aA) (o := .cells #[.int .i64 0, .string (⟨#[]⟩ : ByteArray), .slice none 0 0, .slice none 0 0] 28 (0, 0)) p18z) : aw ≠ aA))
 clear ax
 clear bi
 clear HB
 have ax := n0_
 have bi := n1_
 have HB := n2_
 have aD := n3_
 have GW180 := n4_
 have GE180 := n5_
 have NB178_180 := n6_
 have NB180_178 := n7_
 have NB179_180 := n8_
 have NB180_179 := n9_
 clear n0_ n1_ n2_ n3_ n4_ n5_ n6_ n7_ n8_ n9_
 clear hb hbox hg
 refine hK.out _ _ ⟨(blk_cell ax.out 0).trans rfl, (blk_cell ax.out 1).trans rfl, (blk_cell ax.out 2).trans rfl, (blk_cell ax.out 3).trans rfl⟩ (fun hHeld => ?_)
 clear hK K
 refine nzz (some 5) ?_
 refine one_ (i := 11) (N := none) (tf 12 0) rfl rfl (one_of HT_.out p12z) (by decide) (fun K hK => ?_)
 have hs11 : w10.cell? ⟨aw, 0, none⟩ = some (.int .i64 0) := (blk_cell aD.out 0).trans rfl
 have hfs11 := blk_frozen aD.out 0
 have hns11_0 := NB178_180.out
 have hns11_1 := NB179_180.out
 have hms11_0 := NB180_178.out
 have hms11_1 := NB180_179.out
 have hs12 : w10.cell? ⟨aw, 1, none⟩ = some (.string (⟨#[]⟩ : ByteArray)) := (blk_cell aD.out 1).trans rfl
 have hfs12 := blk_frozen aD.out 1
 have hns12_0 := NB178_180.out
 have hns12_1 := NB179_180.out
 have hms12_0 := NB180_178.out
 have hms12_1 := NB180_179.out
 have hs13 : w10.cell? ⟨aw, 2, none⟩ = some (.slice none 0 0) := (blk_cell aD.out 2).trans rfl
 have hfs13 := blk_frozen aD.out 2
 have hns13_0 := NB178_180.out
 have hns13_1 := NB179_180.out
 have hms13_0 := NB180_178.out
 have hms13_1 := NB180_179.out
 have hs14 : w10.cell? ⟨aw, 3, none⟩ = some (.slice none 0 0) := (blk_cell aD.out 3).trans rfl
 have hfs14 := blk_frozen aD.out 3
 have hns14_0 := NB178_180.out
 have hns14_1 := NB179_180.out
 have hms14_0 := NB180_178.out
 have hms14_1 := NB180_179.out
 refine skip_ (w1 := ?_) (by rfl) rfl ?_ ?_
 rotate_left
 ·go_simp
  rfl
 refine hK.out _ _ ⟨((cell_far (p := ⟨aw, _, none⟩) NB178_180.out _).trans (((cell_far (p := ⟨aw, _, none⟩) NB178_180.out _).trans (((cell_far (p := ⟨aw, _, none⟩) NB178_180.out _).trans (((cell_far (p := ⟨aw, _, none⟩) NB178_180.out _).trans (hHeld.1)))))))), ((cell_far (p := ⟨aw, _, none⟩) NB178_180.out _).trans (((cell_far (p := ⟨aw, _, none⟩) NB178_180.out _).trans (((cell_far (p := ⟨aw, _, none⟩) NB178_180.out _).trans (((cell_far (p := ⟨aw, _, none⟩) NB178_180.out _).trans (hHeld.2.1)))))))), ((cell_far (p := ⟨aw, _, none⟩) NB178_180.out _).trans (((cell_far (p := ⟨aw, _, none⟩) NB178_180.out _).trans (((cell_far (p := ⟨aw, _, none⟩) NB178_180.out _).trans (((cell_far (p := ⟨aw, _, none⟩) NB178_180.out _).trans (hHeld.2.2.1)))))))), ((cell_far (p := ⟨aw, _, none⟩) NB178_180.out _).trans (((cell_far (p := ⟨aw, _, none⟩) NB178_180.out _).trans (((cell_far (p := ⟨aw, _, none⟩) NB178_180.out _).trans (((cell_far (p := ⟨aw, _, none⟩) NB178_180.out _).trans (hHeld.2.2.2))))))))⟩ (fun hHeld => ?_)
 clear hK K
 refine done_ (done_of HT_.out p12z) ?_
 go_upto_block 0 with (fail)
 go_cut [] (fun wc => ∃ (kq : Nat) (bB : List ByteArray) (bG : Value), Aside0 (ac.j1 kq a1 a0_0 a0_1 ab aa a0_0 (a0_1.extract 0 ((ji3) : Int).toNat) bB = some (r1, r2, r3, r4)) ∧ Aside0 (kq ≤ k) ∧ Aside0 (Kd.R Kd.string 9 wc w.heap.size (fun _ => True) bG bB) ∧ Aside0 (wc.heap[aQ]? = some (.cells #[.int .i64 a0_0, .string a0_1, (.slice A0_2 ab.length c0_2), (.slice A0_3 aa.length c0_3)] 28 (0, 0))) ∧ Aside0 (wc.heap[aA]? = some (.cells #[.int .i64 0, .string (⟨#[]⟩ : ByteArray), (.slice none 0 0), (.slice none 0 0)] 28 (0, 0))) ∧ Aside0 (wc.heap[aw]? = some (.cells #[.int .i64 a0_0, .string (a0_1.extract 0 ((ji3) : Int).toNat), bG, (.slice none 0 0)] 28 (0, 0))) ∧ Aside0 (Below w.heap.size w wc))
 case first =>
  have H := HC6.out
  clear HC6
  have H' := Aside0.mk H
  clear H
  go_wp2
  go_loopg [6] k (fun kq v6 w' => ∃ (aU : Int) (cA : List ByteArray) (bG : Value), v6 = .int .i64 aU ∧ Aside0 (ac.l0 kq a1 aU a0_0 a0_1 ab aa a0_0 (a0_1.extract 0 ((ji3) : Int).toNat) cA = some (r1, r2, r3, r4)) ∧ Aside0 (kq ≤ k) ∧ Aside0 (Kd.R Kd.string 9 w' w.heap.size (fun _ => True) bG cA) ∧ Aside0 (w'.heap[aQ]? = some (.cells #[.int .i64 a0_0, .string a0_1, (.slice A0_2 ab.length c0_2), (.slice A0_3 aa.length c0_3)] 28 (0, 0))) ∧ Aside0 (w'.heap[aA]? = some (.cells #[.int .i64 0, .string (⟨#[]⟩ : ByteArray), (.slice none 0 0), (.slice none 0 0)] 28 (0, 0))) ∧ Aside0 (w'.heap[aw]? = some (.cells #[.int .i64 a0_0, .string (a0_1.extract 0 ((ji3) : Int).toNat), bG, (.slice none 0 0)] 28 (0, 0))) ∧ Aside0 (Below w.heap.size w w'))
  case atStart => exact ⟨(0), (([] : List ByteArray)), (.slice none 0 0), p5z, H', ⟨Nat.le_refl _⟩, ⟨p34z⟩, ⟨p52z⟩, ⟨p53z⟩, ⟨by (with_reducible repeat (first | refine blk_drewN ?_ _ | refine blk_drew ?_ | refine blk_alloc ?_ _)); refine blk_put (cs := #[.int .i64 a0_0, .string (a0_1.extract 0 ((ji3) : Int).toNat), .slice none 0 0, .slice none 0 0]) ?_ 3 _ rfl; (with_reducible repeat (first | refine blk_drewN ?_ _ | refine blk_drew ?_ | refine blk_alloc ?_ _)); refine blk_put (cs := #[.int .i64 a0_0, .string (a0_1.extract 0 ((ji3) : Int).toNat), .slice none 0 0, .slice none 0 0]) ?_ 2 _ rfl; (with_reducible repeat (first | refine blk_drewN ?_ _ | refine blk_drew ?_ | refine blk_alloc ?_ _)); refine blk_put (cs := #[.int .i64 a0_0, .string (⟨#[]⟩ : ByteArray), .slice none 0 0, .slice none 0 0]) ?_ 1 _ rfl; (with_reducible repeat (first | refine blk_drewN ?_ _ | refine blk_drew ?_ | refine blk_alloc ?_ _)); refine blk_put (cs := #[.int .i64 0, .string (⟨#[]⟩ : ByteArray), .slice none 0 0, .slice none 0 0]) ?_ 0 _ rfl; (with_reducible repeat (first | refine blk_drewN ?_ _ | refine blk_drew ?_ | refine blk_alloc ?_ _)); exact aD.out⟩, ⟨p6z⟩⟩
  case round =>
   clear H'
   try clear dd
   try clear c4b1
   try clear dE
   try clear fZ
   obtain ⟨aU, cA, bG, rfl, HA, HK1, aH, ax, bi, aD, HB⟩ := hrel
   cases gk with
   | zero => exact absurd HA.out (by simp [ac.l0])
   | succ k1 =>
    have H := HA.out
    clear HA
    simp only [ac.l0] at H
    by_cases c15 : aU < (ab.length : Int)
    case neg =>
     rw [if_neg c15] at H
     have dA : decide (aU < (ab.length : Int)) = false := decide_eq_false c15
     clear c15
     (first | rw [dA] | (simp only [i64_w, i32_w]; rw [dA]) | skip)
     have H' := Aside0.mk H
     clear H
     have hnb32 := NB178_179.out
     have hnc32 := NB179_178.out
     have hnb33 := NB178_180.out
     have hnc33 := NB180_178.out
     obtain ⟨hcz34_0, hcz34_1, hcz34_2, hcz34_3, hfz34_0, hfz34_1, hfz34_2, hfz34_3⟩ := cells4 ax.out
     go_wp2
     go_meet
     case rel => exact ⟨_, (cA), (bG), H', ⟨p75z⟩, ⟨p44z⟩, ⟨p11z⟩, ⟨p18z⟩, ⟨p28z⟩, ⟨p6z⟩⟩
    rw [if_pos c15] at H
    have dA : decide (aU < (ab.length : Int)) = true := decide_eq_true c15
    clear c15
    (first | rw [dA] | (simp only [i64_w, i32_w]; rw [dA]) | skip)
    by_cases c16 : aU < 8
    case neg =>
     rw [if_neg c16] at H
     have fx : decide (aU < 8) = false := decide_eq_false c16
     clear c16
     have H' := Aside0.mk H
     clear H
     have hnb29 := NB178_179.out
     have hnc29 := NB179_178.out
     have hnb30 := NB178_180.out
     have hnc30 := NB180_178.out
     obtain ⟨hcz31_0, hcz31_1, hcz31_2, hcz31_3, hfz31_0, hfz31_1, hfz31_2, hfz31_3⟩ := cells4 ax.out
     go_wp2
     go_meet
     case rel => exact ⟨_, (cA), (bG), H', ⟨p75z⟩, ⟨p44z⟩, ⟨p11z⟩, ⟨p18z⟩, ⟨p28z⟩, ⟨p6z⟩⟩
    rw [if_pos c16] at H
    have fx : decide (aU < 8) = true := decide_eq_true c16
    clear c16
    by_cases c17 : 0 ≤ aU
    case neg =>
     rw [if_neg c17] at H
     exact absurd H (by simp)
    rw [if_pos c17] at H
    have eF : decide (0 ≤ aU) = true := decide_eq_true c17
    clear c17
    obtain ⟨ji18, hji18⟩ : ∃ j_ : Int, (mn ((rdOf ByteArray.empty ab aU).size : Int) 20) = j_ := ⟨_, rfl⟩
    replace H : (if 0 ≤ (ji18) then (if (ji18) ≤ ((rdOf ByteArray.empty ab aU).size : Int) then (if cA.length < 8796093022208 then (ac.l0 k1 a1 (wrap64 (aU + 1)) a0_0 a0_1 ab aa a0_0 (a0_1.extract 0 ((ji3) : Int).toNat) (cA ++ [(rdOf ByteArray.empty ab aU).extract 0 ((ji18) : Int).toNat])) else (none)) else (none)) else (none)) = some (r1, r2, r3, r4) := by first | (rw [hji18] at H; exact H) | (simp only [hji18] at H ⊢; exact H)
    have hji18_ : (if 20 < ((rdOf ByteArray.empty ab aU).size : Int) then 20 else ((rdOf ByteArray.empty ab aU).size : Int)) = ji18 := hji18
    by_cases c19 : 0 ≤ (ji18)
    case neg =>
     rw [if_neg c19] at H
     exact absurd H (by simp)
    rw [if_pos c19] at H
    have c19b0 := eq_true c19
    have c19b1 : decide (0 ≤ (ji18)) = true := decide_eq_true c19
    clear c19
    by_cases c20 : (ji18) ≤ ((rdOf ByteArray.empty ab aU).size : Int)
    case neg =>
     rw [if_neg c20] at H
     exact absurd H (by simp)
    rw [if_pos c20] at H
    have iU := eq_true c20
    have c20b1 : decide ((ji18) ≤ ((rdOf ByteArray.empty ab aU).size : Int)) = true := decide_eq_true c20
    clear c20
    by_cases c21 : cA.length < 8796093022208
    case neg =>
     rw [if_neg c21] at H
     exact absurd H (by simp)
    rw [if_pos c21] at H
    have LMc21 := Aside0.mk c21
    clear c21
    obtain ⟨y183, hy183⟩ : ∃ y_ : List ByteArray, y_ = (cA ++ [(rdOf ByteArray.empty ab aU).extract 0 ((ji18) : Int).toNat]) := ⟨_, rfl⟩
    replace H : (ac.l0 k1 a1 (wrap64 (aU + 1)) a0_0 a0_1 ab aa a0_0 (a0_1.extract 0 ((ji3) : Int).toNat) y183) = some (r1, r2, r3, r4) := by first | (rw [hy183]; with_reducible exact H) | (have H2_ := (Option.bind_some _ _).symm.trans H; rw [hy183]; with_reducible exact H2_) | (have H2_ := (Option.bind_some _ _).symm.trans H; with_reducible exact H2_) | with_reducible exact H | (rw [hy183]; exact H) | exact H
    have Ny183 := Aside0.mk hy183
    clear hy183
    have H' := Aside0.mk H
    clear H
    have hnb22 := NB178_179.out
    have hnc22 := NB179_178.out
    have hnb23 := NB178_180.out
    have hnc23 := NB180_178.out
    obtain ⟨hcz24_0, hcz24_1, hcz24_2, hcz24_3, hfz24_0, hfz24_1, hfz24_2, hfz24_3⟩ := cells4 ax.out
    try go_wp2
    have n0_ := Aside0.mk (Kd.R_drew aH.out)
    have n1_ := Aside0.mk (blk_drew ax.out)
    have n2_ := Aside0.mk (blk_drew bi.out)
    have n3_ := Aside0.mk (blk_drew aD.out)
    have n4_ := Aside0.mk (below_drew1 HB.out)
    clear aH
    clear ax
    clear bi
    clear aD
    clear HB
    have aH := n0_
    have ax := n1_
    have bi := n2_
    have aD := n3_
    have HB := n4_
    clear n0_ n1_ n2_ n3_ n4_
    have p181 : 0 ≤ (aU : Int) := of_decide_eq_true p4z
    have q181 : aU < (ab.length : Int) := of_decide_eq_true p4z
    obtain ⟨ad181, e181, hx181_0⟩ := Kd.at_string cU.out aU p181 q181
    have hw181_0 := hx181_0
    cases e181
    replace hx181_0 := (HB.out.cell (World.block_lt_of_cell? w _ hx181_0)).trans hx181_0
    replace p181 := eq_true p181
    replace q181 := eq_true q181
    have p182 : 0 ≤ (aU : Int) := of_decide_eq_true p4z
    have q182 : aU < (ab.length : Int) := of_decide_eq_true p4z
    obtain ⟨ad182, e182, hx182_0⟩ := Kd.at_string cU.out aU p182 q182
    have hw182_0 := hx182_0
    obtain rfl : ad181 = ad182 := (by injection e182)
    replace hx182_0 := (HB.out.cell (World.block_lt_of_cell? w _ hx182_0)).trans hx182_0
    replace p182 := eq_true p182
    replace q182 := eq_true q182
    refine start_ (n := 19) (S := fun w' => w'.cell? ⟨aw, 0, none⟩ = some (.int .i64 a0_0) ∧ w'.cell? ⟨aw, 1, none⟩ = some (.string (a0_1.extract 0 ((ji3) : Int).toNat)) ∧ w'.cell? ⟨aw, 2, none⟩ = some (bG) ∧ w'.cell? ⟨aw, 3, none⟩ = some (.slice none 0 0) ∧ w'.cell? ⟨aQ, 0, none⟩ = some (.int .i64 a0_0) ∧ w'.cell? ⟨aQ, 1, none⟩ = some (.string a0_1) ∧ w'.cell? ⟨aQ, 2, none⟩ = some (.slice (some ad181) ab.length c0_2) ∧ w'.cell? ⟨aQ, 3, none⟩ = some (.slice A0_3 aa.length c0_3) ∧ w'.cell? (ad181.add (aU).toNat) = some (.string (rdOf ByteArray.empty ab aU)) ∧ w'.cell? (ad181.add (aU).toNat) = some (.string (rdOf ByteArray.empty ab aU))) (ds := [18]) (tf 0 19) p12z rfl rfl ⟨(blk_cell aD.out 0).trans rfl, (blk_cell aD.out 1).trans rfl, (blk_cell aD.out 2).trans rfl, (blk_cell aD.out 3).trans rfl, (blk_cell ax.out 0).trans rfl, (blk_cell ax.out 1).trans rfl, (blk_cell ax.out 2).trans rfl, (blk_cell ax.out 3).trans rfl, ((HB.out.cell (World.block_lt_of_cell? w _ hw181_0)).trans hw181_0), ((HB.out.cell (World.block_lt_of_cell? w _ hw182_0)).trans hw182_0)⟩ (fun hHeld => ?_); refine with_tabW ac.tab5 ac.bits5 (fun HT_ HW_ => ?_)
    generalize wr.drew = w25 at aH ax bi aD HB hx181_0 hx182_0 hHeld ⊢
    refine pzz 0 (some 29) (tf 1 18) ?_
    refine pzz 2 (some 31) (tfs true [1, 1, 1, 16]) ?_
    refine pzz 4 (some 33) (tfs true [1, 1, 1, 1, 1, 14]) ?_
    refine pzz 7 (some 36) (tfs true [1, 1, 1, 1, 1, 2, 1, 11]) ?_
    refine pzz 9 (some 38) (tfs true [1, 1, 1, 1, 1, 2, 1, 1, 1, 9]) ?_
    refine tzz 1 (some 30) (tfs true [3, 1, 1, 2, 1, 1, 1, 9]) ?_
    refine tzz 3 (some 32) (tfs true [5, 2, 1, 1, 1, 9]) ?_
    refine pzz 5 (some 34) (tfs true [6, 1, 1, 1, 1, 9]) ?_
    refine tzz 6 (some 35) (tfs true [8, 1, 1, 9]) ?_
    refine tzz 8 (some 37) (tf 10 9) ?_
    refine pzz 10 (some 39) (tf 11 8) ?_
    refine tzz 11 (some 40) (tf 12 7) ?_
    refine pzz 12 (some 41) (tf 13 6) ?_
    refine pzz 13 (some 42) (tf 14 5) ?_
    refine pzz 14 (some 43) (tf 15 4) ?_
    refine one_ (i := 15) (N := some 44) (tf 16 3) rfl rfl (one_of HT_.out p12z) (by decide) (fun K hK => ?_)
    refine value_ (w1 := ?_) (v := ?_) (by rfl) rfl ?_ ?_
    rotate_left 2
    ·go_simp
     constructor
     ·rfl
     ·rfl
    refine hK.out _ _ ⟨(blk_cell (blk_alloc aD.out _) 0).trans rfl, (blk_cell (blk_alloc aD.out _) 1).trans rfl, (blk_cell (blk_alloc aD.out _) 2).trans rfl, (blk_cell (blk_alloc aD.out _) 3).trans rfl, (blk_cell (blk_alloc ax.out _) 0).trans rfl, (blk_cell (blk_alloc ax.out _) 1).trans rfl, (blk_cell (blk_alloc ax.out _) 2).trans rfl, (blk_cell (blk_alloc ax.out _) 3).trans rfl, (World.cell?_alloc_lt _ _ _ (World.block_lt_of_cell? _ _ (((HB.out.cell (World.block_lt_of_cell? w _ hw181_0)).trans hw181_0)))).trans (((HB.out.cell (World.block_lt_of_cell? w _ hw181_0)).trans hw181_0)), (World.cell?_alloc_lt _ _ _ (World.block_lt_of_cell? _ _ (((HB.out.cell (World.block_lt_of_cell? w _ hw182_0)).trans hw182_0)))).trans (((HB.out.cell (World.block_lt_of_cell? w _ hw182_0)).trans hw182_0))⟩ (fun hHeld => ?_)
    clear hK K
    refine nzz (some 44) ?_
    refine one_ (i := 16) (N := some 45) (tf 17 2) rfl rfl (one_of HT_.out p12z) (by decide) (fun K hK => ?_)
    refine Kd.R_append_step Kd.string (w0 := w) w.heap.size (by rfl) (.tmp 30) (.tmp 44) 22 9 (.string ⟨#[]⟩) 16 rfl Tryz.underlying22 info9 rfl (by decide) (by omega) bG cA ((rdOf ByteArray.empty ab aU).extract 0 ((ji18) : Int).toNat) [.string ((rdOf ByteArray.empty ab aU).extract 0 ((ji18) : Int).toNat)] (fun _ => True) (fun _ => False) rfl rfl ?aP (fun _ hk => hk.elim) ?aF ?aO ?aB ?aS ?aL ?_
    (case aP => exact rfl)
    (case aB => exact p6z)
    (case aF => exact (fun _ _ => trivial))
    (case aO => exact p44z)
    (case aS => exact (below_size p6z))
    (case aL => have := LMc21.out; omega)
    intro v184 w26 ho hb hg hat
    rw [← Ny183.out] at ho
    have n0_ := Aside0.mk (blk_grown (g := aQ) (o := .cells #[.int .i64 a0_0, .string a0_1, .slice (some ad181) ab.length c0_2, .slice A0_3 aa.length c0_3] 28 (0, 0)) p11z hg (Kd.R_ne aH.out ax.out (by decide)))
    have n1_ := Aside0.mk (blk_grown (g := aA) (o := .cells #[.int .i64 0, .string (⟨#[]⟩ : ByteArray), .slice none 0 0, .slice none 0 0] 28 (0, 0)) p18z hg (Kd.R_ne aH.out bi.out (by decide)))
    have n2_ := Aside0.mk (blk_grown (g := aw) (o := .cells #[.int .i64 a0_0, .string (a0_1.extract 0 ((ji3) : Int).toNat), bG, .slice none 0 0] 28 (0, 0)) p28z hg (Kd.R_ne aH.out aD.out (by decide)))
    have n3_ := Aside0.mk (hb)
    have n4_ := Aside0.mk (ho)
    clear ax
    clear bi
    clear aD
    clear HB
    clear aH
    have ax := n0_
    have bi := n1_
    have aD := n2_
    have HB := n3_
    have HO185 := n4_
    clear n0_ n1_ n2_ n3_ n4_
    clear ho hb hg hat
    obtain ⟨jf, co27, eo27⟩ := Kd.R_slice HO185.out
    (first | subst eo27 | (injection eo27 with f1_ f2_ f3_; have f4_ := f1_.symm; have f5_ := f3_.symm; clear f1_ f2_ f3_; subst f4_; subst f5_))
    refine hK.out _ _ ⟨(blk_cell aD.out 0).trans rfl, (blk_cell aD.out 1).trans rfl, (blk_cell aD.out 2).trans rfl, (blk_cell aD.out 3).trans rfl, (blk_cell ax.out 0).trans rfl, (blk_cell ax.out 1).trans rfl, (blk_cell ax.out 2).trans rfl, (blk_cell ax.out 3).trans rfl, ((HB.out.cell (World.block_lt_of_cell? w _ hw181_0)).trans hw181_0), ((HB.out.cell (World.block_lt_of_cell? w _ hw182_0)).trans hw182_0)⟩ (fun hHeld => ?_)
    clear hK K
    refine nzz (some 45) ?_
    refine pzz 17 (some 46) (tf 18 1) ?_
    refine last_ (i := 18) (N := none) (tf 19 0) rfl rfl (one_of HT_.out p12z) (by decide) (fun K hK => ?_)
    have hs28 : w26.cell? ⟨aw, 2, none⟩ = some (bG) := (blk_cell aD.out 2).trans rfl
    have hfs28 := blk_frozen aD.out 2
    have hns28_0 := NB178_180.out
    have hns28_1 := NB179_180.out
    have hms28_0 := NB180_178.out
    have hms28_1 := NB180_179.out
    refine skip_ (w1 := ?_) (by rfl) rfl ?_ ?_
    rotate_left
    ·go_simp
     rfl
    refine hK.out _ _ ?_
    clear hK K
    refine done_ (done_of HT_.out p12z) ?_
    try go_wp2
    go_roundg k1
    case measure => have := HK1.out; omega
    case rel => exact ⟨(wrap64 (aU + 1)), (y183), (.slice jf y183.length co27), p5z, H', ⟨p96z⟩, ⟨by (with_reducible repeat (first | apply Kd.R_alloc | apply Kd.R_drewN | apply Kd.R_drew)); exact Kd.R_mono (Kd.R_far (p := ⟨aw, 2, none⟩) (Kd.R_types HO185.out aD.out (by decide)) (fun _ hk => hk.2) (.slice jf y183.length co27)) (fun _ hk => trivial)⟩, ⟨p64z⟩, ⟨p65z⟩, ⟨by (with_reducible repeat (first | refine blk_drewN ?_ _ | refine blk_drew ?_ | refine blk_alloc ?_ _)); refine blk_put (cs := #[.int .i64 a0_0, .string (a0_1.extract 0 ((ji3) : Int).toNat), bG, .slice none 0 0]) ?_ 2 _ rfl; (with_reducible repeat (first | refine blk_drewN ?_ _ | refine blk_drew ?_ | refine blk_alloc ?_ _)); exact aD.out⟩, ⟨p6z⟩⟩
 case rest =>
  clear HC6
  try clear dd
  try clear c4b1
  try clear dE
  try clear fZ
  obtain ⟨kq, bB, bG, HA, HJ5, aH, ax, bi, aD, HB⟩ := hcut
  cases kq with
  | zero => exact absurd HA.out (by simp [ac.j1])
  | succ kj5 =>
   have H := HA.out
   clear HA
   simp only [ac.j1] at H
   have H' := Aside0.mk H
   clear H
   go_wp2
   go_loopg [7] kj5 (fun kq v7 w' => ∃ (cE : Int) (bH : List (S28)) (b5 : Value), v7 = .int .i64 cE ∧ Aside0 (ac.l1 kq a1 cE a0_0 a0_1 ab aa a0_0 (a0_1.extract 0 ((ji3) : Int).toNat) bB bH = some (r1, r2, r3, r4)) ∧ Aside0 (kq ≤ kj5) ∧ Aside0 (Kd.R Kd.string 9 w' w.heap.size (fun _ => True) bG bB) ∧ Aside0 (Kd.R k28 28 w' w.heap.size (fun k_ => some k_ ≠ (bG : Value).ownBlock ∧ k_ ≠ aQ ∧ k_ ≠ aA ∧ k_ ≠ aw) b5 bH) ∧ Aside0 (w'.heap[aQ]? = some (.cells #[.int .i64 a0_0, .string a0_1, (.slice A0_2 ab.length c0_2), (.slice A0_3 aa.length c0_3)] 28 (0, 0))) ∧ Aside0 (w'.heap[aA]? = some (.cells #[.int .i64 0, .string (⟨#[]⟩ : ByteArray), (.slice none 0 0), (.slice none 0 0)] 28 (0, 0))) ∧ Aside0 (w'.heap[aw]? = some (.cells #[.int .i64 a0_0, .string (a0_1.extract 0 ((ji3) : Int).toNat), bG, b5] 28 (0, 0))) ∧ Aside0 (Below w.heap.size w w'))
   case atStart => exact ⟨(0), (([] : List (S28))), (.slice none 0 0), p5z, H', ⟨Nat.le_refl _⟩, ⟨p44z⟩, ⟨p34z⟩, ⟨p11z⟩, ⟨p18z⟩, ⟨p28z⟩, ⟨p6z⟩⟩
   case round =>
    clear H'
    obtain ⟨cE, bH, b5, rfl, HA, HK2, aH, aK, ax, bi, aD, HB⟩ := hrel
    cases gk with
    | zero => exact absurd HA.out (by simp [ac.l1])
    | succ k2 =>
     have H := HA.out
     clear HA
     simp only [ac.l1] at H
     by_cases c35 : cE < (aa.length : Int)
     case neg =>
      rw [if_neg c35] at H
      have c35b0 : decide (cE < (aa.length : Int)) = false := decide_eq_false c35
      clear c35
      simp only [Option.some.injEq, Prod.mk.injEq] at H
      obtain ⟨rfl, rfl, rfl, rfl⟩ := H
      have hnb67 := NB178_179.out
      have hnc67 := NB179_178.out
      have hnb68 := NB178_180.out
      have hnc68 := NB180_178.out
      obtain ⟨hcz69_0, hcz69_1, hcz69_2, hcz69_3, hfz69_0, hfz69_1, hfz69_2, hfz69_3⟩ := cells4 ax.out
      have hnb70 := NB180_179.out
      have hnc70 := NB179_180.out
      obtain ⟨hcz71_0, hcz71_1, hcz71_2, hcz71_3, hfz71_0, hfz71_1, hfz71_2, hfz71_3⟩ := cells4 aD.out
      obtain ⟨hcz72_0, hcz72_1, hcz72_2, hcz72_3, hfz72_0, hfz72_1, hfz72_2, hfz72_3⟩ := cells4 bi.out
      obtain ⟨Ao73, co73, eo73⟩ := Kd.R_slice aH.out
      subst eo73
      obtain ⟨Ao74, co74, eo74⟩ := Kd.R_slice aK.out
      subst eo74
      go_wp2
      refine bodyPost_ret (results_cell_row rfl _ _ aA 28 #[.int .i64 a0_0, .string (a0_1.extract 0 ((ji3) : Int).toNat), .slice Ao73 bB.length co73, .slice Ao74 bH.length co74] (0, 0) _ rfl (by (with_reducible repeat (first | refine blk_drewN ?_ _ | refine blk_drew ?_ | refine blk_alloc ?_ _)); refine blk_put (cs := #[.int .i64 a0_0, .string (a0_1.extract 0 ((ji3) : Int).toNat), .slice Ao73 bB.length co73, .slice none 0 0]) ?_ 3 _ rfl; (with_reducible repeat (first | refine blk_drewN ?_ _ | refine blk_drew ?_ | refine blk_alloc ?_ _)); refine blk_put (cs := #[.int .i64 a0_0, .string (a0_1.extract 0 ((ji3) : Int).toNat), .slice none 0 0, .slice none 0 0]) ?_ 2 _ rfl; (with_reducible repeat (first | refine blk_drewN ?_ _ | refine blk_drew ?_ | refine blk_alloc ?_ _)); refine blk_put (cs := #[.int .i64 a0_0, .string (⟨#[]⟩ : ByteArray), .slice none 0 0, .slice none 0 0]) ?_ 1 _ rfl; (with_reducible repeat (first | refine blk_drewN ?_ _ | refine blk_drew ?_ | refine blk_alloc ?_ _)); refine blk_put (cs := #[.int .i64 0, .string (⟨#[]⟩ : ByteArray), .slice none 0 0, .slice none 0 0]) ?_ 0 _ rfl; (with_reducible repeat (first | refine blk_drewN ?_ _ | refine blk_drew ?_ | refine blk_alloc ?_ _)); exact bi.out) Tryz.underlying28 rfl p12z) rfl ?_
      exact ⟨_, _, p84z, by (with_reducible repeat (first | apply Kd.R_alloc | apply Kd.R_drewN | apply Kd.R_drew)); exact Kd.R_mono (Kd.R_far (p := ⟨aA, 3, none⟩) (Kd.R_far (p := ⟨aA, 2, none⟩) (Kd.R_far (p := ⟨aA, 1, none⟩) (Kd.R_far (p := ⟨aA, 0, none⟩) (Kd.R_types aH.out bi.out (by decide)) (fun _ hk => hk.2) (.int .i64 a0_0)) (fun _ hk => hk.2) (.string (a0_1.extract 0 ((ji3) : Int).toNat))) (fun _ hk => hk.2) (.slice Ao73 bB.length co73)) (fun _ hk => hk.2) (.slice Ao74 bH.length co74)) (fun _ hk => trivial), by (with_reducible repeat (first | apply Kd.R_alloc | apply Kd.R_drewN | apply Kd.R_drew)); exact Kd.R_mono (Kd.R_far (p := ⟨aA, 3, none⟩) (Kd.R_far (p := ⟨aA, 2, none⟩) (Kd.R_far (p := ⟨aA, 1, none⟩) (Kd.R_far (p := ⟨aA, 0, none⟩) (Kd.R_mono aK.out (fun k_ hk => (⟨hk, hk.2.2.1⟩ : _ ∧ k_ ≠ aA))) (fun _ hk => hk.2) (.int .i64 a0_0)) (fun _ hk => hk.2) (.string (a0_1.extract 0 ((ji3) : Int).toNat))) (fun _ hk => hk.2) (.slice Ao73 bB.length co73)) (fun _ hk => hk.2) (.slice Ao74 bH.length co74)) (fun _ hk => hk.1.1), p6z⟩
     rw [if_pos c35] at H
     have c35b0 : decide (cE < (aa.length : Int)) = true := decide_eq_true c35
     clear c35
     by_cases c36 : cE < 8
     case neg =>
      rw [if_neg c36] at H
      have c36b0 : decide (cE < 8) = false := decide_eq_false c36
      clear c36
      simp only [Option.some.injEq, Prod.mk.injEq] at H
      obtain ⟨rfl, rfl, rfl, rfl⟩ := H
      have hnb59 := NB178_179.out
      have hnc59 := NB179_178.out
      have hnb60 := NB178_180.out
      have hnc60 := NB180_178.out
      obtain ⟨hcz61_0, hcz61_1, hcz61_2, hcz61_3, hfz61_0, hfz61_1, hfz61_2, hfz61_3⟩ := cells4 ax.out
      have hnb62 := NB180_179.out
      have hnc62 := NB179_180.out
      obtain ⟨hcz63_0, hcz63_1, hcz63_2, hcz63_3, hfz63_0, hfz63_1, hfz63_2, hfz63_3⟩ := cells4 aD.out
      obtain ⟨hcz64_0, hcz64_1, hcz64_2, hcz64_3, hfz64_0, hfz64_1, hfz64_2, hfz64_3⟩ := cells4 bi.out
      obtain ⟨Ao65, co65, eo65⟩ := Kd.R_slice aH.out
      subst eo65
      obtain ⟨Ao66, co66, eo66⟩ := Kd.R_slice aK.out
      subst eo66
      go_wp2
      refine bodyPost_ret (results_cell_row rfl _ _ aA 28 #[.int .i64 a0_0, .string (a0_1.extract 0 ((ji3) : Int).toNat), .slice Ao65 bB.length co65, .slice Ao66 bH.length co66] (0, 0) _ rfl (by (with_reducible repeat (first | refine blk_drewN ?_ _ | refine blk_drew ?_ | refine blk_alloc ?_ _)); refine blk_put (cs := #[.int .i64 a0_0, .string (a0_1.extract 0 ((ji3) : Int).toNat), .slice Ao65 bB.length co65, .slice none 0 0]) ?_ 3 _ rfl; (with_reducible repeat (first | refine blk_drewN ?_ _ | refine blk_drew ?_ | refine blk_alloc ?_ _)); refine blk_put (cs := #[.int .i64 a0_0, .string (a0_1.extract 0 ((ji3) : Int).toNat), .slice none 0 0, .slice none 0 0]) ?_ 2 _ rfl; (with_reducible repeat (first | refine blk_drewN ?_ _ | refine blk_drew ?_ | refine blk_alloc ?_ _)); refine blk_put (cs := #[.int .i64 a0_0, .string (⟨#[]⟩ : ByteArray), .slice none 0 0, .slice none 0 0]) ?_ 1 _ rfl; (with_reducible repeat (first | refine blk_drewN ?_ _ | refine blk_drew ?_ | refine blk_alloc ?_ _)); refine blk_put (cs := #[.int .i64 0, .string (⟨#[]⟩ : ByteArray), .slice none 0 0, .slice none 0 0]) ?_ 0 _ rfl; (with_reducible repeat (first | refine blk_drewN ?_ _ | refine blk_drew ?_ | refine blk_alloc ?_ _)); exact bi.out) Tryz.underlying28 rfl p12z) rfl ?_
      exact ⟨_, _, p84z, by (with_reducible repeat (first | apply Kd.R_alloc | apply Kd.R_drewN | apply Kd.R_drew)); exact Kd.R_mono (Kd.R_far (p := ⟨aA, 3, none⟩) (Kd.R_far (p := ⟨aA, 2, none⟩) (Kd.R_far (p := ⟨aA, 1, none⟩) (Kd.R_far (p := ⟨aA, 0, none⟩) (Kd.R_types aH.out bi.out (by decide)) (fun _ hk => hk.2) (.int .i64 a0_0)) (fun _ hk => hk.2) (.string (a0_1.extract 0 ((ji3) : Int).toNat))) (fun _ hk => hk.2) (.slice Ao65 bB.length co65)) (fun _ hk => hk.2) (.slice Ao66 bH.length co66)) (fun _ hk => trivial), by (with_reducible repeat (first | apply Kd.R_alloc | apply Kd.R_drewN | apply Kd.R_drew)); exact Kd.R_mono (Kd.R_far (p := ⟨aA, 3, none⟩) (Kd.R_far (p := ⟨aA, 2, none⟩) (Kd.R_far (p := ⟨aA, 1, none⟩) (Kd.R_far (p := ⟨aA, 0, none⟩) (Kd.R_mono aK.out (fun k_ hk => (⟨hk, hk.2.2.1⟩ : _ ∧ k_ ≠ aA))) (fun _ hk => hk.2) (.int .i64 a0_0)) (fun _ hk => hk.2) (.string (a0_1.extract 0 ((ji3) : Int).toNat))) (fun _ hk => hk.2) (.slice Ao65 bB.length co65)) (fun _ hk => hk.2) (.slice Ao66 bH.length co66)) (fun _ hk => hk.1.1), p6z⟩
     rw [if_pos c36] at H
     have c36b0 : decide (cE < 8) = true := decide_eq_true c36
     clear c36
     by_cases c37 : a1 < 5
     case neg =>
      rw [if_neg c37] at H
      have c37b0 : decide (a1 < 5) = false := decide_eq_false c37
      clear c37
      simp only [Option.some.injEq, Prod.mk.injEq] at H
      obtain ⟨rfl, rfl, rfl, rfl⟩ := H
      have hnb51 := NB178_179.out
      have hnc51 := NB179_178.out
      have hnb52 := NB178_180.out
      have hnc52 := NB180_178.out
      obtain ⟨hcz53_0, hcz53_1, hcz53_2, hcz53_3, hfz53_0, hfz53_1, hfz53_2, hfz53_3⟩ := cells4 ax.out
      have hnb54 := NB180_179.out
      have hnc54 := NB179_180.out
      obtain ⟨hcz55_0, hcz55_1, hcz55_2, hcz55_3, hfz55_0, hfz55_1, hfz55_2, hfz55_3⟩ := cells4 aD.out
      obtain ⟨hcz56_0, hcz56_1, hcz56_2, hcz56_3, hfz56_0, hfz56_1, hfz56_2, hfz56_3⟩ := cells4 bi.out
      obtain ⟨Ao57, co57, eo57⟩ := Kd.R_slice aH.out
      subst eo57
      obtain ⟨Ao58, co58, eo58⟩ := Kd.R_slice aK.out
      subst eo58
      go_wp2
      refine bodyPost_ret (results_cell_row rfl _ _ aA 28 #[.int .i64 a0_0, .string (a0_1.extract 0 ((ji3) : Int).toNat), .slice Ao57 bB.length co57, .slice Ao58 bH.length co58] (0, 0) _ rfl (by (with_reducible repeat (first | refine blk_drewN ?_ _ | refine blk_drew ?_ | refine blk_alloc ?_ _)); refine blk_put (cs := #[.int .i64 a0_0, .string (a0_1.extract 0 ((ji3) : Int).toNat), .slice Ao57 bB.length co57, .slice none 0 0]) ?_ 3 _ rfl; (with_reducible repeat (first | refine blk_drewN ?_ _ | refine blk_drew ?_ | refine blk_alloc ?_ _)); refine blk_put (cs := #[.int .i64 a0_0, .string (a0_1.extract 0 ((ji3) : Int).toNat), .slice none 0 0, .slice none 0 0]) ?_ 2 _ rfl; (with_reducible repeat (first | refine blk_drewN ?_ _ | refine blk_drew ?_ | refine blk_alloc ?_ _)); refine blk_put (cs := #[.int .i64 a0_0, .string (⟨#[]⟩ : ByteArray), .slice none 0 0, .slice none 0 0]) ?_ 1 _ rfl; (with_reducible repeat (first | refine blk_drewN ?_ _ | refine blk_drew ?_ | refine blk_alloc ?_ _)); refine blk_put (cs := #[.int .i64 0, .string (⟨#[]⟩ : ByteArray), .slice none 0 0, .slice none 0 0]) ?_ 0 _ rfl; (with_reducible repeat (first | refine blk_drewN ?_ _ | refine blk_drew ?_ | refine blk_alloc ?_ _)); exact bi.out) Tryz.underlying28 rfl p12z) rfl ?_
      exact ⟨_, _, p84z, by (with_reducible repeat (first | apply Kd.R_alloc | apply Kd.R_drewN | apply Kd.R_drew)); exact Kd.R_mono (Kd.R_far (p := ⟨aA, 3, none⟩) (Kd.R_far (p := ⟨aA, 2, none⟩) (Kd.R_far (p := ⟨aA, 1, none⟩) (Kd.R_far (p := ⟨aA, 0, none⟩) (Kd.R_types aH.out bi.out (by decide)) (fun _ hk => hk.2) (.int .i64 a0_0)) (fun _ hk => hk.2) (.string (a0_1.extract 0 ((ji3) : Int).toNat))) (fun _ hk => hk.2) (.slice Ao57 bB.length co57)) (fun _ hk => hk.2) (.slice Ao58 bH.length co58)) (fun _ hk => trivial), by (with_reducible repeat (first | apply Kd.R_alloc | apply Kd.R_drewN | apply Kd.R_drew)); exact Kd.R_mono (Kd.R_far (p := ⟨aA, 3, none⟩) (Kd.R_far (p := ⟨aA, 2, none⟩) (Kd.R_far (p := ⟨aA, 1, none⟩) (Kd.R_far (p := ⟨aA, 0, none⟩) (Kd.R_mono aK.out (fun k_ hk => (⟨hk, hk.2.2.1⟩ : _ ∧ k_ ≠ aA))) (fun _ hk => hk.2) (.int .i64 a0_0)) (fun _ hk => hk.2) (.string (a0_1.extract 0 ((ji3) : Int).toNat))) (fun _ hk => hk.2) (.slice Ao57 bB.length co57)) (fun _ hk => hk.2) (.slice Ao58 bH.length co58)) (fun _ hk => hk.1.1), p6z⟩
     rw [if_pos c37] at H
     have c37b0 : decide (a1 < 5) = true := decide_eq_true c37
     clear c37
     by_cases c38 : 0 ≤ cE
     case neg =>
      rw [if_neg c38] at H
      exact absurd H (by simp)
     rw [if_pos c38] at H
     have c38b0 : decide (0 ≤ cE) = true := decide_eq_true c38
     clear c38
     replace H := Option.bind_eq_some_iff.mp H
     obtain ⟨⟨dF, jj, jk, jl⟩, A390, H⟩ := H
     replace H : (if bH.length < 1954687338268 then (ac.l1 k2 a1 (wrap64 (cE + 1)) a0_0 a0_1 ab aa a0_0 (a0_1.extract 0 ((ji3) : Int).toNat) bB (bH ++ [(⟨dF, jj, jk, jl⟩ : S28)])) else (none)) = some (r1, r2, r3, r4) := H
     have A39 := Aside0.mk A390
     clear A390
     by_cases c40 : bH.length < 1954687338268
     case neg =>
      rw [if_neg c40] at H
      exact absurd H (by simp)
     rw [if_pos c40] at H
     have LMc40 := Aside0.mk c40
     clear c40
     obtain ⟨y195, hy195⟩ : ∃ y_ : List (S28), y_ = (bH ++ [(⟨dF, jj, jk, jl⟩ : S28)]) := ⟨_, rfl⟩
     replace H : (ac.l1 k2 a1 (wrap64 (cE + 1)) a0_0 a0_1 ab aa a0_0 (a0_1.extract 0 ((ji3) : Int).toNat) bB y195) = some (r1, r2, r3, r4) := by first | (rw [hy195]; with_reducible exact H) | (have H2_ := (Option.bind_some _ _).symm.trans H; rw [hy195]; with_reducible exact H2_) | (have H2_ := (Option.bind_some _ _).symm.trans H; with_reducible exact H2_) | with_reducible exact H | (rw [hy195]; exact H) | exact H
     have Ny195 := Aside0.mk hy195
     clear hy195
     have H' := Aside0.mk H
     clear H
     have hnb41 := NB178_179.out
     have hnc41 := NB179_178.out
     have hnb42 := NB178_180.out
     have hnc42 := NB180_178.out
     obtain ⟨hcz43_0, hcz43_1, hcz43_2, hcz43_3, hfz43_0, hfz43_1, hfz43_2, hfz43_3⟩ := cells4 ax.out
     try go_wp2
     have n0_ := Aside0.mk (Kd.R_drew aH.out)
     have n1_ := Aside0.mk (Kd.R_drew aK.out)
     have n2_ := Aside0.mk (blk_drew ax.out)
     have n3_ := Aside0.mk (blk_drew bi.out)
     have n4_ := Aside0.mk (blk_drew aD.out)
     have n5_ := Aside0.mk (below_drew1 HB.out)
     clear aH
     clear aK
     clear ax
     clear bi
     clear aD
     clear HB
     have aH := n0_
     have aK := n1_
     have ax := n2_
     have bi := n3_
     have aD := n4_
     have HB := n5_
     clear n0_ n1_ n2_ n3_ n4_ n5_
     have p186 : 0 ≤ (cE : Int) := of_decide_eq_true p4z
     have q186 : cE < (aa.length : Int) := of_decide_eq_true p4z
     obtain ⟨ad186, A186_2, c186_2, A186_3, c186_3, e186, hx186_0, hx186_1, hx186_2, hx186_3, hl186_2, hi186_2, hl186_3, hi186_3⟩ := at_T28 cP.out cE p186 q186
     have hw186_3 := hx186_3
     have hw186_2 := hx186_2
     have hw186_1 := hx186_1
     have hw186_0 := hx186_0
     cases e186
     replace hx186_0 := (HB.out.cell (World.block_lt_of_cell? w _ hx186_0)).trans hx186_0
     replace hx186_1 := (HB.out.cell (World.block_lt_of_cell? w _ hx186_1)).trans hx186_1
     replace hx186_2 := (HB.out.cell (World.block_lt_of_cell? w _ hx186_2)).trans hx186_2
     replace hx186_3 := (HB.out.cell (World.block_lt_of_cell? w _ hx186_3)).trans hx186_3
     have iY := Aside0.mk hi186_2
     have HC186_2 := Aside0.mk hl186_2
     clear hi186_2 hl186_2
     have iZ := Aside0.mk hi186_3
     have HC186_3 := Aside0.mk hl186_3
     clear hi186_3 hl186_3
     replace p186 := eq_true p186
     replace q186 := eq_true q186
     refine start_ (n := 14) (S := fun w' => w'.cell? ⟨aw, 0, none⟩ = some (.int .i64 a0_0) ∧ w'.cell? ⟨aw, 1, none⟩ = some (.string (a0_1.extract 0 ((ji3) : Int).toNat)) ∧ w'.cell? ⟨aw, 2, none⟩ = some (bG) ∧ w'.cell? ⟨aw, 3, none⟩ = some (b5) ∧ w'.cell? ⟨aQ, 0, none⟩ = some (.int .i64 a0_0) ∧ w'.cell? ⟨aQ, 1, none⟩ = some (.string a0_1) ∧ w'.cell? ⟨aQ, 2, none⟩ = some (.slice A0_2 ab.length c0_2) ∧ w'.cell? ⟨aQ, 3, none⟩ = some (.slice (some ad186) aa.length c0_3) ∧ w'.cell? (ad186.add ((cE).toNat * 4)) = some (.int .i64 ((rd_T28 aa cE).f0)) ∧ w'.cell? ⟨(ad186.add ((cE).toNat * 4)).block, (ad186.add ((cE).toNat * 4)).off + 1, none⟩ = some (.string ((rd_T28 aa cE).f1)) ∧ w'.cell? ⟨(ad186.add ((cE).toNat * 4)).block, (ad186.add ((cE).toNat * 4)).off + 2, none⟩ = some (.slice A186_2 ((rd_T28 aa cE).f2).length c186_2) ∧ w'.cell? ⟨(ad186.add ((cE).toNat * 4)).block, (ad186.add ((cE).toNat * 4)).off + 3, none⟩ = some (.slice A186_3 ((rd_T28 aa cE).f3).length c186_3)) (ds := [13]) (tf 0 14) p12z rfl rfl ⟨(blk_cell aD.out 0).trans rfl, (blk_cell aD.out 1).trans rfl, (blk_cell aD.out 2).trans rfl, (blk_cell aD.out 3).trans rfl, (blk_cell ax.out 0).trans rfl, (blk_cell ax.out 1).trans rfl, (blk_cell ax.out 2).trans rfl, (blk_cell ax.out 3).trans rfl, ((HB.out.cell (World.block_lt_of_cell? w _ hw186_0)).trans hw186_0), ((HB.out.cell (World.block_lt_of_cell? w _ hw186_1)).trans hw186_1), ((HB.out.cell (World.block_lt_of_cell? w _ hw186_2)).trans hw186_2), ((HB.out.cell (World.block_lt_of_cell? w _ hw186_3)).trans hw186_3)⟩ (fun hHeld => ?_); refine with_tabW ac.tab9 ac.bits9 (fun HT_ HW_ => ?_)
     generalize wr.drew = w44 at aH aK ax bi aD HB iY iZ hx186_0 hx186_1 hx186_2 hx186_3 hHeld ⊢
     refine pzz 0 (some 62) (tf 1 13) ?_
     refine pzz 2 (some 64) (tfs true [1, 1, 1, 11]) ?_
     refine pzz 4 (some 66) (tfs true [1, 1, 1, 1, 1, 9]) ?_
     refine pzz 7 (some 69) (tfs true [1, 1, 1, 1, 1, 2, 1, 6]) ?_
     refine pzz 8 (some 70) (tfs true [1, 1, 1, 1, 1, 2, 2, 5]) ?_
     refine tzz 1 (some 63) (tfs true [3, 1, 1, 2, 2, 5]) ?_
     refine tzz 3 (some 65) (tfs true [5, 2, 2, 5]) ?_
     refine pzz 5 (some 67) (tfs true [6, 1, 2, 5]) ?_
     refine tzz 6 (some 68) (tf 9 5) ?_
     refine ozz 9 (some 71) (tf 10 4) #[.agg #[.int .i64 ((rd_T28 aa cE).f0), .string ((rd_T28 aa cE).f1), .slice A186_2 ((rd_T28 aa cE).f2).length c186_2, .slice A186_3 ((rd_T28 aa cE).f3).length c186_3], .int .i64 (wrap64 (a1 + 1))] Tryz.func10 (fun K hK => ?_)
     with_reducible refine (ih k2 (by have := HJ5.out; have := HK2.out; omega) ((rd_T28 aa cE).f0) ((rd_T28 aa cE).f1) _ _ ((rd_T28 aa cE).f2) _ _ ((rd_T28 aa cE).f3) (wrap64 (a1 + 1)) dF jj jk jl _ ?side1 ?side2 ?side3 ?side4 A39.out).mono ?_
     (case side1 => repeat (first | exact (Kd.C_below iY.out HB.out) | (with_reducible refine Kd.C_alloc ?_ _) | (with_reducible refine Kd.C_drewN ?_ _) | (with_reducible refine Kd.C_drew ?_)))
     (case side2 => exact HC186_2.out)
     (case side3 => repeat (first | exact (Kd.C_below iZ.out HB.out) | (with_reducible refine Kd.C_alloc ?_ _) | (with_reducible refine Kd.C_drewN ?_ _) | (with_reducible refine Kd.C_drew ?_)))
     (case side4 => exact HC186_3.out)
     rintro e w45 ⟨v190, v193, rfl, ho0, ho1, hb⟩
     refine ⟨_, rfl, ?_⟩
     have n0_ := Aside0.mk (Kd.R_elder' p44z (Kd.R_base ho0) hb)
     have n1_ := Aside0.mk (Kd.R_mono (Kd.R_told (Kd.R_told (Kd.R_old p107z hb) (Kd.R_base ho0)) (Kd.R_base ho1)) (fun _ h_ => h_.1))
     have n2_ := Aside0.mk (Kd.R_lower (Kd.R_new' ho0 (Kd.R_lt p44z)) (below_size p6z))
     have n3_ := Aside0.mk (Kd.R_lower (Kd.R_newB (Kd.R_newB (Kd.R_newB (Kd.R_new' (Kd.R_new' ho1 (Kd.R_lt p44z)) (Kd.R_lt p107z)) (g := aQ) (o := .cells #[.int .i64 a0_0, .string a0_1, .slice A0_2 ab.length c0_2, .slice (some ad186) aa.length c0_3] 28 (0, 0)) p11z) (g := aA) (o := .cells #[.int .i64 0, .string (⟨#[]⟩ : ByteArray), .slice none 0 0, .slice none 0 0] 28 (0, 0)) p18z) (g := aw) (o := .cells #[.int .i64 a0_0, .string (a0_1.extract 0 ((ji3) : Int).toNat), bG, b5] 28 (0, 0)) p28z) (below_size p6z))
     have n4_ := Aside0.mk (blk_below (g := aQ) (o := .cells #[.int .i64 a0_0, .string a0_1, .slice A0_2 ab.length c0_2, .slice (some ad186) aa.length c0_3] 28 (0, 0)) p11z hb)
     have n5_ := Aside0.mk (blk_below (g := aA) (o := .cells #[.int .i64 0, .string (⟨#[]⟩ : ByteArray), .slice none 0 0, .slice none 0 0] 28 (0, 0)) p18z hb)
     have n6_ := Aside0.mk (blk_below (g := aw) (o := .cells #[.int .i64 a0_0, .string (a0_1.extract 0 ((ji3) : Int).toNat), bG, b5] 28 (0, 0)) p28z hb)
     have n7_ := Aside0.mk (below_step p6z hb)
     clear aH
     clear aK
     clear ax
     clear bi
     clear aD
     clear HB
     have aH := n0_
     have aK := n1_
     have jM := n2_
     have jN := n3_
     have ax := n4_
     have bi := n5_
     have aD := n6_
     have HB := n7_
     clear n0_ n1_ n2_ n3_ n4_ n5_ n6_ n7_
     (try clear hb)
     (try clear hb2)
     (try clear hk)
     (try clear hi)
     (try clear ho0)
     (try clear ho1)
     obtain ⟨gi, co47, eo47⟩ := Kd.R_slice jM.out
     (first | subst eo47 | (injection eo47 with f1_ f2_ f3_; have f4_ := f1_.symm; have f5_ := f3_.symm; clear f1_ f2_ f3_; subst f4_; subst f5_))
     obtain ⟨Ao48, co48, eo48⟩ := Kd.R_slice jN.out
     (first | subst eo48 | (injection eo48 with f1_ f2_ f3_; have f4_ := f1_.symm; have f5_ := f3_.symm; clear f1_ f2_ f3_; subst f4_; subst f5_))
     refine hK.out _ _ ⟨(blk_cell aD.out 0).trans rfl, (blk_cell aD.out 1).trans rfl, (blk_cell aD.out 2).trans rfl, (blk_cell aD.out 3).trans rfl, (blk_cell ax.out 0).trans rfl, (blk_cell ax.out 1).trans rfl, (blk_cell ax.out 2).trans rfl, (blk_cell ax.out 3).trans rfl, ((HB.out.cell (World.block_lt_of_cell? w _ hw186_0)).trans hw186_0), ((HB.out.cell (World.block_lt_of_cell? w _ hw186_1)).trans hw186_1), ((HB.out.cell (World.block_lt_of_cell? w _ hw186_2)).trans hw186_2), ((HB.out.cell (World.block_lt_of_cell? w _ hw186_3)).trans hw186_3)⟩ (fun hHeld => ?_)
     clear hK K
     refine nzz (some 71) ?_
     refine one_ (i := 10) (N := some 72) (tf 11 3) rfl rfl (one_of HT_.out p12z) (by decide) (fun K hK => ?_)
     refine value_ (w1 := ?_) (v := ?_) (by rfl) rfl ?_ ?_
     rotate_left 2
     ·go_simp
      constructor
      ·rfl
      ·rfl
     refine hK.out _ _ ⟨(blk_cell (blk_alloc aD.out _) 0).trans rfl, (blk_cell (blk_alloc aD.out _) 1).trans rfl, (blk_cell (blk_alloc aD.out _) 2).trans rfl, (blk_cell (blk_alloc aD.out _) 3).trans rfl, (blk_cell (blk_alloc ax.out _) 0).trans rfl, (blk_cell (blk_alloc ax.out _) 1).trans rfl, (blk_cell (blk_alloc ax.out _) 2).trans rfl, (blk_cell (blk_alloc ax.out _) 3).trans rfl, (World.cell?_alloc_lt _ _ _ (World.block_lt_of_cell? _ _ (((HB.out.cell (World.block_lt_of_cell? w _ hw186_0)).trans hw186_0)))).trans (((HB.out.cell (World.block_lt_of_cell? w _ hw186_0)).trans hw186_0)), (World.cell?_alloc_lt _ _ _ (World.block_lt_of_cell? _ _ (((HB.out.cell (World.block_lt_of_cell? w _ hw186_1)).trans hw186_1)))).trans (((HB.out.cell (World.block_lt_of_cell? w _ hw186_1)).trans hw186_1)), (World.cell?_alloc_lt _ _ _ (World.block_lt_of_cell? _ _ (((HB.out.cell (World.block_lt_of_cell? w _ hw186_2)).trans hw186_2)))).trans (((HB.out.cell (World.block_lt_of_cell? w _ hw186_2)).trans hw186_2)), (World.cell?_alloc_lt _ _ _ (World.block_lt_of_cell? _ _ (((HB.out.cell (World.block_lt_of_cell? w _ hw186_3)).trans hw186_3)))).trans (((HB.out.cell (World.block_lt_of_cell? w _ hw186_3)).trans hw186_3))⟩ (fun hHeld => ?_)
     clear hK K
     refine nzz (some 72) ?_
     refine one_ (i := 11) (N := some 73) (tf 12 2) rfl rfl (one_of HT_.out p12z) (by decide) (fun K hK => ?_)
     refine Kd.R_append_step k28 (w0 := w) w.heap.size (by rfl) (.tmp 63) (.tmp 72) 26 28 (.agg #[(.int .i64 0), (.string ⟨#[]⟩), (.slice none 0 0), (.slice none 0 0)]) 72 rfl Tryz.underlying26 info28 rfl (by decide) (by omega) b5 bH (⟨dF, jj, jk, jl⟩ : S28) [.int .i64 dF, .string jj, .slice gi jk.length co47, .slice Ao48 jl.length co48] (fun k_ => some k_ ≠ (bG : Value).ownBlock ∧ k_ ≠ aQ ∧ k_ ≠ aA ∧ k_ ≠ aw) (fun k_ => ((fun k_ => some k_ ≠ (bG : Value).ownBlock ∧ k_ ≠ aQ ∧ k_ ≠ aA ∧ k_ ≠ aw)) k_ ∧ some k_ ≠ (b5 : Value).ownBlock) rfl rfl ?aP (fun _ hk => hk) ?aF ?aO ?aB ?aS ?aL ?_
     (case aP => exact k28_mkM _ _ _ (⟨dF, jj, jk, jl⟩ : S28) (Kd.R_mono (Kd.R_types (Kd.R_types (Kd.R_types (Kd.R_apart' (jM.out) (Kd.R_typed aK.out) (by decide)) ax.out (by decide)) bi.out (by decide)) aD.out (by decide)) (fun k_ hk => ⟨⟨hk.1.1.1.1.2, ⟨hk.1.1.2, ⟨hk.1.2, hk.2⟩⟩⟩, hk.1.1.1.2⟩)) (Kd.R_mono (jN.out) (fun k_ hk => ⟨⟨hk.1.1.1.1.2, ⟨hk.1.1.2, ⟨hk.1.2, hk.2⟩⟩⟩, hk.1.1.1.2⟩)))
     (case aB => exact p6z)
     (case aF => exact (fun k_ hk => ⟨Kd.fresh' (Kd.R_lt p44z) k_ hk, Kd.freshB (g := aQ) (o := .cells #[.int .i64 a0_0, .string a0_1, .slice A0_2 ab.length c0_2, .slice (some ad186) aa.length c0_3] 28 (0, 0)) p11z k_ hk, Kd.freshB (g := aA) (o := .cells #[.int .i64 0, .string (⟨#[]⟩ : ByteArray), .slice none 0 0, .slice none 0 0] 28 (0, 0)) p18z k_ hk, Kd.freshB (g := aw) (o := .cells #[.int .i64 a0_0, .string (a0_1.extract 0 ((ji3) : Int).toNat), bG, b5] 28 (0, 0)) p28z k_ hk⟩))
     (case aO => exact (by (with_reducible repeat (first | apply Kd.R_alloc | apply Kd.R_drewN | apply Kd.R_drew)); exact Kd.R_mono aK.out (fun _ hk => ⟨hk.1.1.1, ⟨hk.1.1.2.1, ⟨hk.1.1.2.2.1, hk.1.1.2.2.2⟩⟩⟩)))
     (case aS => exact (below_size p6z))
     (case aL => have := LMc40.out; omega)
     intro v196 w46 ho hb hg hat
     rw [← Ny195.out] at ho
     have n0_ := Aside0.mk (Kd.R_over' p44z (Kd.R_typed p107z) (by decide) hg)
     have n1_ := Aside0.mk (blk_grown (g := aQ) (o := .cells #[.int .i64 a0_0, .string a0_1, .slice A0_2 ab.length c0_2, .slice (some ad186) aa.length c0_3] 28 (0, 0)) p11z hg (Kd.R_away aK.out (fun _ hk => hk.1.1.2.1)))
     have n2_ := Aside0.mk (blk_grown (g := aA) (o := .cells #[.int .i64 0, .string (⟨#[]⟩ : ByteArray), .slice none 0 0, .slice none 0 0] 28 (0, 0)) p18z hg (Kd.R_away aK.out (fun _ hk => hk.1.1.2.2.1)))
     have n3_ := Aside0.mk (blk_grown (g := aw) (o := .cells #[.int .i64 a0_0, .string (a0_1.extract 0 ((ji3) : Int).toNat), bG, b5] 28 (0, 0)) p28z hg (Kd.R_away aK.out (fun _ hk => hk.1.1.2.2.2)))
     have n4_ := Aside0.mk (hb)
     have n5_ := Aside0.mk (ho)
     clear aH
     clear ax
     clear bi
     clear aD
     clear HB
     clear aK
     clear jM
     clear jN
     have aH := n0_
     have ax := n1_
     have bi := n2_
     have aD := n3_
     have HB := n4_
     have HO197 := n5_
     clear n0_ n1_ n2_ n3_ n4_ n5_
     clear ho hb hg hat
     obtain ⟨Ao49, co49, eo49⟩ := Kd.R_slice HO197.out
     (first | subst eo49 | (injection eo49 with f1_ f2_ f3_; have f4_ := f1_.symm; have f5_ := f3_.symm; clear f1_ f2_ f3_; subst f4_; subst f5_))
     refine hK.out _ _ ⟨(blk_cell aD.out 0).trans rfl, (blk_cell aD.out 1).trans rfl, (blk_cell aD.out 2).trans rfl, (blk_cell aD.out 3).trans rfl, (blk_cell ax.out 0).trans rfl, (blk_cell ax.out 1).trans rfl, (blk_cell ax.out 2).trans rfl, (blk_cell ax.out 3).trans rfl, ((HB.out.cell (World.block_lt_of_cell? w _ hw186_0)).trans hw186_0), ((HB.out.cell (World.block_lt_of_cell? w _ hw186_1)).trans hw186_1), ((HB.out.cell (World.block_lt_of_cell? w _ hw186_2)).trans hw186_2), ((HB.out.cell (World.block_lt_of_cell? w _ hw186_3)).trans hw186_3)⟩ (fun hHeld => ?_)
     clear hK K
     refine nzz (some 73) ?_
     refine pzz 12 (some 74) (tf 13 1) ?_
     refine last_ (i := 13) (N := none) (tf 14 0) rfl rfl (one_of HT_.out p12z) (by decide) (fun K hK => ?_)
     have hs50 : w46.cell? ⟨aw, 3, none⟩ = some (b5) := (blk_cell aD.out 3).trans rfl
     have hfs50 := blk_frozen aD.out 3
     have hns50_0 := NB178_180.out
     have hns50_1 := NB179_180.out
     have hms50_0 := NB180_178.out
     have hms50_1 := NB180_179.out
     refine skip_ (w1 := ?_) (by rfl) rfl ?_ ?_
     rotate_left
     ·go_simp
      rfl
     refine hK.out _ _ ?_
     clear hK K
     refine done_ (done_of HT_.out p12z) ?_
     try go_wp2
     go_roundg k2
     case measure => have := HJ5.out; have := HK2.out; omega
     case rel => exact ⟨(wrap64 (cE + 1)), (y195), (.slice Ao49 y195.length co49), p5z, H', ⟨by have := HJ5.out; have := HK2.out; omega⟩, ⟨by (with_reducible repeat (first | apply Kd.R_alloc | apply Kd.R_drewN | apply Kd.R_drew)); exact Kd.R_mono (Kd.R_far (p := ⟨aw, 3, none⟩) (Kd.R_types aH.out aD.out (by decide)) (fun _ hk => hk.2) (.slice Ao49 y195.length co49)) (fun _ hk => trivial)⟩, ⟨by (with_reducible repeat (first | apply Kd.R_alloc | apply Kd.R_drewN | apply Kd.R_drew)); exact Kd.R_mono (Kd.R_far (p := ⟨aw, 3, none⟩) (Kd.R_mono HO197.out (fun k_ hk => (⟨hk, hk.2.2.2⟩ : _ ∧ k_ ≠ aw))) (fun _ hk => hk.2) (.slice Ao49 y195.length co49)) (fun _ hk => ⟨hk.1.1, ⟨hk.1.2.1, ⟨hk.1.2.2.1, hk.1.2.2.2⟩⟩⟩)⟩, ⟨p64z⟩, ⟨p65z⟩, ⟨by (with_reducible repeat (first | refine blk_drewN ?_ _ | refine blk_drew ?_ | refine blk_alloc ?_ _)); refine blk_put (cs := #[.int .i64 a0_0, .string (a0_1.extract 0 ((ji3) : Int).toNat), bG, b5]) ?_ 3 _ rfl; (with_reducible repeat (first | refine blk_drewN ?_ _ | refine blk_drew ?_ | refine blk_alloc ?_ _)); exact aD.out⟩, ⟨p6z⟩⟩
end Go.Proofs.YtodnggilomanbaaGreatDoor.PAll
