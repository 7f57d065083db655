-- Written by this repo's program wip/tools/pr.py (over the kit's print) out of the translation. Not trusted: Lean checks it.
import Derived.Test.YtodnggilomanbaaGreatDoorAp
import Derived.Test.YtodnggilomanbaaGreatDoorHandStep
import Derived.Test.YtodnggilomanbaaGreatDoorGTz
set_option maxHeartbeats 8000000
set_option maxRecDepth 100000
namespace Go.Proofs.YtodnggilomanbaaGreatDoor.PAll
open Go.RowKit Go.Proofs.YtodnggilomanbaaGreatDoorW.PrintWords Go.Proofs.YtodnggilomanbaaGreatDoorW.PrintLast Go.Proofs.YtodnggilomanbaaGreatDoorW.PrintMore
attribute [local go_sem] max2_int min2_int max_two min_two max_three min_three max_four min_four   -- for this text's walks alone
set_option linter.unusedVariables false
set_option linter.unusedSimpArgs false

/-! ### aV: function 39 -/
def aV.f (l0 : List ByteArray) : Option (List ByteArray) := if ([] : List ByteArray).length + l0.length < 8796093022208 then (some (([] : List ByteArray) ++ l0)) else (none)
theorem aV.calls (A0 : Option Addr) (c0 : Nat) (l0 : List ByteArray) (r : List ByteArray) (w : World) (hr0 : Kd.C Kd.string w A0 l0.length l0) (hc0 : l0.length ≤ c0) (h : aV.f l0 = some r) :
 Calls Tryz.prog 39 #[.slice A0 l0.length c0] w fun e w' => ∃ v0_ : Value, e = .returned (v0_) ∧ Kd.R Kd.string 9 w' w.heap.size (fun _ => True) v0_ r ∧ Below w.heap.size w w' := by
 have HR0 := Aside0.mk hr0
 have HC0 := Aside0.mk hc0
 clear hr0 hc0
 have HB := Aside0.mk (Below.refl w.heap.size w)
 have H : (if ([] : List ByteArray).length + l0.length < 8796093022208 then (some (([] : List ByteArray) ++ l0)) else (none)) = some r := h
 clear h
 by_cases c2 : ([] : List ByteArray).length + l0.length < 8796093022208
 case neg =>
  rw [if_neg c2] at H
  exact absurd H (by simp)

 rw [if_pos c2] at H
 have LMc2 := Aside0.mk c2
 clear c2
 obtain ⟨y198, hy198⟩ : ∃ y_ : List ByteArray, y_ = (([] : List ByteArray) ++ l0) := ⟨_, rfl⟩
 replace H : (some y198) = some r := by first | (rw [hy198]; with_reducible exact H) | (have H2_ := (Option.bind_some _ _).symm.trans H; rw [hy198]; with_reducible exact H2_) | (have H2_ := (Option.bind_some _ _).symm.trans H; with_reducible exact H2_) | with_reducible exact H | (rw [hy198]; exact H) | exact H
 have Ny198 := Aside0.mk hy198
 clear hy198
 obtain rfl := Option.some.inj H
 go_enter Tryz.func39, Tryz.ntmps39
 go_wp2_with (first | ((with_reducible refine gate_builtin (b := .append) (xs := #[.tmp 4, .tmp 5]) rfl ?_); at_builtin; refine Kd.R_append_rows Kd.string (w0 := w) w.heap.size rfl (.tmp 4) (.tmp 5) 22 9 (.string ⟨#[]⟩) 16 rfl Tryz.underlying22 info9 rfl (by decide) (by omega) (.slice none 0 0) ([] : List ByteArray) l0 _ _ _ (fun _ => True) (fun _ => False) rfl rfl ?aO ?aR (fun _ _ h => h) (fun _ h => h.elim) ?aF ?aB ?aS ?aL ?_; (case aR => exact p41z); (case aB => exact p0z); (case aF => exact (fun _ _ => trivial)); (case aO => exact ((Kd.R_nil _ _ _ _ (fun _ => True)))); (case aS => exact (below_size p0z)); (case aL => have := LMc2.out; omega); intro v199 w3 ho hb hg hat; rw [← Ny198.out] at ho; have z_ := asi2 (hb) (ho); clear HB; obtain ⟨HB, HO200⟩ := z_; clear ho hb hg hat))
 go_ret
 exact ⟨_, p7z, q0z HO200.out, p0z⟩
/-! ### ag: function 11 -/
mutual
def ag.l0 : Nat → Int → Int → ByteArray → List ByteArray → List (S37) → Int → ByteArray → List ByteArray → List (S37) → Option (Int × ByteArray × List ByteArray × (List (S37)))
  | 0, _, _, _, _, _, _, _, _, _ => none
  | k + 1, x4, x202000, x202001, x202002, dP, iJ, iK, iL, fL => if x4 < (dP.length : Int) then (if 0 ≤ x4 then ((ag.f k ((rd_T37 dP x4).f0) ((rd_T37 dP x4).f1) ((rd_T37 dP x4).f2) ((rd_T37 dP x4).f3)).bind fun iM => (if fL.length < 1954687338268 then (ag.l0 k (wrap64 (x4 + 1)) x202000 x202001 x202002 dP iJ iK iL (fL ++ [(⟨iM.1, iM.2.1, iM.2.2.1, iM.2.2.2⟩ : S37)])) else (none))) else (none)) else (some (iJ, iK, iL, fL))
def ag.f : Nat → Int → ByteArray → List ByteArray → List (S37) → Option (Int × ByteArray × List ByteArray × (List (S37)))
  | 0, _, _, _, _ => none
  | k + 1, a0_0, a0_1, ab, aa => (aV.f ab).bind fun t203 => (ag.l0 k 0 a0_0 a0_1 ab aa a0_0 a0_1 t203 ([] : List (S37)))
end
def ag.T1 : Bool × List (List Nat × List Nat) := (true, [([], []), ([0], [0]), ([], []), ([2], [2]), ([], []), ([4], [4]), ([5], [5]), ([1, 3, 6], [1, 3, 6]), ([], []), ([8, 7, 6, 0, 1, 2, 3, 4, 5, 6, 7, 8], [7, 8])])
def ag.B1 : List Nat := [0, 1, 0, 4, 0, 16, 48, 127, 0, 511]
theorem ag.tab1 : rtab .any (opsOf Tryz.f11 1) = ag.T1 := p12z
theorem ag.bits1 : waitsOk ag.T1.2 ag.B1 = true := p12z
def ag.T5 : Bool × List (List Nat × List Nat) := (true, [([], []), ([0], [0]), ([], []), ([2], [2]), ([], []), ([3, 4], [3, 4]), ([5], [5]), ([6], [6]), ([7], [7]), ([1, 8, 7], [1, 8]), ([0, 1, 2, 3, 4, 5, 6, 7, 8, 9], []), ([10, 9, 9, 0, 1, 2, 3, 4, 5, 6, 7, 8, 9], [9, 10])])
def ag.B5 : List Nat := [0, 1, 0, 4, 0, 28, 60, 124, 252, 511, 1023, 2047]
theorem ag.tab5 : rtab .any (opsOf Tryz.f11 5) = ag.T5 := p12z
theorem ag.bits5 : waitsOk ag.T5.2 ag.B5 = true := p12z
theorem ag.calls (k : Nat) : ∀ (a0_0 : Int) (a0_1 : ByteArray) (A0_2 : Option Addr) (c0_2 : Nat) (ab : List ByteArray) (A0_3 : Option Addr) (c0_3 : Nat) (aa : List (S37)) (r1 : Int) (r2 : ByteArray) (r3 : List ByteArray) (r4 : List (S37)) (w : World) (hr0_2 : Kd.C Kd.string w A0_2 ab.length ab) (hc0_2 : ab.length ≤ c0_2) (hr0_3 : Kd.C k37 w A0_3 aa.length aa) (hc0_3 : aa.length ≤ c0_3) (h : ag.f k a0_0 a0_1 ab aa = some (r1, r2, r3, r4)),
 Calls Tryz.prog 11 #[.agg #[.int .i64 a0_0, .string a0_1, .slice A0_2 ab.length c0_2, .slice A0_3 aa.length c0_3]] w fun e w' => ∃ v2_ v3_ : Value, e = .returned (.agg #[.int .i64 r1, .string r2, v2_, v3_]) ∧ Kd.R Kd.string 9 w' w.heap.size (fun _ => True) v2_ r3 ∧ Kd.R k37 37 w' w.heap.size (fun k_ => some k_ ≠ (v2_ : Value).ownBlock) v3_ r4 ∧ Below w.heap.size w w' := by
 induction k using Nat.strongRecOn with
 | _ k ih =>
 intro a0_0 a0_1 A0_2 c0_2 ab A0_3 c0_3 aa r1 r2 r3 r4 w hr0_2 hc0_2 hr0_3 hc0_3 h
 cases k with
 | zero => exact absurd h (by simp [ag.f])
 | succ k =>
 simp only [ag.f] at h
 have hu37 := Tryz.underlying37
 have cU := Aside0.mk hr0_2
 have bZ := Aside0.mk hc0_2
 clear hr0_2 hc0_2
 have cP := Aside0.mk hr0_3
 have cn := Aside0.mk hc0_3
 clear hr0_3 hc0_3
 have HB := Aside0.mk (Below.refl w.heap.size w)
 have H : ((aV.f ab).bind fun t203 => (ag.l0 k 0 a0_0 a0_1 ab aa a0_0 a0_1 t203 ([] : List (S37)))) = some (r1, r2, r3, r4) := h
 clear h
 replace H := Option.bind_eq_some_iff.mp H
 obtain ⟨t203, A20, H⟩ := H
 replace H : (ag.l0 k 0 a0_0 a0_1 ab aa a0_0 a0_1 t203 ([] : List (S37))) = some (r1, r2, r3, r4) := H
 have A2 := Aside0.mk A20
 clear A20
 have H' := Aside0.mk H
 clear H
 go_enter Tryz.func11, Tryz.ntmps11
 try go_wp2_with (first | ((with_reducible refine gate_dst (N := 1) rfl ?_); refine box_event ?hg (N := 1) ?hd (cs := #[.int .i64 a0_0, .string a0_1, .slice A0_2 ab.length c0_2, .slice A0_3 aa.length c0_3]) (t := 37) ?hr ?_; (case hd => rfl); (case hg => rfl); (case hr => exact p9z); intro bC hg w3 hbox hb; have z_ := asi4 (below_step p0z hb) (hbox) ((p21z : w.heap.size ≤ bC)) ((p21z : w.heap.size ≤ bC)); clear HB; obtain ⟨HB, aY, GW201, jv⟩ := z_; clear hb hbox hg) | ((with_reducible refine gate_dst (N := 2) rfl ?_); refine box_event ?hg (N := 2) ?hd (cs := #[.int .i64 0, .string (⟨#[]⟩ : ByteArray), .slice none 0 0, .slice none 0 0]) (t := 37) ?hr ?_; (case hd => rfl); (case hg => rfl); (case hr => exact p9z); intro bL hg w4 hbox hb; have z_ := asi7 (blk_below (g := bC) (o := .cells #[.int .i64 a0_0, .string a0_1, .slice A0_2 ab.length c0_2, .slice A0_3 aa.length c0_3] 37 (0, 0)) p20z hb) (below_step p85z hb) (hbox) ((by rw [hg]; exact (below_size p85z) : w.heap.size ≤ bL)) ((by rw [hg]; exact (below_size p85z) : w.heap.size ≤ bL)) ((p82z : bC ≠ bL)) ((p83z : bL ≠ bC)); clear aY HB; obtain ⟨aY, HB, cd, GW202, GE202, NB201_202, NB202_201⟩ := z_; clear hb hbox hg))
 have n0_ := Aside0.mk (blk_drew aY.out)
 have n1_ := Aside0.mk (blk_drew cd.out)
 have n2_ := Aside0.mk (below_drew1 HB.out)
 clear aY
 clear cd
 clear HB
 have aY := n0_
 have cd := n1_
 have HB := n2_
 clear n0_ n1_ n2_
 refine start_ (n := 10) (S := fun w' => w'.cell? ⟨bC, 0, none⟩ = some (.int .i64 a0_0) ∧ w'.cell? ⟨bC, 1, none⟩ = some (.string a0_1) ∧ w'.cell? ⟨bC, 2, none⟩ = some (.slice A0_2 ab.length c0_2) ∧ w'.cell? ⟨bC, 3, none⟩ = some (.slice A0_3 aa.length c0_3)) (ds := []) (tf 0 10) p12z rfl rfl ⟨(blk_cell aY.out 0).trans rfl, (blk_cell aY.out 1).trans rfl, (blk_cell aY.out 2).trans rfl, (blk_cell aY.out 3).trans rfl⟩ (fun hHeld => ?_); refine with_tabW ag.tab1 ag.bits1 (fun HT_ HW_ => ?_)
 generalize w4.drew = w5 at aY cd HB hHeld ⊢
 refine pzz 0 (some 5) (tf 1 9) ?_
 refine pzz 2 (some 7) (tfs true [1, 1, 1, 7]) ?_
 refine pzz 4 (some 9) (tfs true [1, 1, 1, 1, 1, 5]) ?_
 refine tzz 1 (some 6) (tfs true [3, 1, 1, 5]) ?_
 refine tzz 3 (some 8) (tf 5 5) ?_
 refine tzz 5 (some 10) (tf 6 4) ?_
 refine join_ (σ := Value × Nat) 1 (tf 9 1) (fun s_ => [(11, s_.1), (3, .pointer (some ⟨s_.2, 0, none⟩)), (12, .agg #[.int .i64 a0_0, .string a0_1, s_.1, .slice none 0 0])]) (fun s_ w' => (w'.cell? ⟨bC, 0, none⟩ = some (.int .i64 a0_0) ∧ w'.cell? ⟨bC, 1, none⟩ = some (.string a0_1) ∧ w'.cell? ⟨bC, 2, none⟩ = some (.slice A0_2 ab.length c0_2) ∧ w'.cell? ⟨bC, 3, none⟩ = some (.slice A0_3 aa.length c0_3)) ∧ (Kd.R Kd.string 9 w' w.heap.size (fun _ => True) s_.1 t203) ∧ (w'.heap[bC]? = some (.cells #[.int .i64 a0_0, .string a0_1, .slice A0_2 ab.length c0_2, .slice A0_3 aa.length c0_3] 37 (0, 0))) ∧ (w'.heap[bL]? = some (.cells #[.int .i64 0, .string (⟨#[]⟩ : ByteArray), .slice none 0 0, .slice none 0 0] 37 (0, 0))) ∧ (w'.heap[s_.2]? = some (.cells #[.int .i64 0, .string (⟨#[]⟩ : ByteArray), .slice none 0 0, .slice none 0 0] 37 (0, 0))) ∧ (w.heap.size ≤ s_.2) ∧ (w.heap.size ≤ s_.2) ∧ (bC ≠ s_.2) ∧ (s_.2 ≠ bC) ∧ (bL ≠ s_.2) ∧ (s_.2 ≠ bL) ∧ (Below w.heap.size w w')) ?_ ?_
 rotate_left
 ·intro hCont
  refine two_ (i := 6) (j := 8) (Ni := some 11) (Nj := some 3) (tf 7 3) (tfs true [6, 2, 1, 1]) rfl rfl rfl rfl (two_of HT_.out p12z) (by decide) (by decide) (fun K hK => ?_) (fun K hK => ?_)
  ·skip
   refine goes_ Tryz.func39 p12z rfl #[.slice A0_2 ab.length c0_2] (by rfl) rfl rfl p3z ?_
   with_reducible refine (aV.calls _ _ ab t203 _ ?side1 ?side2 A2.out).mono ?_
   (case side1 => exact p8z)
   (case side2 => exact bZ.out)
   rintro e w6 ⟨v204, rfl, ho0, hb⟩
   refine ⟨_, rfl, ?_⟩
   have n0_ := Aside0.mk (Kd.R_lower ho0 (below_size p30z))
   have n1_ := Aside0.mk (blk_below (g := bC) (o := .cells #[.int .i64 a0_0, .string a0_1, .slice A0_2 ab.length c0_2, .slice A0_3 aa.length c0_3] 37 (0, 0)) p20z hb)
   have n2_ := Aside0.mk (blk_below (g := bL) (o := .cells #[.int .i64 0, .string (⟨#[]⟩ : ByteArray), .slice none 0 0, .slice none 0 0] 37 (0, 0)) p24z hb)
   have n3_ := Aside0.mk (below_step p30z hb)
   clear aY
   clear cd
   clear HB
   have eb := n0_
   have aY := n1_
   have cd := n2_
   have HB := n3_
   clear n0_ n1_ n2_ n3_
   (try clear hb)
   (try clear hb2)
   (try clear hk)
   (try clear hi)
   (try clear ho0)
   obtain ⟨Ao7, co7, eo7⟩ := Kd.R_slice eb.out
   (first | subst eo7 | (injection eo7 with f1_ f2_ f3_; have f4_ := f1_.symm; have f5_ := f3_.symm; clear f1_ f2_ f3_; subst f4_; subst f5_))
   refine hK.out _ _ ⟨(blk_cell aY.out 0).trans rfl, (blk_cell aY.out 1).trans rfl, (blk_cell aY.out 2).trans rfl, (blk_cell aY.out 3).trans rfl⟩ (fun hHeld => ?_)
   clear hK K
   refine nzz (some 11) ?_
   refine pzz 7 (some 12) (tf 8 2) ?_
   refine one_ (i := 8) (N := some 3) (tf 9 1) rfl rfl (one_of HT_.out p12z) (by decide) (fun K hK => ?_)
   refine box_step ?hg (N := 3) ?hd (cs := #[.int .i64 0, .string (⟨#[]⟩ : ByteArray), .slice none 0 0, .slice none 0 0]) (t := 37) ?hr ?_; (case hd => rfl); (case hg => rfl); (case hr => exact p9z)
   intro b4 hg w8 hbox hb
   have n0_ := Aside0.mk (Kd.R_below p112z hb)
   have n1_ := Aside0.mk (blk_below (g := bC) (o := .cells #[.int .i64 a0_0, .string a0_1, .slice A0_2 ab.length c0_2, .slice A0_3 aa.length c0_3] 37 (0, 0)) p20z hb)
   have n2_ := Aside0.mk (blk_below (g := bL) (o := .cells #[.int .i64 0, .string (⟨#[]⟩ : ByteArray), .slice none 0 0, .slice none 0 0] 37 (0, 0)) p24z hb)
   have n3_ := Aside0.mk (below_step p30z hb)
   have n4_ := Aside0.mk (hbox)
   have n5_ := Aside0.mk ((by rw [hg]; exact (below_size p30z) : w.heap.size ≤ b4))
   have n6_ := Aside0.mk ((by rw [hg]; exact (below_size p30z) : w.heap.size ≤ b4))
   have n7_ := Aside0.mk ((p82z : bC ≠ b4))
   have n8_ := Aside0.mk ((p83z : b4 ≠ bC))
   have n9_ := Aside0.mk ((p124z : bL ≠ b4))
   have e8 := Aside0.mk ((p125z : b4 ≠ bL))
   clear eb
   clear aY
   clear cd
   clear HB
   have eb := n0_
   have aY := n1_
   have cd := n2_
   have HB := n3_
   have bz := n4_
   have GW206 := n5_
   have gx := n6_
   have NB201_206 := n7_
   have NB206_201 := n8_
   have NB202_206 := n9_
   have NB206_202 := e8
   clear n0_ n1_ n2_ n3_ n4_ n5_ n6_ n7_ n8_ n9_ e8
   clear hb hbox hg
   refine hK.out _ _ ⟨(blk_cell aY.out 0).trans rfl, (blk_cell aY.out 1).trans rfl, (blk_cell aY.out 2).trans rfl, (blk_cell aY.out 3).trans rfl⟩ (fun hHeld => ?_)
   clear hK K
   refine nzz (some 3) ?_
   exact norm_ (by simp only [putAll, Act.put, List.setIfInBounds_toArray, List.set_cons_zero, List.set_cons_succ]) (hCont (.slice Ao7 t203.length co7, b4) _ ⟨hHeld, p112z, p20z, p24z, p50z, GW206.out, gx.out, NB201_206.out, NB206_201.out, NB202_206.out, NB206_202.out, p14z⟩)
  ·skip
   refine box_step ?hg (N := 3) ?hd (cs := #[.int .i64 0, .string (⟨#[]⟩ : ByteArray), .slice none 0 0, .slice none 0 0]) (t := 37) ?hr ?_; (case hd => rfl); (case hg => rfl); (case hr => exact p9z)
   intro b4 hg w6 hbox hb
   have n0_ := Aside0.mk (blk_below (g := bC) (o := .cells #[.int .i64 a0_0, .string a0_1, .slice A0_2 ab.length c0_2, .slice A0_3 aa.length c0_3] 37 (0, 0)) p20z hb)
   have n1_ := Aside0.mk (blk_below (g := bL) (o := .cells #[.int .i64 0, .string (⟨#[]⟩ : ByteArray), .slice none 0 0, .slice none 0 0] 37 (0, 0)) p24z hb)
   have n2_ := Aside0.mk (below_step p30z hb)
   have n3_ := Aside0.mk (hbox)
   have n4_ := Aside0.mk ((by rw [hg]; exact (below_size p30z) : w.heap.size ≤ b4))
   have n5_ := Aside0.mk ((by rw [hg]; exact (below_size p30z) : w.heap.size ≤ b4))
   have n6_ := Aside0.mk ((p82z : bC ≠ b4))
   have n7_ := Aside0.mk ((p83z : b4 ≠ bC))
   have n8_ := Aside0.mk ((p124z : bL ≠ b4))
   have n9_ := Aside0.mk ((p125z : b4 ≠ bL))
   clear aY
   clear cd
   clear HB
   have aY := n0_
   have cd := n1_
   have HB := n2_
   have bz := n3_
   have GW206 := n4_
   have gx := n5_
   have NB201_206 := n6_
   have NB206_201 := n7_
   have NB202_206 := n8_
   have NB206_202 := n9_
   clear n0_ n1_ n2_ n3_ n4_ n5_ n6_ n7_ n8_ n9_
   clear hb hbox hg
   refine hK.out _ _ ⟨(blk_cell aY.out 0).trans rfl, (blk_cell aY.out 1).trans rfl, (blk_cell aY.out 2).trans rfl, (blk_cell aY.out 3).trans rfl⟩ (fun hHeld => ?_)
   clear hK K
   refine nzz (some 3) ?_
   refine ozz 6 (some 11) (tfs true [7, 1, 1, 1]) #[.slice A0_2 ab.length c0_2] Tryz.func39 (fun K hK => ?_)
   with_reducible refine (aV.calls _ _ ab t203 _ ?side1 ?side2 A2.out).mono ?_
   (case side1 => exact p8z)
   (case side2 => exact bZ.out)
   rintro e w7 ⟨v204, rfl, ho0, hb⟩
   refine ⟨_, rfl, ?_⟩
   have n0_ := Aside0.mk (Kd.R_lower ho0 (below_size p14z))
   have n1_ := Aside0.mk (blk_below (g := bC) (o := .cells #[.int .i64 a0_0, .string a0_1, .slice A0_2 ab.length c0_2, .slice A0_3 aa.length c0_3] 37 (0, 0)) p20z hb)
   have n2_ := Aside0.mk (blk_below (g := bL) (o := .cells #[.int .i64 0, .string (⟨#[]⟩ : ByteArray), .slice none 0 0, .slice none 0 0] 37 (0, 0)) p24z hb)
   have n3_ := Aside0.mk (blk_below (g := b4) (o := .cells #[.int .i64 0, .string (⟨#[]⟩ : ByteArray), .slice none 0 0, .slice none 0 0] 37 (0, 0)) p50z hb)
   have n4_ := Aside0.mk (below_step p14z hb)
   clear aY
   clear cd
   clear bz
   clear HB
   have eb := n0_
   have aY := n1_
   have cd := n2_
   have bz := n3_
   have HB := n4_
   clear n0_ n1_ n2_ n3_ n4_
   (try clear hb)
   (try clear hb2)
   (try clear hk)
   (try clear hi)
   (try clear ho0)
   obtain ⟨Ao8, co8, eo8⟩ := Kd.R_slice eb.out
   (first | subst eo8 | (injection eo8 with f1_ f2_ f3_; have f4_ := f1_.symm; have f5_ := f3_.symm; clear f1_ f2_ f3_; subst f4_; subst f5_))
   refine hK.out _ _ ⟨(blk_cell aY.out 0).trans rfl, (blk_cell aY.out 1).trans rfl, (blk_cell aY.out 2).trans rfl, (blk_cell aY.out 3).trans rfl⟩ (fun hHeld => ?_)
   clear hK K
   refine nzz (some 11) ?_
   refine pzz 7 (some 12) (tf 9 1) ?_
   exact norm_ (by simp only [putAll, Act.put, List.setIfInBounds_toArray, List.set_cons_zero, List.set_cons_succ]) (hCont (.slice Ao8 t203.length co8, b4) _ ⟨hHeld, p112z, p20z, p24z, p50z, GW206.out, gx.out, NB201_206.out, NB206_201.out, NB202_206.out, NB206_202.out, p14z⟩)
 rintro ⟨v204, b4⟩ w9 ⟨hS_, h0_, h1_, h2_, h3_, h4_, h5_, h6_, h7_, h8_, h9_, h10_⟩
 have n0_ : Aside0 (Kd.R Kd.string 9 w9 w.heap.size (fun _ => True) v204 t203) := ⟨h0_⟩
 have n1_ : Aside0 (w9.heap[bC]? = some (.cells #[.int .i64 a0_0, .string a0_1, .slice A0_2 ab.length c0_2, .slice A0_3 aa.length c0_3] 37 (0, 0))) := ⟨h1_⟩
 have n2_ : Aside0 (w9.heap[bL]? = some (.cells #[.int .i64 0, .string (⟨#[]⟩ : ByteArray), .slice none 0 0, .slice none 0 0] 37 (0, 0))) := ⟨h2_⟩
 have n3_ : Aside0 (w9.heap[b4]? = some (.cells #[.int .i64 0, .string (⟨#[]⟩ : ByteArray), .slice none 0 0, .slice none 0 0] 37 (0, 0))) := ⟨h3_⟩
 have n4_ : Aside0 (w.heap.size ≤ b4) := ⟨h4_⟩
 have n5_ : Aside0 (w.heap.size ≤ b4) := ⟨h5_⟩
 have n6_ : Aside0 (bC ≠ b4) := ⟨h6_⟩
 have n7_ : Aside0 (b4 ≠ bC) := ⟨h7_⟩
 have n8_ : Aside0 (bL ≠ b4) := ⟨h8_⟩
 have n9_ : Aside0 (b4 ≠ bL) := ⟨h9_⟩
 have e8 : Aside0 (Below w.heap.size w w9) := ⟨h10_⟩
 clear aY
 clear cd
 clear HB
 clear h0_ h1_ h2_ h3_ h4_ h5_ h6_ h7_ h8_ h9_ h10_
 have eb := n0_
 have aY := n1_
 have cd := n2_
 have bz := n3_
 have GW206 := n4_
 have gx := n5_
 have NB201_206 := n6_
 have NB206_201 := n7_
 have NB202_206 := n8_
 have NB206_202 := n9_
 have HB := e8
 clear n0_ n1_ n2_ n3_ n4_ n5_ n6_ n7_ n8_ n9_ e8
 have hHeld : w9.cell? ⟨bC, 0, none⟩ = some (.int .i64 a0_0) ∧ w9.cell? ⟨bC, 1, none⟩ = some (.string a0_1) ∧ w9.cell? ⟨bC, 2, none⟩ = some (.slice A0_2 ab.length c0_2) ∧ w9.cell? ⟨bC, 3, none⟩ = some (.slice A0_3 aa.length c0_3) := hS_
 obtain ⟨dl, co10, eo10⟩ := Kd.R_slice eb.out
 (first | subst eo10 | (injection eo10 with f1_ f2_ f3_; have f4_ := f1_.symm; have f5_ := f3_.symm; clear f1_ f2_ f3_; subst f4_; subst f5_))
 refine norm_ (a' := ?_) ?_ ?_
 rotate_left
 ·exact by simp only [putAll, Act.put, List.setIfInBounds_toArray, List.set_cons_zero, List.set_cons_succ]; rfl
 refine one_ (i := 9) (N := none) (tf 10 0) rfl rfl (one_of HT_.out p12z) (by decide) (fun K hK => ?_)
 have hs11 : w9.cell? ⟨b4, 0, none⟩ = some (.int .i64 0) := (blk_cell bz.out 0).trans rfl
 have hfs11 := blk_frozen bz.out 0
 have hns11_0 := NB201_206.out
 have hns11_1 := NB202_206.out
 have hms11_0 := NB206_201.out
 have hms11_1 := NB206_202.out
 have hs12 : w9.cell? ⟨b4, 1, none⟩ = some (.string (⟨#[]⟩ : ByteArray)) := (blk_cell bz.out 1).trans rfl
 have hfs12 := blk_frozen bz.out 1
 have hns12_0 := NB201_206.out
 have hns12_1 := NB202_206.out
 have hms12_0 := NB206_201.out
 have hms12_1 := NB206_202.out
 have hs13 : w9.cell? ⟨b4, 2, none⟩ = some (.slice none 0 0) := (blk_cell bz.out 2).trans rfl
 have hfs13 := blk_frozen bz.out 2
 have hns13_0 := NB201_206.out
 have hns13_1 := NB202_206.out
 have hms13_0 := NB206_201.out
 have hms13_1 := NB206_202.out
 have hs14 : w9.cell? ⟨b4, 3, none⟩ = some (.slice none 0 0) := (blk_cell bz.out 3).trans rfl
 have hfs14 := blk_frozen bz.out 3
 have hns14_0 := NB201_206.out
 have hns14_1 := NB202_206.out
 have hms14_0 := NB206_201.out
 have hms14_1 := NB206_202.out
 refine skip_ (w1 := ?_) (by rfl) rfl ?_ ?_
 rotate_left
 ·go_simp
  rfl
 refine hK.out _ _ ⟨((cell_far (p := ⟨b4, _, none⟩) NB201_206.out _).trans (((cell_far (p := ⟨b4, _, none⟩) NB201_206.out _).trans (((cell_far (p := ⟨b4, _, none⟩) NB201_206.out _).trans (((cell_far (p := ⟨b4, _, none⟩) NB201_206.out _).trans (hHeld.1)))))))), ((cell_far (p := ⟨b4, _, none⟩) NB201_206.out _).trans (((cell_far (p := ⟨b4, _, none⟩) NB201_206.out _).trans (((cell_far (p := ⟨b4, _, none⟩) NB201_206.out _).trans (((cell_far (p := ⟨b4, _, none⟩) NB201_206.out _).trans (hHeld.2.1)))))))), ((cell_far (p := ⟨b4, _, none⟩) NB201_206.out _).trans (((cell_far (p := ⟨b4, _, none⟩) NB201_206.out _).trans (((cell_far (p := ⟨b4, _, none⟩) NB201_206.out _).trans (((cell_far (p := ⟨b4, _, none⟩) NB201_206.out _).trans (hHeld.2.2.1)))))))), ((cell_far (p := ⟨b4, _, none⟩) NB201_206.out _).trans (((cell_far (p := ⟨b4, _, none⟩) NB201_206.out _).trans (((cell_far (p := ⟨b4, _, none⟩) NB201_206.out _).trans (((cell_far (p := ⟨b4, _, none⟩) NB201_206.out _).trans (hHeld.2.2.2))))))))⟩ (fun hHeld => ?_)
 clear hK K
 refine done_ (done_of HT_.out p12z) ?_
 try go_wp2
 go_loopg [4] k (fun kq v4 w' => ∃ (aj : Int) (cp : List (S37)) (cR : Value), v4 = .int .i64 aj ∧ Aside0 (ag.l0 kq aj a0_0 a0_1 ab aa a0_0 a0_1 t203 cp = some (r1, r2, r3, r4)) ∧ Aside0 (kq ≤ k) ∧ Aside0 (Kd.R Kd.string 9 w' w.heap.size (fun _ => True) (.slice dl t203.length co10) t203) ∧ Aside0 (Kd.R k37 37 w' w.heap.size (fun k_ => some k_ ≠ ((.slice dl t203.length co10) : Value).ownBlock ∧ k_ ≠ bC ∧ k_ ≠ bL ∧ k_ ≠ b4) cR cp) ∧ Aside0 (w'.heap[bC]? = some (.cells #[.int .i64 a0_0, .string a0_1, (.slice A0_2 ab.length c0_2), (.slice A0_3 aa.length c0_3)] 37 (0, 0))) ∧ Aside0 (w'.heap[bL]? = some (.cells #[.int .i64 0, .string (⟨#[]⟩ : ByteArray), (.slice none 0 0), (.slice none 0 0)] 37 (0, 0))) ∧ Aside0 (w'.heap[b4]? = some (.cells #[.int .i64 a0_0, .string a0_1, (.slice dl t203.length co10), cR] 37 (0, 0))) ∧ Aside0 (Below w.heap.size w w'))
 case atStart => exact ⟨(0), (([] : List (S37))), (.slice none 0 0), p5z, H', ⟨Nat.le_refl _⟩, ⟨by (with_reducible repeat (first | apply Kd.R_alloc | apply Kd.R_drewN | apply Kd.R_drew)); exact Kd.R_mono (Kd.R_far (p := ⟨b4, 3, none⟩) (Kd.R_far (p := ⟨b4, 2, none⟩) (Kd.R_far (p := ⟨b4, 1, none⟩) (Kd.R_far (p := ⟨b4, 0, none⟩) (Kd.R_types eb.out bz.out (by decide)) (fun _ hk => hk.2) (.int .i64 a0_0)) (fun _ hk => hk.2) (.string a0_1)) (fun _ hk => hk.2) (.slice dl t203.length co10)) (fun _ hk => hk.2) (.slice none 0 0)) (fun _ hk => trivial)⟩, ⟨p34z⟩, ⟨by (with_reducible repeat (first | refine blk_drewN ?_ _ | refine blk_drew ?_ | refine blk_alloc ?_ _)); refine blk_far ?_ NB201_206.out _; (with_reducible repeat (first | refine blk_drewN ?_ _ | refine blk_drew ?_ | refine blk_alloc ?_ _)); refine blk_far ?_ NB201_206.out _; (with_reducible repeat (first | refine blk_drewN ?_ _ | refine blk_drew ?_ | refine blk_alloc ?_ _)); refine blk_far ?_ NB201_206.out _; (with_reducible repeat (first | refine blk_drewN ?_ _ | refine blk_drew ?_ | refine blk_alloc ?_ _)); refine blk_far ?_ NB201_206.out _; (with_reducible repeat (first | refine blk_drewN ?_ _ | refine blk_drew ?_ | refine blk_alloc ?_ _)); exact aY.out⟩, ⟨by (with_reducible repeat (first | refine blk_drewN ?_ _ | refine blk_drew ?_ | refine blk_alloc ?_ _)); refine blk_far ?_ NB202_206.out _; (with_reducible repeat (first | refine blk_drewN ?_ _ | refine blk_drew ?_ | refine blk_alloc ?_ _)); refine blk_far ?_ NB202_206.out _; (with_reducible repeat (first | refine blk_drewN ?_ _ | refine blk_drew ?_ | refine blk_alloc ?_ _)); refine blk_far ?_ NB202_206.out _; (with_reducible repeat (first | refine blk_drewN ?_ _ | refine blk_drew ?_ | refine blk_alloc ?_ _)); refine blk_far ?_ NB202_206.out _; (with_reducible repeat (first | refine blk_drewN ?_ _ | refine blk_drew ?_ | refine blk_alloc ?_ _)); exact cd.out⟩, ⟨q2z bz.out⟩, ⟨p14z⟩⟩
 case round =>
  clear H'
  obtain ⟨aj, cp, cR, rfl, HA, HK1, cq, bQ, aY, cd, bz, HB⟩ := hrel
  cases gk with
  | zero => exact absurd HA.out (by simp [ag.l0])
  | succ k1 =>
   have H := HA.out
   clear HA
   simp only [ag.l0] at H
   by_cases c15 : aj < (aa.length : Int)
   case neg =>
    rw [if_neg c15] at H
    have dA : decide (aj < (aa.length : Int)) = false := decide_eq_false c15
    clear c15
    simp only [Option.some.injEq, Prod.mk.injEq] at H
    obtain ⟨rfl, rfl, rfl, rfl⟩ := H
    have hnb29 := NB201_202.out
    have hnc29 := NB202_201.out
    have hnb30 := NB201_206.out
    have hnc30 := NB206_201.out
    obtain ⟨hcz31_0, hcz31_1, hcz31_2, hcz31_3, hfz31_0, hfz31_1, hfz31_2, hfz31_3⟩ := cells4 aY.out
    have hnb32 := NB206_202.out
    have hnc32 := NB202_206.out
    obtain ⟨hcz33_0, hcz33_1, hcz33_2, hcz33_3, hfz33_0, hfz33_1, hfz33_2, hfz33_3⟩ := cells4 bz.out
    obtain ⟨hcz34_0, hcz34_1, hcz34_2, hcz34_3, hfz34_0, hfz34_1, hfz34_2, hfz34_3⟩ := cells4 cd.out
    obtain ⟨i6, co35, eo35⟩ := Kd.R_slice bQ.out
    subst eo35
    go_wp2
    refine bodyPost_ret (results_cell_row rfl _ _ bL 37 #[.int .i64 a0_0, .string a0_1, .slice dl t203.length co10, .slice i6 cp.length co35] (0, 0) _ rfl (q2z cd.out) Tryz.underlying37 rfl p12z) rfl ?_
    exact ⟨_, _, p7z, by (with_reducible repeat (first | apply Kd.R_alloc | apply Kd.R_drewN | apply Kd.R_drew)); exact Kd.R_mono (Kd.R_far (p := ⟨bL, 3, none⟩) (Kd.R_far (p := ⟨bL, 2, none⟩) (Kd.R_far (p := ⟨bL, 1, none⟩) (Kd.R_far (p := ⟨bL, 0, none⟩) (Kd.R_types cq.out cd.out (by decide)) (fun _ hk => hk.2) (.int .i64 a0_0)) (fun _ hk => hk.2) (.string a0_1)) (fun _ hk => hk.2) (.slice dl t203.length co10)) (fun _ hk => hk.2) (.slice i6 cp.length co35)) (fun _ hk => trivial), by (with_reducible repeat (first | apply Kd.R_alloc | apply Kd.R_drewN | apply Kd.R_drew)); exact Kd.R_mono (Kd.R_far (p := ⟨bL, 3, none⟩) (Kd.R_far (p := ⟨bL, 2, none⟩) (Kd.R_far (p := ⟨bL, 1, none⟩) (Kd.R_far (p := ⟨bL, 0, none⟩) (Kd.R_mono bQ.out (fun k_ hk => (⟨hk, hk.2.2.1⟩ : _ ∧ k_ ≠ bL))) (fun _ hk => hk.2) (.int .i64 a0_0)) (fun _ hk => hk.2) (.string a0_1)) (fun _ hk => hk.2) (.slice dl t203.length co10)) (fun _ hk => hk.2) (.slice i6 cp.length co35)) (fun _ hk => hk.1.1), p14z⟩
   rw [if_pos c15] at H
   have dA : decide (aj < (aa.length : Int)) = true := decide_eq_true c15
   clear c15
   by_cases c16 : 0 ≤ aj
   case neg =>
    rw [if_neg c16] at H
    exact absurd H (by simp)
   rw [if_pos c16] at H
   have fx : decide (0 ≤ aj) = true := decide_eq_true c16
   clear c16
   replace H := Option.bind_eq_some_iff.mp H
   obtain ⟨⟨t208, jc, jd, je⟩, A170, H⟩ := H
   replace H : (if cp.length < 1954687338268 then (ag.l0 k1 (wrap64 (aj + 1)) a0_0 a0_1 ab aa a0_0 a0_1 t203 (cp ++ [(⟨t208, jc, jd, je⟩ : S37)])) else (none)) = some (r1, r2, r3, r4) := H
   have A17 := Aside0.mk A170
   clear A170
   by_cases c18 : cp.length < 1954687338268
   case neg =>
    rw [if_neg c18] at H
    exact absurd H (by simp)
   rw [if_pos c18] at H
   have LMc18 := Aside0.mk c18
   clear c18
   obtain ⟨y216, hy216⟩ : ∃ y_ : List (S37), y_ = (cp ++ [(⟨t208, jc, jd, je⟩ : S37)]) := ⟨_, rfl⟩
   replace H : (ag.l0 k1 (wrap64 (aj + 1)) a0_0 a0_1 ab aa a0_0 a0_1 t203 y216) = some (r1, r2, r3, r4) := by first | (rw [hy216]; with_reducible exact H) | (have H2_ := (Option.bind_some _ _).symm.trans H; rw [hy216]; with_reducible exact H2_) | (have H2_ := (Option.bind_some _ _).symm.trans H; with_reducible exact H2_) | with_reducible exact H | (rw [hy216]; exact H) | exact H
   have Ny216 := Aside0.mk hy216
   clear hy216
   have H' := Aside0.mk H
   clear H
   have hnb19 := NB201_202.out
   have hnc19 := NB202_201.out
   have hnb20 := NB201_206.out
   have hnc20 := NB206_201.out
   obtain ⟨hcz21_0, hcz21_1, hcz21_2, hcz21_3, hfz21_0, hfz21_1, hfz21_2, hfz21_3⟩ := cells4 aY.out
   try go_wp2
   have n0_ := Aside0.mk (Kd.R_drew cq.out)
   have n1_ := Aside0.mk (Kd.R_drew bQ.out)
   have n2_ := Aside0.mk (blk_drew aY.out)
   have n3_ := Aside0.mk (blk_drew cd.out)
   have n4_ := Aside0.mk (blk_drew bz.out)
   have n5_ := Aside0.mk (below_drew1 HB.out)
   clear cq
   clear bQ
   clear aY
   clear cd
   clear bz
   clear HB
   have cq := n0_
   have bQ := n1_
   have aY := n2_
   have cd := n3_
   have bz := n4_
   have HB := n5_
   clear n0_ n1_ n2_ n3_ n4_ n5_
   have p207 : 0 ≤ (aj : Int) := of_decide_eq_true p4z
   have q207 : aj < (aa.length : Int) := of_decide_eq_true p4z
   obtain ⟨ad207, A207_2, c207_2, A207_3, c207_3, e207, hx207_0, hx207_1, hx207_2, hx207_3, hl207_2, hi207_2, hl207_3, hi207_3⟩ := at_T37 cP.out aj p207 q207
   have hw207_3 := hx207_3
   have hw207_2 := hx207_2
   have hw207_1 := hx207_1
   have hw207_0 := hx207_0
   cases e207
   replace hx207_0 := (HB.out.cell (World.block_lt_of_cell? w _ hx207_0)).trans hx207_0
   replace hx207_1 := (HB.out.cell (World.block_lt_of_cell? w _ hx207_1)).trans hx207_1
   replace hx207_2 := (HB.out.cell (World.block_lt_of_cell? w _ hx207_2)).trans hx207_2
   replace hx207_3 := (HB.out.cell (World.block_lt_of_cell? w _ hx207_3)).trans hx207_3
   have iN := Aside0.mk hi207_2
   have HC207_2 := Aside0.mk hl207_2
   clear hi207_2 hl207_2
   have iO := Aside0.mk hi207_3
   have HC207_3 := Aside0.mk hl207_3
   clear hi207_3 hl207_3
   replace p207 := eq_true p207
   replace q207 := eq_true q207
   refine start_ (n := 12) (S := fun w' => w'.cell? ⟨b4, 0, none⟩ = some (.int .i64 a0_0) ∧ w'.cell? ⟨b4, 1, none⟩ = some (.string a0_1) ∧ w'.cell? ⟨b4, 2, none⟩ = some (.slice dl t203.length co10) ∧ w'.cell? ⟨b4, 3, none⟩ = some (cR) ∧ w'.cell? ⟨bC, 0, none⟩ = some (.int .i64 a0_0) ∧ w'.cell? ⟨bC, 1, none⟩ = some (.string a0_1) ∧ w'.cell? ⟨bC, 2, none⟩ = some (.slice A0_2 ab.length c0_2) ∧ w'.cell? ⟨bC, 3, none⟩ = some (.slice (some ad207) aa.length c0_3) ∧ w'.cell? (ad207.add ((aj).toNat * 4)) = some (.int .i64 ((rd_T37 aa aj).f0)) ∧ w'.cell? ⟨(ad207.add ((aj).toNat * 4)).block, (ad207.add ((aj).toNat * 4)).off + 1, none⟩ = some (.string ((rd_T37 aa aj).f1)) ∧ w'.cell? ⟨(ad207.add ((aj).toNat * 4)).block, (ad207.add ((aj).toNat * 4)).off + 2, none⟩ = some (.slice A207_2 ((rd_T37 aa aj).f2).length c207_2) ∧ w'.cell? ⟨(ad207.add ((aj).toNat * 4)).block, (ad207.add ((aj).toNat * 4)).off + 3, none⟩ = some (.slice A207_3 ((rd_T37 aa aj).f3).length c207_3)) (ds := [11]) (tf 0 12) p12z rfl rfl ⟨(blk_cell bz.out 0).trans rfl, (blk_cell bz.out 1).trans rfl, (blk_cell bz.out 2).trans rfl, (blk_cell bz.out 3).trans rfl, (blk_cell aY.out 0).trans rfl, (blk_cell aY.out 1).trans rfl, (blk_cell aY.out 2).trans rfl, (blk_cell aY.out 3).trans rfl, ((HB.out.cell (World.block_lt_of_cell? w _ hw207_0)).trans hw207_0), ((HB.out.cell (World.block_lt_of_cell? w _ hw207_1)).trans hw207_1), ((HB.out.cell (World.block_lt_of_cell? w _ hw207_2)).trans hw207_2), ((HB.out.cell (World.block_lt_of_cell? w _ hw207_3)).trans hw207_3)⟩ (fun hHeld => ?_); refine with_tabW ag.tab5 ag.bits5 (fun HT_ HW_ => ?_)
   generalize wr.drew = w22 at cq bQ aY cd bz HB iN iO hx207_0 hx207_1 hx207_2 hx207_3 hHeld ⊢
   refine pzz 0 (some 20) (tf 1 11) ?_
   refine pzz 2 (some 22) (tfs true [1, 1, 1, 9]) ?_
   refine pzz 4 (some 24) (tfs true [1, 1, 1, 1, 1, 7]) ?_
   refine tzz 1 (some 21) (tfs true [3, 1, 1, 7]) ?_
   refine tzz 3 (some 23) (tf 5 7) ?_
   refine pzz 5 (some 25) (tf 6 6) ?_
   refine tzz 6 (some 26) (tf 7 5) ?_
   refine ozz 7 (some 27) (tf 8 4) #[.agg #[.int .i64 ((rd_T37 aa aj).f0), .string ((rd_T37 aa aj).f1), .slice A207_2 ((rd_T37 aa aj).f2).length c207_2, .slice A207_3 ((rd_T37 aa aj).f3).length c207_3]] Tryz.func11 (fun K hK => ?_)
   with_reducible refine (ih k1 p96z ((rd_T37 aa aj).f0) ((rd_T37 aa aj).f1) _ _ ((rd_T37 aa aj).f2) _ _ ((rd_T37 aa aj).f3) t208 jc jd je _ ?side1 ?side2 ?side3 ?side4 A17.out).mono ?_
   (case side1 => repeat (first | exact (Kd.C_below iN.out HB.out) | (with_reducible refine Kd.C_alloc ?_ _) | (with_reducible refine Kd.C_drewN ?_ _) | (with_reducible refine Kd.C_drew ?_)))
   (case side2 => exact HC207_2.out)
   (case side3 => repeat (first | exact (Kd.C_below iO.out HB.out) | (with_reducible refine Kd.C_alloc ?_ _) | (with_reducible refine Kd.C_drewN ?_ _) | (with_reducible refine Kd.C_drew ?_)))
   (case side4 => exact HC207_3.out)
   rintro e w23 ⟨v211, v214, rfl, ho0, ho1, hb⟩
   refine ⟨_, rfl, ?_⟩
   have n0_ := Aside0.mk (Kd.R_elder' p74z (Kd.R_base ho0) hb)
   have n1_ := Aside0.mk (Kd.R_mono (Kd.R_told (Kd.R_told (Kd.R_old p106z hb) (Kd.R_base ho0)) (Kd.R_base ho1)) (fun _ h_ => h_.1))
   have n2_ := Aside0.mk (Kd.R_lower (Kd.R_new' ho0 (Kd.R_lt p74z)) (below_size p14z))
   have n3_ := Aside0.mk (Kd.R_lower (Kd.R_newB (Kd.R_newB (Kd.R_newB (Kd.R_new' (Kd.R_new' ho1 (Kd.R_lt p74z)) (Kd.R_lt p106z)) (g := bC) (o := .cells #[.int .i64 a0_0, .string a0_1, .slice A0_2 ab.length c0_2, .slice (some ad207) aa.length c0_3] 37 (0, 0)) p20z) (g := bL) (o := .cells #[.int .i64 0, .string (⟨#[]⟩ : ByteArray), .slice none 0 0, .slice none 0 0] 37 (0, 0)) p24z) (g := b4) (o := .cells #[.int .i64 a0_0, .string a0_1, .slice dl t203.length co10, cR] 37 (0, 0)) p50z) (below_size p14z))
   have n4_ := Aside0.mk (blk_below (g := bC) (o := .cells #[.int .i64 a0_0, .string a0_1, .slice A0_2 ab.length c0_2, .slice (some ad207) aa.length c0_3] 37 (0, 0)) p20z hb)
   have n5_ := Aside0.mk (blk_below (g := bL) (o := .cells #[.int .i64 0, .string (⟨#[]⟩ : ByteArray), .slice none 0 0, .slice none 0 0] 37 (0, 0)) p24z hb)
   have n6_ := Aside0.mk (blk_below (g := b4) (o := .cells #[.int .i64 a0_0, .string a0_1, .slice dl t203.length co10, cR] 37 (0, 0)) p50z hb)
   have n7_ := Aside0.mk (below_step p14z hb)
   clear cq
   clear bQ
   clear aY
   clear cd
   clear bz
   clear HB
   have cq := n0_
   have bQ := n1_
   have jw := n2_
   have jx := n3_
   have aY := n4_
   have cd := n5_
   have bz := n6_
   have HB := n7_
   clear n0_ n1_ n2_ n3_ n4_ n5_ n6_ n7_
   (try clear hb)
   (try clear hb2)
   (try clear hk)
   (try clear hi)
   (try clear ho0)
   (try clear ho1)
   obtain ⟨jy, co25, eo25⟩ := Kd.R_slice jw.out
   (first | subst eo25 | (injection eo25 with f1_ f2_ f3_; have f4_ := f1_.symm; have f5_ := f3_.symm; clear f1_ f2_ f3_; subst f4_; subst f5_))
   obtain ⟨Ao26, co26, eo26⟩ := Kd.R_slice jx.out
   (first | subst eo26 | (injection eo26 with f1_ f2_ f3_; have f4_ := f1_.symm; have f5_ := f3_.symm; clear f1_ f2_ f3_; subst f4_; subst f5_))
   refine hK.out _ _ ⟨(blk_cell bz.out 0).trans rfl, (blk_cell bz.out 1).trans rfl, (blk_cell bz.out 2).trans rfl, (blk_cell bz.out 3).trans rfl, (blk_cell aY.out 0).trans rfl, (blk_cell aY.out 1).trans rfl, (blk_cell aY.out 2).trans rfl, (blk_cell aY.out 3).trans rfl, ((HB.out.cell (World.block_lt_of_cell? w _ hw207_0)).trans hw207_0), ((HB.out.cell (World.block_lt_of_cell? w _ hw207_1)).trans hw207_1), ((HB.out.cell (World.block_lt_of_cell? w _ hw207_2)).trans hw207_2), ((HB.out.cell (World.block_lt_of_cell? w _ hw207_3)).trans hw207_3)⟩ (fun hHeld => ?_)
   clear hK K
   refine nzz (some 27) ?_
   refine one_ (i := 8) (N := some 28) (tf 9 3) rfl rfl (one_of HT_.out p12z) (by decide) (fun K hK => ?_)
   refine value_ (w1 := ?_) (v := ?_) (by rfl) rfl ?_ ?_
   rotate_left 2
   ·go_simp
    constructor
    ·rfl
    ·rfl
   refine hK.out _ _ ⟨(blk_cell (blk_alloc bz.out _) 0).trans rfl, (blk_cell (blk_alloc bz.out _) 1).trans rfl, (blk_cell (blk_alloc bz.out _) 2).trans rfl, (blk_cell (blk_alloc bz.out _) 3).trans rfl, (blk_cell (blk_alloc aY.out _) 0).trans rfl, (blk_cell (blk_alloc aY.out _) 1).trans rfl, (blk_cell (blk_alloc aY.out _) 2).trans rfl, (blk_cell (blk_alloc aY.out _) 3).trans rfl, (World.cell?_alloc_lt _ _ _ (World.block_lt_of_cell? _ _ (((HB.out.cell (World.block_lt_of_cell? w _ hw207_0)).trans hw207_0)))).trans (((HB.out.cell (World.block_lt_of_cell? w _ hw207_0)).trans hw207_0)), (World.cell?_alloc_lt _ _ _ (World.block_lt_of_cell? _ _ (((HB.out.cell (World.block_lt_of_cell? w _ hw207_1)).trans hw207_1)))).trans (((HB.out.cell (World.block_lt_of_cell? w _ hw207_1)).trans hw207_1)), (World.cell?_alloc_lt _ _ _ (World.block_lt_of_cell? _ _ (((HB.out.cell (World.block_lt_of_cell? w _ hw207_2)).trans hw207_2)))).trans (((HB.out.cell (World.block_lt_of_cell? w _ hw207_2)).trans hw207_2)), (World.cell?_alloc_lt _ _ _ (World.block_lt_of_cell? _ _ (((HB.out.cell (World.block_lt_of_cell? w _ hw207_3)).trans hw207_3)))).trans (((HB.out.cell (World.block_lt_of_cell? w _ hw207_3)).trans hw207_3))⟩ (fun hHeld => ?_)
   clear hK K
   refine nzz (some 28) ?_
   refine one_ (i := 9) (N := some 29) (tf 10 2) rfl rfl (one_of HT_.out p12z) (by decide) (fun K hK => ?_)
   refine Kd.R_append_step k37 (w0 := w) w.heap.size (by rfl) (.tmp 21) (.tmp 28) 35 37 (.agg #[(.int .i64 0), (.string ⟨#[]⟩), (.slice none 0 0), (.slice none 0 0)]) 72 rfl Tryz.underlying35 info37 rfl (by decide) (by omega) cR cp (⟨t208, jc, jd, je⟩ : S37) [.int .i64 t208, .string jc, .slice jy jd.length co25, .slice Ao26 je.length co26] (fun k_ => some k_ ≠ (.slice dl t203.length co10 : Value).ownBlock ∧ k_ ≠ bC ∧ k_ ≠ bL ∧ k_ ≠ b4) (fun k_ => ((fun k_ => some k_ ≠ (.slice dl t203.length co10 : Value).ownBlock ∧ k_ ≠ bC ∧ k_ ≠ bL ∧ k_ ≠ b4)) k_ ∧ some k_ ≠ (cR : Value).ownBlock) rfl rfl ?aP (fun _ hk => hk) ?aF ?aO ?aB ?aS ?aL ?_
   (case aP => exact k37_mkM _ _ _ (⟨t208, jc, jd, je⟩ : S37) (Kd.R_mono (Kd.R_types (Kd.R_types (Kd.R_types (Kd.R_apart' (jw.out) (Kd.R_typed bQ.out) (by decide)) aY.out (by decide)) cd.out (by decide)) bz.out (by decide)) (fun k_ hk => ⟨⟨hk.1.1.1.1.2, ⟨hk.1.1.2, ⟨hk.1.2, hk.2⟩⟩⟩, hk.1.1.1.2⟩)) (Kd.R_mono (jx.out) (fun k_ hk => ⟨⟨hk.1.1.1.1.2, ⟨hk.1.1.2, ⟨hk.1.2, hk.2⟩⟩⟩, hk.1.1.1.2⟩)))
   (case aB => exact p14z)
   (case aF => exact (fun k_ hk => ⟨Kd.fresh' (Kd.R_lt p74z) k_ hk, Kd.freshB (g := bC) (o := .cells #[.int .i64 a0_0, .string a0_1, .slice A0_2 ab.length c0_2, .slice (some ad207) aa.length c0_3] 37 (0, 0)) p20z k_ hk, Kd.freshB (g := bL) (o := .cells #[.int .i64 0, .string (⟨#[]⟩ : ByteArray), .slice none 0 0, .slice none 0 0] 37 (0, 0)) p24z k_ hk, Kd.freshB (g := b4) (o := .cells #[.int .i64 a0_0, .string a0_1, .slice dl t203.length co10, cR] 37 (0, 0)) p50z k_ hk⟩))
   (case aO => exact (by (with_reducible repeat (first | apply Kd.R_alloc | apply Kd.R_drewN | apply Kd.R_drew)); exact Kd.R_mono bQ.out (fun _ hk => ⟨hk.1.1.1, ⟨hk.1.1.2.1, ⟨hk.1.1.2.2.1, hk.1.1.2.2.2⟩⟩⟩)))
   (case aS => exact (below_size p14z))
   (case aL => have := LMc18.out; omega)
   intro v217 w24 ho hb hg hat
   rw [← Ny216.out] at ho
   have n0_ := Aside0.mk (Kd.R_over' p74z (Kd.R_typed p106z) (by decide) hg)
   have n1_ := Aside0.mk (blk_grown (g := bC) (o := .cells #[.int .i64 a0_0, .string a0_1, .slice A0_2 ab.length c0_2, .slice (some ad207) aa.length c0_3] 37 (0, 0)) p20z hg (Kd.R_away bQ.out (fun _ hk => hk.1.1.2.1)))
   have n2_ := Aside0.mk (blk_grown (g := bL) (o := .cells #[.int .i64 0, .string (⟨#[]⟩ : ByteArray), .slice none 0 0, .slice none 0 0] 37 (0, 0)) p24z hg (Kd.R_away bQ.out (fun _ hk => hk.1.1.2.2.1)))
   have n3_ := Aside0.mk (blk_grown (g := b4) (o := .cells #[.int .i64 a0_0, .string a0_1, .slice dl t203.length co10, cR] 37 (0, 0)) p50z hg (Kd.R_away bQ.out (fun _ hk => hk.1.1.2.2.2)))
   have n4_ := Aside0.mk (hb)
   have n5_ := Aside0.mk (ho)
   clear cq
   clear aY
   clear cd
   clear bz
   clear HB
   clear bQ
   clear jw
   clear jx
   have cq := n0_
   have aY := n1_
   have cd := n2_
   have bz := n3_
   have HB := n4_
   have HO218 := n5_
   clear n0_ n1_ n2_ n3_ n4_ n5_
   clear ho hb hg hat
   obtain ⟨jf, co27, eo27⟩ := Kd.R_slice HO218.out
   (first | subst eo27 | (injection eo27 with f1_ f2_ f3_; have f4_ := f1_.symm; have f5_ := f3_.symm; clear f1_ f2_ f3_; subst f4_; subst f5_))
   refine hK.out _ _ ⟨(blk_cell bz.out 0).trans rfl, (blk_cell bz.out 1).trans rfl, (blk_cell bz.out 2).trans rfl, (blk_cell bz.out 3).trans rfl, (blk_cell aY.out 0).trans rfl, (blk_cell aY.out 1).trans rfl, (blk_cell aY.out 2).trans rfl, (blk_cell aY.out 3).trans rfl, ((HB.out.cell (World.block_lt_of_cell? w _ hw207_0)).trans hw207_0), ((HB.out.cell (World.block_lt_of_cell? w _ hw207_1)).trans hw207_1), ((HB.out.cell (World.block_lt_of_cell? w _ hw207_2)).trans hw207_2), ((HB.out.cell (World.block_lt_of_cell? w _ hw207_3)).trans hw207_3)⟩ (fun hHeld => ?_)
   clear hK K
   refine nzz (some 29) ?_
   refine pzz 10 (some 30) (tf 11 1) ?_
   refine last_ (i := 11) (N := none) (tf 12 0) rfl rfl (one_of HT_.out p12z) (by decide) (fun K hK => ?_)
   have hs28 : w24.cell? ⟨b4, 3, none⟩ = some (cR) := (blk_cell bz.out 3).trans rfl
   have hfs28 := blk_frozen bz.out 3
   have hns28_0 := NB201_206.out
   have hns28_1 := NB202_206.out
   have hms28_0 := NB206_201.out
   have hms28_1 := NB206_202.out
   refine skip_ (w1 := ?_) (by rfl) rfl ?_ ?_
   rotate_left
   ·go_simp
    rfl
   refine hK.out _ _ ?_
   clear hK K
   refine done_ (done_of HT_.out p12z) ?_
   try go_wp2
   go_roundg k1
   case measure => have := HK1.out; omega
   case rel => exact ⟨(wrap64 (aj + 1)), (y216), (.slice jf y216.length co27), p5z, H', ⟨p96z⟩, ⟨by (with_reducible repeat (first | apply Kd.R_alloc | apply Kd.R_drewN | apply Kd.R_drew)); exact Kd.R_mono (Kd.R_far (p := ⟨b4, 3, none⟩) (Kd.R_types cq.out bz.out (by decide)) (fun _ hk => hk.2) (.slice jf y216.length co27)) (fun _ hk => trivial)⟩, ⟨by (with_reducible repeat (first | apply Kd.R_alloc | apply Kd.R_drewN | apply Kd.R_drew)); exact Kd.R_mono (Kd.R_far (p := ⟨b4, 3, none⟩) (Kd.R_mono HO218.out (fun k_ hk => (⟨hk, hk.2.2.2⟩ : _ ∧ k_ ≠ b4))) (fun _ hk => hk.2) (.slice jf y216.length co27)) (fun _ hk => ⟨hk.1.1, ⟨hk.1.2.1, ⟨hk.1.2.2.1, hk.1.2.2.2⟩⟩⟩)⟩, ⟨by (with_reducible repeat (first | refine blk_drewN ?_ _ | refine blk_drew ?_ | refine blk_alloc ?_ _)); refine blk_far ?_ NB201_206.out _; (with_reducible repeat (first | refine blk_drewN ?_ _ | refine blk_drew ?_ | refine blk_alloc ?_ _)); exact aY.out⟩, ⟨by (with_reducible repeat (first | refine blk_drewN ?_ _ | refine blk_drew ?_ | refine blk_alloc ?_ _)); refine blk_far ?_ NB202_206.out _; (with_reducible repeat (first | refine blk_drewN ?_ _ | refine blk_drew ?_ | refine blk_alloc ?_ _)); exact cd.out⟩, ⟨by (with_reducible repeat (first | refine blk_drewN ?_ _ | refine blk_drew ?_ | refine blk_alloc ?_ _)); refine blk_put (cs := #[.int .i64 a0_0, .string a0_1, .slice dl t203.length co10, cR]) ?_ 3 _ rfl; (with_reducible repeat (first | refine blk_drewN ?_ _ | refine blk_drew ?_ | refine blk_alloc ?_ _)); exact bz.out⟩, ⟨p14z⟩⟩
end Go.Proofs.YtodnggilomanbaaGreatDoor.PAll
